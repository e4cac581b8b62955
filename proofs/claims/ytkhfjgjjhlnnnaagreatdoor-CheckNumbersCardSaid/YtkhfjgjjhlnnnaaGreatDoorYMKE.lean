/- Parts of one proof, joined; conditions stand in each theorem. -/
import Derived.Test.YtkhfjgjjhlnnnaaGreatDoorYMK
open Go renaming Addr→Bs,World→wD,Calls→xL
open Go.Value renaming slice→A,agg→xS,int→I,string→J
open Go.Proofs.Tryz renaming prog→xD
open Go.IntKind renaming u8→O,i64→Z
open Go.Obj renaming cells→wq
open Decidable renaming decide→xv
open Bool renaming false→xj
namespace Go.Proofs.YtkhfjgjjhlnnnaaGreatDoor
set_option maxHeartbeats 2000000
set_option maxRecDepth 100000
open Go.RowKit
theorem Ea(d:Nat)(N:Hid (eF d))(_HE:Hid (ef d))(_HR:Hid (eV d))(t:ByteArray)(nm pl:Int)(p:Option Bs)(n c:Nat)(a:List ab)(B:Nat)(w:wD)(C:ao w B d a (A p n c))(hB:B≤w.heap.size)(m:dA d a)(q:t.size≤72007)(v:a.length=n) :
  xL xD 79 #[xS #[I O 2,J t,I Z nm,I Z pl,A p n c]] w (am (okK 2 t nm pl a d) w):=by
 have r:FK w (w.alloc (wq #[I O 2,J t,I Z nm,I Z pl,A p n c] 25)):=(EP _ w).alloc (EO _) _;obtain⟨D,E,F,G,H⟩:=cells5 (p9 w (wq #[I O 2,J t,I Z nm,I Z pl,A p n c] 25));obtain⟨K,P,i,j,x⟩:=zz5 r (p9 w (wq #[I O 2,J t,I Z nm,I Z pl,A p n c] 25)) (eD 2 t nm pl a d) (fx 2 t nm pl a d) (fun W=>jl t W q);have s:=Hd (fun W (L:FK w W)=>jR d N.o [3] (by decide) (by decide) #[I O 3] V 1 V a _ B W 0 n (C.z (L.mono hB)) (EU hB L.size) (Fa _) (by rw[v];exact EO _) m);rw[oI (d-1) [3] a n v]at s;have M:=Hd v;clear r C m q v
 by_cases k:0≤pl
 ·have b:xv (0≤pl)=true:=by simpa using k
  have y:=Hd b;clear b
  cases f:(nm==0)
  ·exact dB 2 t nm pl p n c w k f (by omega) (by omega) _ (j.o (by rw[show bL 2 nm=(nm==0) from rfl,f];rfl))
  ·have g:=Hd (i.o (by rw[show bL 2 nm=(nm==0) from rfl,f]) y.o);have Q:(nm != 0)=false:=by show (!(nm==0))=xj;rw[f];rfl
   clear i j
   go_enter Tryz.func79,Tryz.ntmps79
   rw[show cJ 2 t.data.toList a.length=(aN t.data.toList&&!de t.data.toList) from rfl]at g;rw[show bv 2 a=bG [3] a from rfl]at g;generalize (bG [3] a&&a.all (okF (d-1)))=R at *;generalize (aN t.data.toList&&!de t.data.toList)=nf at *;go_wp2_with fail
   refine EX (x.o _) ?_;rintro e w1 ⟨rfl,l⟩;have h:=Hd (K.o.trans (l.mono K.o.size));clear D E F G H;obtain⟨D,E,F,G,H⟩:=cells5 (aa l P.o (by simp));clear l
   cases nf
   ·go_wp2_with fail
    go_ret;exact⟨ah (by rw[g.o];rfl),h.o⟩
   ·go_wp2_with fail
    refine EX (s.o w1 h.o) ?_;rintro e S ⟨rfl,u⟩;have z:=Hd (h.o.trans (u.mono h.o.size));clear u;go_wp2_with fail
    go_ret;exact⟨ah (by rw[g.o];rfl),z.o⟩
 ·have b:xv (0≤pl)=false:=by simpa using k
  exact cN 2 t nm pl p n c w (by omega) _ (j.o (by rw[b,Bool.and_false]))
theorem DV(d:Nat)(N:Hid (eF d))(_HE:Hid (ef d))(_HR:Hid (eV d))(t:ByteArray)(nm pl:Int)(p:Option Bs)(n c:Nat)(a:List ab)(B:Nat)(w:wD)(C:ao w B d a (A p n c))(hB:B≤w.heap.size)(m:dA d a)(q:t.size≤72007)(v:a.length=n) :
  xL xD 79 #[xS #[I O 5,J t,I Z nm,I Z pl,A p n c]] w (am (okK 5 t nm pl a d) w):=by
 have r:FK w (w.alloc (wq #[I O 5,J t,I Z nm,I Z pl,A p n c] 25)):=(EP _ w).alloc (EO _) _;obtain⟨D,E,F,G,H⟩:=cells5 (p9 w (wq #[I O 5,J t,I Z nm,I Z pl,A p n c] 25));obtain⟨K,P,i,j,x⟩:=zz5 r (p9 w (wq #[I O 5,J t,I Z nm,I Z pl,A p n c] 25)) (eD 5 t nm pl a d) (fx 5 t nm pl a d) (fun W=>jl t W q);have s:=Hd (fun W (L:FK w W)=>jR d N.o [12,13,14,15] (by decide) (by decide) #[I O 12,I O 13,I O 14,I O 15] V 4 V a _ B W 0 n (C.z (L.mono hB)) (EU hB L.size) (Fa _) (by rw[v];exact EO _) m);rw[oI (d-1) [12,13,14,15] a n v]at s;have M:=Hd v;clear r C m q v
 by_cases k:0≤pl
 ·have b:xv (0≤pl)=true:=by simpa using k
  have y:=Hd b;clear b
  cases f:(nm==0)
  ·exact dB 5 t nm pl p n c w k f (by omega) (by omega) _ (j.o (by rw[show bL 5 nm=(nm==0) from rfl,f];rfl))
  ·have g:=Hd (i.o (by rw[show bL 5 nm=(nm==0) from rfl,f]) y.o);have Q:(nm != 0)=false:=by show (!(nm==0))=xj;rw[f];rfl
   clear i j
   go_enter Tryz.func79,Tryz.ntmps79
   rw[show cJ 5 t.data.toList a.length=(aN t.data.toList&&!de t.data.toList) from rfl]at g;rw[show bv 5 a=bG [12,13,14,15] a from rfl]at g;generalize (bG [12,13,14,15] a&&a.all (okF (d-1)))=R at *;generalize (aN t.data.toList&&!de t.data.toList)=nf at *;go_wp2_with fail
   refine EX (x.o _) ?_;rintro e w1 ⟨rfl,l⟩;have h:=Hd (K.o.trans (l.mono K.o.size));clear D E F G H;obtain⟨D,E,F,G,H⟩:=cells5 (aa l P.o (by simp));clear l
   cases nf
   ·go_wp2_with fail
    go_ret;exact⟨ah (by rw[g.o];rfl),h.o⟩
   ·go_wp2_with fail
    refine EX (s.o w1 h.o) ?_;rintro e S ⟨rfl,u⟩;have z:=Hd (h.o.trans (u.mono h.o.size));clear u;go_wp2_with fail
    go_ret;exact⟨ah (by rw[g.o];rfl),z.o⟩
 ·have b:xv (0≤pl)=false:=by simpa using k
  exact cN 5 t nm pl p n c w (by omega) _ (j.o (by rw[b,Bool.and_false]))
theorem DI(d:Nat)(N:Hid (eF d))(_HE:Hid (ef d))(_HR:Hid (eV d))(t:ByteArray)(nm pl:Int)(p:Option Bs)(n c:Nat)(a:List ab)(B:Nat)(w:wD)(C:ao w B d a (A p n c))(hB:B≤w.heap.size)(m:dA d a)(q:t.size≤72007)(v:a.length=n) :
  xL xD 79 #[xS #[I O 6,J t,I Z nm,I Z pl,A p n c]] w (am (okK 6 t nm pl a d) w):=by
 have r:FK w (w.alloc (wq #[I O 6,J t,I Z nm,I Z pl,A p n c] 25)):=(EP _ w).alloc (EO _) _;obtain⟨D,E,F,G,H⟩:=cells5 (p9 w (wq #[I O 6,J t,I Z nm,I Z pl,A p n c] 25));obtain⟨K,P,i,j,x⟩:=zz5 r (p9 w (wq #[I O 6,J t,I Z nm,I Z pl,A p n c] 25)) (eD 6 t nm pl a d) (fx 6 t nm pl a d) (fun W=>jl t W q);have s:=Hd (fun W (L:FK w W)=>jR d N.o [12,13,14,15] (by decide) (by decide) #[I O 12,I O 13,I O 14,I O 15] V 4 V a _ B W 0 n (C.z (L.mono hB)) (EU hB L.size) (Fa _) (by rw[v];exact EO _) m);rw[oI (d-1) [12,13,14,15] a n v]at s;have M:=Hd v;clear r C m q v
 by_cases k:0≤pl
 ·have b:xv (0≤pl)=true:=by simpa using k
  have y:=Hd b;clear b
  cases f:(nm==0)
  ·exact dB 6 t nm pl p n c w k f (by omega) (by omega) _ (j.o (by rw[show bL 6 nm=(nm==0) from rfl,f];rfl))
  ·have g:=Hd (i.o (by rw[show bL 6 nm=(nm==0) from rfl,f]) y.o);have Q:(nm != 0)=false:=by show (!(nm==0))=xj;rw[f];rfl
   clear i j
   go_enter Tryz.func79,Tryz.ntmps79
   rw[show cJ 6 t.data.toList a.length=(aN t.data.toList&&!de t.data.toList) from rfl]at g;rw[show bv 6 a=bG [12,13,14,15] a from rfl]at g;generalize (bG [12,13,14,15] a&&a.all (okF (d-1)))=R at *;generalize (aN t.data.toList&&!de t.data.toList)=nf at *;go_wp2_with fail
   refine EX (x.o _) ?_;rintro e w1 ⟨rfl,l⟩;have h:=Hd (K.o.trans (l.mono K.o.size));clear D E F G H;obtain⟨D,E,F,G,H⟩:=cells5 (aa l P.o (by simp));clear l
   cases nf
   ·go_wp2_with fail
    go_ret;exact⟨ah (by rw[g.o];rfl),h.o⟩
   ·go_wp2_with fail
    refine EX (s.o w1 h.o) ?_;rintro e S ⟨rfl,u⟩;have z:=Hd (h.o.trans (u.mono h.o.size));clear u;go_wp2_with fail
    go_ret;exact⟨ah (by rw[g.o];rfl),z.o⟩
 ·have b:xv (0≤pl)=false:=by simpa using k
  exact cN 6 t nm pl p n c w (by omega) _ (j.o (by rw[b,Bool.and_false]))
theorem DU(d:Nat)(_HA:Hid (eF d))(N:Hid (ef d))(_HR:Hid (eV d))(t:ByteArray)(nm pl:Int)(p:Option Bs)(n c:Nat)(a:List ab)(B:Nat)(w:wD)(z:ao w B d a (A p n c))(hB:B≤w.heap.size)(m:dA d a)(q:t.size≤72007)(C:a.length=n) :
  xL xD 79 #[xS #[I O 8,J t,I Z nm,I Z pl,A p n c]] w (am (okK 8 t nm pl a d) w):=by
 have r:FK w (w.alloc (wq #[I O 8,J t,I Z nm,I Z pl,A p n c] 25)):=(EP _ w).alloc (EO _) _;obtain⟨D,E,F,G,H⟩:=cells5 (p9 w (wq #[I O 8,J t,I Z nm,I Z pl,A p n c] 25));obtain⟨K,P,i,j,u⟩:=zz5 r (p9 w (wq #[I O 8,J t,I Z nm,I Z pl,A p n c] 25)) (eD 8 t nm pl a d) (fx 8 t nm pl a d) (fun W=>jl t W q);have v:=Hd (fun W (L:FK w W)=>N.o a _ B W (z.z (L.mono hB)) (EU hB L.size) m);have M:=Hd C;clear r z m q C
 by_cases k:0≤pl
 ·have b:xv (0≤pl)=true:=by simpa using k
  have x:=Hd b;clear b
  cases f:(nm==0)
  ·exact dB 8 t nm pl p n c w k f (by omega) (by omega) _ (j.o (by rw[show bL 8 nm=(nm==0) from rfl,f];rfl))
  ·have g:=Hd (i.o (by rw[show bL 8 nm=(nm==0) from rfl,f]) x.o);have Q:(nm != 0)=false:=by show (!(nm==0))=xj;rw[f];rfl
   clear i j
   go_enter Tryz.func79,Tryz.ntmps79
   rw[show cJ 8 t.data.toList a.length=(aN t.data.toList&&!de t.data.toList) from rfl]at g;rw[show bv 8 a=cI a from rfl]at g;generalize (cI a&&a.all (okF (d-1)))=R at *;generalize (aN t.data.toList&&!de t.data.toList)=nf at *;go_wp2_with fail
   refine EX (u.o _) ?_;rintro e w1 ⟨rfl,l⟩;have h:=Hd (K.o.trans (l.mono K.o.size));clear D E F G H;obtain⟨D,E,F,G,H⟩:=cells5 (aa l P.o (by simp));clear l
   cases nf
   ·go_wp2_with fail
    go_ret;exact⟨ah (by rw[g.o];rfl),h.o⟩
   ·go_wp2_with fail
    refine EX (v.o w1 h.o) ?_;rintro e S ⟨rfl,s⟩;have y:=Hd (h.o.trans (s.mono h.o.size));clear s;go_wp2_with fail
    go_ret;exact⟨ah (by rw[g.o];rfl),y.o⟩
 ·have b:xv (0≤pl)=false:=by simpa using k
  exact cN 8 t nm pl p n c w (by omega) _ (j.o (by rw[b,Bool.and_false]))
theorem Co(d:Nat)(_HA:Hid (eF d))(_HE:Hid (ef d))(_HR:Hid (eV d))(t:ByteArray)(nm pl:Int)(p:Option Bs)(n c:Nat)(b:List ab)(B:Nat)(w:wD)(_hk:ao w B d b (A p n c))(_hB:B≤w.heap.size)(_hsl:dA d b)(_hts:t.size≤72007)(m:b.length=n) :
  xL xD 79 #[xS #[I O 11,J t,I Z nm,I Z pl,A p n c]] w (am (okK 11 t nm pl b d) w):=by
 have j:FK w (w.alloc (wq #[I O 11,J t,I Z nm,I Z pl,A p n c] 25)):=(EP _ w).alloc (EO _) _;obtain⟨s,u,v,x,y⟩:=cells5 (p9 w (wq #[I O 11,J t,I Z nm,I Z pl,A p n c] 25));obtain⟨q,z,g,h,k⟩:=zz5 j (p9 w (wq #[I O 11,J t,I Z nm,I Z pl,A p n c] 25)) (eD 11 t nm pl b d) (fx 11 t nm pl b d) m;clear j _hk _hsl _hts m
 by_cases i:0≤pl
 ·have e:xv (0≤pl)=true:=by simpa using i
  have l:=Hd e;clear e
  cases f:(nm==0)
  ·exact dB 11 t nm pl p n c w i f (by omega) (by omega) _ (h.o (by rw[show bL 11 nm=(nm==0) from rfl,f];rfl))
  ·have a:=Hd (g.o (by rw[show bL 11 nm=(nm==0) from rfl,f]) l.o);have r:(nm != 0)=false:=by show (!(nm==0))=xj;rw[f];rfl
   clear g h
   go_enter Tryz.func79,Tryz.ntmps79
   rw[show cJ 11 t.data.toList b.length=t.toList.isEmpty from gQ t]at a;rw[show bv 11 b=b.isEmpty from rfl,fR (d-1) b n k.o,dK]at a
   cases het:t.toList.isEmpty
   ·rw[het]at a;go_wp2_with fail
    go_ret;exact⟨ah (by rw[a.o];rfl),q.o⟩
   ·rw[het]at a;go_wp2_with fail
    go_ret;exact⟨ah (by rw[a.o];rfl),q.o⟩
 ·have e:xv (0≤pl)=false:=by simpa using i
  exact cN 11 t nm pl p n c w (by omega) _ (h.o (by rw[e,Bool.and_false]))
theorem BY(d:Nat)(_HA:Hid (eF d))(_HE:Hid (ef d))(_HR:Hid (eV d))(t:ByteArray)(nm pl:Int)(p:Option Bs)(n c:Nat)(b:List ab)(B:Nat)(w:wD)(_hk:ao w B d b (A p n c))(_hB:B≤w.heap.size)(_hsl:dA d b)(_hts:t.size≤72007)(m:b.length=n) :
  xL xD 79 #[xS #[I O 12,J t,I Z nm,I Z pl,A p n c]] w (am (okK 12 t nm pl b d) w):=by
 have j:FK w (w.alloc (wq #[I O 12,J t,I Z nm,I Z pl,A p n c] 25)):=(EP _ w).alloc (EO _) _;obtain⟨s,u,v,x,y⟩:=cells5 (p9 w (wq #[I O 12,J t,I Z nm,I Z pl,A p n c] 25));obtain⟨q,z,g,h,k⟩:=zz5 j (p9 w (wq #[I O 12,J t,I Z nm,I Z pl,A p n c] 25)) (eD 12 t nm pl b d) (fx 12 t nm pl b d) m;clear j _hk _hsl _hts m
 by_cases i:0≤pl
 ·have e:xv (0≤pl)=true:=by simpa using i
  have l:=Hd e;clear e
  cases f:(nm==0)
  ·exact dB 12 t nm pl p n c w i f (by omega) (by omega) _ (h.o (by rw[show bL 12 nm=(nm==0) from rfl,f];rfl))
  ·have a:=Hd (g.o (by rw[show bL 12 nm=(nm==0) from rfl,f]) l.o);have r:(nm != 0)=false:=by show (!(nm==0))=xj;rw[f];rfl
   clear g h
   go_enter Tryz.func79,Tryz.ntmps79
   rw[show cJ 12 t.data.toList b.length=t.toList.isEmpty from gQ t]at a;rw[show bv 12 b=b.isEmpty from rfl,fR (d-1) b n k.o,dK]at a
   cases het:t.toList.isEmpty
   ·rw[het]at a;go_wp2_with fail
    go_ret;exact⟨ah (by rw[a.o];rfl),q.o⟩
   ·rw[het]at a;go_wp2_with fail
    go_ret;exact⟨ah (by rw[a.o];rfl),q.o⟩
 ·have e:xv (0≤pl)=false:=by simpa using i
  exact cN 12 t nm pl p n c w (by omega) _ (h.o (by rw[e,Bool.and_false]))
theorem Ef(d:Nat)(_HA:Hid (eF d))(D:Hid (ef d))(_HR:Hid (eV d))(t:ByteArray)(nm pl:Int)(p:Option Bs)(n c:Nat)(b:List ab)(B:Nat)(w:wD)(x:ao w B d b (A p n c))(hB:B≤w.heap.size)(k:dA d b)(_hts:t.size≤72007)(y:b.length=n) :
  xL xD 79 #[xS #[I O 7,J t,I Z nm,I Z pl,A p n c]] w (am (okK 7 t nm pl b d) w):=by
 have l:FK w (w.alloc (wq #[I O 7,J t,I Z nm,I Z pl,A p n c] 25)):=(EP _ w).alloc (EO _) _;obtain⟨F,G,H,K,L⟩:=cells5 (p9 w (wq #[I O 7,J t,I Z nm,I Z pl,A p n c] 25));obtain⟨m,M,h,i⟩:=zz4 l (p9 w (wq #[I O 7,J t,I Z nm,I Z pl,A p n c] 25)) (eD 7 t nm pl b d) (fx 7 t nm pl b d);have s:=Hd (fun W (z:FK w W)=>D.o b _ B W (x.z (z.mono hB)) (EU hB z.size) k);have q:=Hd y;clear l x k _hts y
 by_cases j:0≤pl
 ·have f:xv (0≤pl)=true:=by simpa using j
  have u:=Hd f;clear f
  cases g:(nm==0)
  ·exact dB 7 t nm pl p n c w j g (by omega) (by omega) _ (i.o (by rw[show bL 7 nm=(nm==0) from rfl,g];rfl))
  ·have a:=Hd (h.o (by rw[show bL 7 nm=(nm==0) from rfl,g]) u.o);have E:(nm != 0)=false:=by show (!(nm==0))=xj;rw[g];rfl
   clear h i
   go_enter Tryz.func79,Tryz.ntmps79
   rw[show cJ 7 t.data.toList b.length=t.toList.isEmpty from gQ t]at a;rw[show bv 7 b=(b.length==1&&cI b) from rfl,q.o,show (n==1)=((n:Int)==1) from dK n 1,Bool.and_assoc]at a;generalize (cI b&&b.all (okF (d-1)))=N at *
   cases het:t.toList.isEmpty
   ·rw[het]at a;go_wp2_with fail
    go_ret;exact⟨ah (by rw[a.o];rfl),m.o⟩
   ·rw[het]at a
    cases C:((n:Int)==1)
    ·rw[C]at a;go_wp2_with fail
     go_ret;exact⟨ah (by rw[a.o];rfl),m.o⟩
    ·rw[C]at a;go_wp2_with fail
     refine EX (s.o _ m.o) ?_;rintro e P ⟨rfl,r⟩;have v:=Hd (m.o.trans (r.mono m.o.size));clear r;go_wp2_with fail
     go_ret;exact⟨ah (by rw[a.o];rfl),v.o⟩
 ·have f:xv (0≤pl)=false:=by simpa using j
  exact cN 7 t nm pl p n c w (by omega) _ (i.o (by rw[f,Bool.and_false]))
theorem Cq(d:Nat)(_HA:Hid (eF d))(E:Hid (ef d))(_HR:Hid (eV d))(t:ByteArray)(nm pl:Int)(p:Option Bs)(n c:Nat)(b:List ab)(B:Nat)(w:wD)(z:ao w B d b (A p n c))(hB:B≤w.heap.size)(l:dA d b)(_hts:t.size≤72007)(C:b.length=n) :
  xL xD 79 #[xS #[I O 10,J t,I Z nm,I Z pl,A p n c]] w (am (okK 10 t nm pl b d) w):=by
 have m:FK w (w.alloc (wq #[I O 10,J t,I Z nm,I Z pl,A p n c] 25)):=(EP _ w).alloc (EO _) _;obtain⟨G,H,K,L,M⟩:=cells5 (p9 w (wq #[I O 10,J t,I Z nm,I Z pl,A p n c] 25));obtain⟨q,N,i,j⟩:=zz4 m (p9 w (wq #[I O 10,J t,I Z nm,I Z pl,A p n c] 25)) (eD 10 t nm pl b d) (fx 10 t nm pl b d);have u:=Hd (fun W (D:FK w W)=>E.o b _ B W (z.z (D.mono hB)) (EU hB D.size) l);have r:=Hd C;clear m z l _hts C
 by_cases k:0≤pl
 ·have g:xv (0≤pl)=true:=by simpa using k
  have v:=Hd g;clear g
  cases h:(nm==0)
  ·exact dB 10 t nm pl p n c w k h (by omega) (by omega) _ (j.o (by rw[show bL 10 nm=(nm==0) from rfl,h];rfl))
  ·have a:=Hd (i.o (by rw[show bL 10 nm=(nm==0) from rfl,h]) v.o);have F:(nm != 0)=false:=by show (!(nm==0))=xj;rw[h];rfl
   clear i j
   go_enter Tryz.func79,Tryz.ntmps79
   rw[show cJ 10 t.data.toList b.length=t.toList.isEmpty from gQ t]at a;rw[show bv 10 b=(xv (0<b.length)&&cI b) from rfl,r.o,Eo,Bool.and_assoc]at a;generalize (cI b&&b.all (okF (d-1)))=P at *
   cases het:t.toList.isEmpty
   ·rw[het]at a;go_wp2_with fail
    go_ret;exact⟨ah (by rw[a.o];rfl),q.o⟩
   ·rw[het]at a
    by_cases x:(1:Int)≤n
    ·have f:xv ((1:Int)≤n)=true:=by simpa using x
     rw[f]at a;clear f;go_wp2_with fail
     refine EX (u.o _ q.o) ?_;rintro e Q ⟨rfl,s⟩;have y:=Hd (q.o.trans (s.mono q.o.size));clear s;go_wp2_with fail
     go_ret;exact⟨ah (by rw[a.o];rfl),y.o⟩
    ·have f:xv ((1:Int)≤n)=false:=by simpa using x
     rw[f]at a;have R:(n:Int)<1:=by omega
     clear f x;go_wp2_with fail
     go_ret;exact⟨ah (by rw[a.o];rfl),q.o⟩
 ·have g:xv (0≤pl)=false:=by simpa using k
  exact cN 10 t nm pl p n c w (by omega) _ (j.o (by rw[g,Bool.and_false]))
theorem C7(d:Nat)(_HA:Hid (eF d))(_HE:Hid (ef d))(_HR:Hid (eV d))(t:ByteArray)(nm pl:Int)(p:Option Bs)(n c:Nat)(a:List ab)(B:Nat)(w:wD)(_hk:ao w B d a (A p n c))(_hB:B≤w.heap.size)(_hsl:dA d a)(m:t.size≤72007)(s:a.length=n) :
  xL xD 79 #[xS #[I O 13,J t,I Z nm,I Z pl,A p n c]] w (am (okK 13 t nm pl a d) w):=by
 have k:FK w (w.alloc (wq #[I O 13,J t,I Z nm,I Z pl,A p n c] 25)):=(EP _ w).alloc (EO _) _;obtain⟨x,y,z,C,D⟩:=cells5 (p9 w (wq #[I O 13,J t,I Z nm,I Z pl,A p n c] 25));obtain⟨u,E,h,i,q,l⟩:=zz6 k (p9 w (wq #[I O 13,J t,I Z nm,I Z pl,A p n c] 25)) (eD 13 t nm pl a d) (fx 13 t nm pl a d) (fun W=>mE t W (by omega)) s;clear k _hk _hsl m s
 by_cases j:0≤pl
 ·have b:xv (0≤pl)=true:=by simpa using j
  have r:=Hd b;clear b
  cases f:(nm==0)
  ·exact dB 13 t nm pl p n c w j f (by omega) (by omega) _ (i.o (by rw[show bL 13 nm=(nm==0) from rfl,f];rfl))
  ·have g:=Hd (h.o (by rw[show bL 13 nm=(nm==0) from rfl,f]) r.o);have v:(nm != 0)=false:=by show (!(nm==0))=xj;rw[f];rfl
   clear h i
   go_enter Tryz.func79,Tryz.ntmps79
   rw[show cJ 13 t.data.toList a.length=aN t.data.toList from rfl]at g;rw[show bv 13 a=a.isEmpty from rfl,fR (d-1) a n l.o,dK]at g;generalize aN t.data.toList=nf at *;go_wp2_with fail
   refine EX (q.o _) ?_;rintro e w1 ⟨rfl,rfl⟩
   cases nf
   ·go_wp2_with fail
    go_ret;exact⟨ah (by rw[g.o];rfl),u.o⟩
   ·go_wp2_with fail
    go_ret;exact⟨ah (by rw[g.o];rfl),u.o⟩
 ·have b:xv (0≤pl)=false:=by simpa using j
  exact cN 13 t nm pl p n c w (by omega) _ (i.o (by rw[b,Bool.and_false]))
theorem Bz(d:Nat)(_HA:Hid (eF d))(_HE:Hid (ef d))(_HR:Hid (eV d))(t:ByteArray)(nm pl:Int)(p:Option Bs)(n c:Nat)(a:List ab)(B:Nat)(w:wD)(_hk:ao w B d a (A p n c))(_hB:B≤w.heap.size)(_hsl:dA d a)(m:t.size≤72007)(s:a.length=n) :
  xL xD 79 #[xS #[I O 15,J t,I Z nm,I Z pl,A p n c]] w (am (okK 15 t nm pl a d) w):=by
 have k:FK w (w.alloc (wq #[I O 15,J t,I Z nm,I Z pl,A p n c] 25)):=(EP _ w).alloc (EO _) _;obtain⟨x,y,z,C,D⟩:=cells5 (p9 w (wq #[I O 15,J t,I Z nm,I Z pl,A p n c] 25));obtain⟨u,E,h,i,q,l⟩:=zz6 k (p9 w (wq #[I O 15,J t,I Z nm,I Z pl,A p n c] 25)) (eD 15 t nm pl a d) (fx 15 t nm pl a d) (fun W=>mE t W (by omega)) s;clear k _hk _hsl m s
 by_cases j:0≤pl
 ·have b:xv (0≤pl)=true:=by simpa using j
  have r:=Hd b;clear b
  cases f:(nm==0)
  ·exact dB 15 t nm pl p n c w j f (by omega) (by omega) _ (i.o (by rw[show bL 15 nm=(nm==0) from rfl,f];rfl))
  ·have g:=Hd (h.o (by rw[show bL 15 nm=(nm==0) from rfl,f]) r.o);have v:(nm != 0)=false:=by show (!(nm==0))=xj;rw[f];rfl
   clear h i
   go_enter Tryz.func79,Tryz.ntmps79
   rw[show cJ 15 t.data.toList a.length=aN t.data.toList from rfl]at g;rw[show bv 15 a=a.isEmpty from rfl,fR (d-1) a n l.o,dK]at g;generalize aN t.data.toList=nf at *;go_wp2_with fail
   refine EX (q.o _) ?_;rintro e w1 ⟨rfl,rfl⟩
   cases nf
   ·go_wp2_with fail
    go_ret;exact⟨ah (by rw[g.o];rfl),u.o⟩
   ·go_wp2_with fail
    go_ret;exact⟨ah (by rw[g.o];rfl),u.o⟩
 ·have b:xv (0≤pl)=false:=by simpa using j
  exact cN 15 t nm pl p n c w (by omega) _ (i.o (by rw[b,Bool.and_false]))
theorem BQ(d:Nat)(_HA:Hid (eF d))(_HE:Hid (ef d))(_HR:Hid (eV d))(t:ByteArray)(nm pl:Int)(p:Option Bs)(n c:Nat)(a:List ab)(B:Nat)(w:wD)(_hk:ao w B d a (A p n c))(_hB:B≤w.heap.size)(_hsl:dA d a)(k:t.size≤72007)(s:a.length=n) :
  xL xD 79 #[xS #[I O 14,J t,I Z nm,I Z pl,A p n c]] w (am (okK 14 t nm pl a d) w):=by
 have l:FK w (w.alloc (wq #[I O 14,J t,I Z nm,I Z pl,A p n c] 25)):=(EP _ w).alloc (EO _) _;obtain⟨x,y,z,C,D⟩:=cells5 (p9 w (wq #[I O 14,J t,I Z nm,I Z pl,A p n c] 25));obtain⟨u,E,h,i,q,m⟩:=zz6 l (p9 w (wq #[I O 14,J t,I Z nm,I Z pl,A p n c] 25)) (eD 14 t nm pl a d) (fx 14 t nm pl a d) (fun W=>uj t W k) s;clear l _hk _hsl k s
 by_cases j:0≤pl
 ·have b:xv (0≤pl)=true:=by simpa using j
  have r:=Hd b;clear b
  cases f:(nm==0)
  ·exact dB 14 t nm pl p n c w j f (by omega) (by omega) _ (i.o (by rw[show bL 14 nm=(nm==0) from rfl,f];rfl))
  ·have g:=Hd (h.o (by rw[show bL 14 nm=(nm==0) from rfl,f]) r.o);have v:(nm != 0)=false:=by show (!(nm==0))=xj;rw[f];rfl
   clear h i
   go_enter Tryz.func79,Tryz.ntmps79
   rw[show cJ 14 t.data.toList a.length=(number (strip t.data.toList)).isSome from rfl]at g;rw[show bv 14 a=a.isEmpty from rfl,fR (d-1) a n m.o,dK]at g;generalize (number (strip t.data.toList)).isSome=nf at *;go_wp2_with fail
   refine EX (q.o _) ?_;rintro e w1 ⟨rfl,rfl⟩
   cases nf
   ·go_wp2_with fail
    go_ret;exact⟨ah (by rw[g.o];rfl),u.o⟩
   ·go_wp2_with fail
    go_ret;exact⟨ah (by rw[g.o];rfl),u.o⟩
 ·have b:xv (0≤pl)=false:=by simpa using j
  exact cN 14 t nm pl p n c w (by omega) _ (i.o (by rw[b,Bool.and_false]))
