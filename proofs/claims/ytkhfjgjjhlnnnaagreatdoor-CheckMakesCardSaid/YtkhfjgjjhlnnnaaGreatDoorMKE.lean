/- Parts of one proof, joined; conditions stand in each theorem. -/
import Derived.Test.YtkhfjgjjhlnnnaaGreatDoorMK
open Go renaming Addr→z6,World→vk,Calls→wB
open Go.Value renaming slice→A,agg→wD,int→I,string→J
open Go.Proofs.Tryz renaming prog→wq
open Go.IntKind renaming u8→O,i64→Z
open Go.Obj renaming cells→ur
open Decidable renaming decide→wo
open Bool renaming false→wj
namespace Go.Proofs.YtkhfjgjjhlnnnaaGreatDoor
set_option maxHeartbeats 2000000
set_option maxRecDepth 100000
open Go.RowKit
theorem Ex(d:Nat)(N:Hid (eF d))(_HE:Hid (ef d))(_HR:Hid (eX d))(t:ByteArray)(nm pl:Int)(p:Option z6)(n c:Nat)(a:List ab)(B:Nat)(w:vk)(C:aj w B d a (A p n c))(hB:B≤w.heap.size)(m:cD d a)(q:t.size≤72007)(v:a.length=n) :
  wB wq 79 #[wD #[I O 2,J t,I Z nm,I Z pl,A p n c]] w (ao (okK 2 t nm pl a d) w):=by
 have r:Gc w (w.alloc (ur #[I O 2,J t,I Z nm,I Z pl,A p n c] 25)):=(Fl _ w).alloc (Fj _) _;obtain⟨D,E,F,G,H⟩:=cells5 (qv w (ur #[I O 2,J t,I Z nm,I Z pl,A p n c] 25));obtain⟨K,P,i,j,x⟩:=zz5 r (qv w (ur #[I O 2,J t,I Z nm,I Z pl,A p n c] 25)) (eD 2 t nm pl a d) (fu 2 t nm pl a d) (fun W=>jh t W q);have s:=Hd (fun W (L:Gc w W)=>jO d N.o [3] (by decide) (by decide) #[I O 3] V 1 V a _ B W 0 n (C.u (L.mono hB)) (Fu hB L.size) (FA _) (by rw[v];exact Fj _) m);rw[oz (d-1) [3] a n v]at s;have M:=Hd v;clear r C m q v
 by_cases k:0≤pl
 ·have b:wo (0≤pl)=true:=by simpa using k
  have y:=Hd b;clear b
  cases f:(nm==0)
  ·exact dC 2 t nm pl p n c w k f (by omega) (by omega) _ (j.o (by rw[show bN 2 nm=(nm==0) from rfl,f];rfl))
  ·have g:=Hd (i.o (by rw[show bN 2 nm=(nm==0) from rfl,f]) y.o);have Q:(nm != 0)=false:=by show (!(nm==0))=wj;rw[f];rfl
   clear i j
   go_enter Tryz.func79,Tryz.ntmps79
   rw[show cL 2 t.data.toList a.length=(aN t.data.toList&&!di t.data.toList) from rfl]at g;rw[show bw 2 a=bI [3] a from rfl]at g;generalize (bI [3] a&&a.all (okF (d-1)))=R at *;generalize (aN t.data.toList&&!di t.data.toList)=nf at *;go_wp2_with fail
   refine Fx (x.o _) ?_;rintro e w1 ⟨rfl,l⟩;have h:=Hd (K.o.trans (l.mono K.o.size));clear D E F G H;obtain⟨D,E,F,G,H⟩:=cells5 (aa l P.o (by simp));clear l
   cases nf
   ·go_wp2_with fail
    go_ret;exact⟨ah (by rw[g.o];rfl),h.o⟩
   ·go_wp2_with fail
    refine Fx (s.o w1 h.o) ?_;rintro e S ⟨rfl,u⟩;have z:=Hd (h.o.trans (u.mono h.o.size));clear u;go_wp2_with fail
    go_ret;exact⟨ah (by rw[g.o];rfl),z.o⟩
 ·have b:wo (0≤pl)=false:=by simpa using k
  exact cP 2 t nm pl p n c w (by omega) _ (j.o (by rw[b,Bool.and_false]))
theorem Eg(d:Nat)(N:Hid (eF d))(_HE:Hid (ef d))(_HR:Hid (eX d))(t:ByteArray)(nm pl:Int)(p:Option z6)(n c:Nat)(a:List ab)(B:Nat)(w:vk)(C:aj w B d a (A p n c))(hB:B≤w.heap.size)(m:cD d a)(q:t.size≤72007)(v:a.length=n) :
  wB wq 79 #[wD #[I O 5,J t,I Z nm,I Z pl,A p n c]] w (ao (okK 5 t nm pl a d) w):=by
 have r:Gc w (w.alloc (ur #[I O 5,J t,I Z nm,I Z pl,A p n c] 25)):=(Fl _ w).alloc (Fj _) _;obtain⟨D,E,F,G,H⟩:=cells5 (qv w (ur #[I O 5,J t,I Z nm,I Z pl,A p n c] 25));obtain⟨K,P,i,j,x⟩:=zz5 r (qv w (ur #[I O 5,J t,I Z nm,I Z pl,A p n c] 25)) (eD 5 t nm pl a d) (fu 5 t nm pl a d) (fun W=>jh t W q);have s:=Hd (fun W (L:Gc w W)=>jO d N.o [12,13,14,15] (by decide) (by decide) #[I O 12,I O 13,I O 14,I O 15] V 4 V a _ B W 0 n (C.u (L.mono hB)) (Fu hB L.size) (FA _) (by rw[v];exact Fj _) m);rw[oz (d-1) [12,13,14,15] a n v]at s;have M:=Hd v;clear r C m q v
 by_cases k:0≤pl
 ·have b:wo (0≤pl)=true:=by simpa using k
  have y:=Hd b;clear b
  cases f:(nm==0)
  ·exact dC 5 t nm pl p n c w k f (by omega) (by omega) _ (j.o (by rw[show bN 5 nm=(nm==0) from rfl,f];rfl))
  ·have g:=Hd (i.o (by rw[show bN 5 nm=(nm==0) from rfl,f]) y.o);have Q:(nm != 0)=false:=by show (!(nm==0))=wj;rw[f];rfl
   clear i j
   go_enter Tryz.func79,Tryz.ntmps79
   rw[show cL 5 t.data.toList a.length=(aN t.data.toList&&!di t.data.toList) from rfl]at g;rw[show bw 5 a=bI [12,13,14,15] a from rfl]at g;generalize (bI [12,13,14,15] a&&a.all (okF (d-1)))=R at *;generalize (aN t.data.toList&&!di t.data.toList)=nf at *;go_wp2_with fail
   refine Fx (x.o _) ?_;rintro e w1 ⟨rfl,l⟩;have h:=Hd (K.o.trans (l.mono K.o.size));clear D E F G H;obtain⟨D,E,F,G,H⟩:=cells5 (aa l P.o (by simp));clear l
   cases nf
   ·go_wp2_with fail
    go_ret;exact⟨ah (by rw[g.o];rfl),h.o⟩
   ·go_wp2_with fail
    refine Fx (s.o w1 h.o) ?_;rintro e S ⟨rfl,u⟩;have z:=Hd (h.o.trans (u.mono h.o.size));clear u;go_wp2_with fail
    go_ret;exact⟨ah (by rw[g.o];rfl),z.o⟩
 ·have b:wo (0≤pl)=false:=by simpa using k
  exact cP 5 t nm pl p n c w (by omega) _ (j.o (by rw[b,Bool.and_false]))
theorem D8(d:Nat)(N:Hid (eF d))(_HE:Hid (ef d))(_HR:Hid (eX d))(t:ByteArray)(nm pl:Int)(p:Option z6)(n c:Nat)(a:List ab)(B:Nat)(w:vk)(C:aj w B d a (A p n c))(hB:B≤w.heap.size)(m:cD d a)(q:t.size≤72007)(v:a.length=n) :
  wB wq 79 #[wD #[I O 6,J t,I Z nm,I Z pl,A p n c]] w (ao (okK 6 t nm pl a d) w):=by
 have r:Gc w (w.alloc (ur #[I O 6,J t,I Z nm,I Z pl,A p n c] 25)):=(Fl _ w).alloc (Fj _) _;obtain⟨D,E,F,G,H⟩:=cells5 (qv w (ur #[I O 6,J t,I Z nm,I Z pl,A p n c] 25));obtain⟨K,P,i,j,x⟩:=zz5 r (qv w (ur #[I O 6,J t,I Z nm,I Z pl,A p n c] 25)) (eD 6 t nm pl a d) (fu 6 t nm pl a d) (fun W=>jh t W q);have s:=Hd (fun W (L:Gc w W)=>jO d N.o [12,13,14,15] (by decide) (by decide) #[I O 12,I O 13,I O 14,I O 15] V 4 V a _ B W 0 n (C.u (L.mono hB)) (Fu hB L.size) (FA _) (by rw[v];exact Fj _) m);rw[oz (d-1) [12,13,14,15] a n v]at s;have M:=Hd v;clear r C m q v
 by_cases k:0≤pl
 ·have b:wo (0≤pl)=true:=by simpa using k
  have y:=Hd b;clear b
  cases f:(nm==0)
  ·exact dC 6 t nm pl p n c w k f (by omega) (by omega) _ (j.o (by rw[show bN 6 nm=(nm==0) from rfl,f];rfl))
  ·have g:=Hd (i.o (by rw[show bN 6 nm=(nm==0) from rfl,f]) y.o);have Q:(nm != 0)=false:=by show (!(nm==0))=wj;rw[f];rfl
   clear i j
   go_enter Tryz.func79,Tryz.ntmps79
   rw[show cL 6 t.data.toList a.length=(aN t.data.toList&&!di t.data.toList) from rfl]at g;rw[show bw 6 a=bI [12,13,14,15] a from rfl]at g;generalize (bI [12,13,14,15] a&&a.all (okF (d-1)))=R at *;generalize (aN t.data.toList&&!di t.data.toList)=nf at *;go_wp2_with fail
   refine Fx (x.o _) ?_;rintro e w1 ⟨rfl,l⟩;have h:=Hd (K.o.trans (l.mono K.o.size));clear D E F G H;obtain⟨D,E,F,G,H⟩:=cells5 (aa l P.o (by simp));clear l
   cases nf
   ·go_wp2_with fail
    go_ret;exact⟨ah (by rw[g.o];rfl),h.o⟩
   ·go_wp2_with fail
    refine Fx (s.o w1 h.o) ?_;rintro e S ⟨rfl,u⟩;have z:=Hd (h.o.trans (u.mono h.o.size));clear u;go_wp2_with fail
    go_ret;exact⟨ah (by rw[g.o];rfl),z.o⟩
 ·have b:wo (0≤pl)=false:=by simpa using k
  exact cP 6 t nm pl p n c w (by omega) _ (j.o (by rw[b,Bool.and_false]))
theorem Ef(d:Nat)(_HA:Hid (eF d))(N:Hid (ef d))(_HR:Hid (eX d))(t:ByteArray)(nm pl:Int)(p:Option z6)(n c:Nat)(a:List ab)(B:Nat)(w:vk)(z:aj w B d a (A p n c))(hB:B≤w.heap.size)(m:cD d a)(q:t.size≤72007)(C:a.length=n) :
  wB wq 79 #[wD #[I O 8,J t,I Z nm,I Z pl,A p n c]] w (ao (okK 8 t nm pl a d) w):=by
 have r:Gc w (w.alloc (ur #[I O 8,J t,I Z nm,I Z pl,A p n c] 25)):=(Fl _ w).alloc (Fj _) _;obtain⟨D,E,F,G,H⟩:=cells5 (qv w (ur #[I O 8,J t,I Z nm,I Z pl,A p n c] 25));obtain⟨K,P,i,j,u⟩:=zz5 r (qv w (ur #[I O 8,J t,I Z nm,I Z pl,A p n c] 25)) (eD 8 t nm pl a d) (fu 8 t nm pl a d) (fun W=>jh t W q);have v:=Hd (fun W (L:Gc w W)=>N.o a _ B W (z.u (L.mono hB)) (Fu hB L.size) m);have M:=Hd C;clear r z m q C
 by_cases k:0≤pl
 ·have b:wo (0≤pl)=true:=by simpa using k
  have x:=Hd b;clear b
  cases f:(nm==0)
  ·exact dC 8 t nm pl p n c w k f (by omega) (by omega) _ (j.o (by rw[show bN 8 nm=(nm==0) from rfl,f];rfl))
  ·have g:=Hd (i.o (by rw[show bN 8 nm=(nm==0) from rfl,f]) x.o);have Q:(nm != 0)=false:=by show (!(nm==0))=wj;rw[f];rfl
   clear i j
   go_enter Tryz.func79,Tryz.ntmps79
   rw[show cL 8 t.data.toList a.length=(aN t.data.toList&&!di t.data.toList) from rfl]at g;rw[show bw 8 a=cK a from rfl]at g;generalize (cK a&&a.all (okF (d-1)))=R at *;generalize (aN t.data.toList&&!di t.data.toList)=nf at *;go_wp2_with fail
   refine Fx (u.o _) ?_;rintro e w1 ⟨rfl,l⟩;have h:=Hd (K.o.trans (l.mono K.o.size));clear D E F G H;obtain⟨D,E,F,G,H⟩:=cells5 (aa l P.o (by simp));clear l
   cases nf
   ·go_wp2_with fail
    go_ret;exact⟨ah (by rw[g.o];rfl),h.o⟩
   ·go_wp2_with fail
    refine Fx (v.o w1 h.o) ?_;rintro e S ⟨rfl,s⟩;have y:=Hd (h.o.trans (s.mono h.o.size));clear s;go_wp2_with fail
    go_ret;exact⟨ah (by rw[g.o];rfl),y.o⟩
 ·have b:wo (0≤pl)=false:=by simpa using k
  exact cP 8 t nm pl p n c w (by omega) _ (j.o (by rw[b,Bool.and_false]))
theorem CE(d:Nat)(_HA:Hid (eF d))(_HE:Hid (ef d))(_HR:Hid (eX d))(t:ByteArray)(nm pl:Int)(p:Option z6)(n c:Nat)(b:List ab)(B:Nat)(w:vk)(_hk:aj w B d b (A p n c))(_hB:B≤w.heap.size)(_hsl:cD d b)(_hts:t.size≤72007)(m:b.length=n) :
  wB wq 79 #[wD #[I O 11,J t,I Z nm,I Z pl,A p n c]] w (ao (okK 11 t nm pl b d) w):=by
 have j:Gc w (w.alloc (ur #[I O 11,J t,I Z nm,I Z pl,A p n c] 25)):=(Fl _ w).alloc (Fj _) _;obtain⟨s,u,v,x,y⟩:=cells5 (qv w (ur #[I O 11,J t,I Z nm,I Z pl,A p n c] 25));obtain⟨q,z,g,h,k⟩:=zz5 j (qv w (ur #[I O 11,J t,I Z nm,I Z pl,A p n c] 25)) (eD 11 t nm pl b d) (fu 11 t nm pl b d) m;clear j _hk _hsl _hts m
 by_cases i:0≤pl
 ·have e:wo (0≤pl)=true:=by simpa using i
  have l:=Hd e;clear e
  cases f:(nm==0)
  ·exact dC 11 t nm pl p n c w i f (by omega) (by omega) _ (h.o (by rw[show bN 11 nm=(nm==0) from rfl,f];rfl))
  ·have a:=Hd (g.o (by rw[show bN 11 nm=(nm==0) from rfl,f]) l.o);have r:(nm != 0)=false:=by show (!(nm==0))=wj;rw[f];rfl
   clear g h
   go_enter Tryz.func79,Tryz.ntmps79
   rw[show cL 11 t.data.toList b.length=t.toList.isEmpty from gP t]at a;rw[show bw 11 b=b.isEmpty from rfl,fP (d-1) b n k.o,dJ]at a
   cases het:t.toList.isEmpty
   ·rw[het]at a;go_wp2_with fail
    go_ret;exact⟨ah (by rw[a.o];rfl),q.o⟩
   ·rw[het]at a;go_wp2_with fail
    go_ret;exact⟨ah (by rw[a.o];rfl),q.o⟩
 ·have e:wo (0≤pl)=false:=by simpa using i
  exact cP 11 t nm pl p n c w (by omega) _ (h.o (by rw[e,Bool.and_false]))
theorem Cg(d:Nat)(_HA:Hid (eF d))(_HE:Hid (ef d))(_HR:Hid (eX d))(t:ByteArray)(nm pl:Int)(p:Option z6)(n c:Nat)(b:List ab)(B:Nat)(w:vk)(_hk:aj w B d b (A p n c))(_hB:B≤w.heap.size)(_hsl:cD d b)(_hts:t.size≤72007)(m:b.length=n) :
  wB wq 79 #[wD #[I O 12,J t,I Z nm,I Z pl,A p n c]] w (ao (okK 12 t nm pl b d) w):=by
 have j:Gc w (w.alloc (ur #[I O 12,J t,I Z nm,I Z pl,A p n c] 25)):=(Fl _ w).alloc (Fj _) _;obtain⟨s,u,v,x,y⟩:=cells5 (qv w (ur #[I O 12,J t,I Z nm,I Z pl,A p n c] 25));obtain⟨q,z,g,h,k⟩:=zz5 j (qv w (ur #[I O 12,J t,I Z nm,I Z pl,A p n c] 25)) (eD 12 t nm pl b d) (fu 12 t nm pl b d) m;clear j _hk _hsl _hts m
 by_cases i:0≤pl
 ·have e:wo (0≤pl)=true:=by simpa using i
  have l:=Hd e;clear e
  cases f:(nm==0)
  ·exact dC 12 t nm pl p n c w i f (by omega) (by omega) _ (h.o (by rw[show bN 12 nm=(nm==0) from rfl,f];rfl))
  ·have a:=Hd (g.o (by rw[show bN 12 nm=(nm==0) from rfl,f]) l.o);have r:(nm != 0)=false:=by show (!(nm==0))=wj;rw[f];rfl
   clear g h
   go_enter Tryz.func79,Tryz.ntmps79
   rw[show cL 12 t.data.toList b.length=t.toList.isEmpty from gP t]at a;rw[show bw 12 b=b.isEmpty from rfl,fP (d-1) b n k.o,dJ]at a
   cases het:t.toList.isEmpty
   ·rw[het]at a;go_wp2_with fail
    go_ret;exact⟨ah (by rw[a.o];rfl),q.o⟩
   ·rw[het]at a;go_wp2_with fail
    go_ret;exact⟨ah (by rw[a.o];rfl),q.o⟩
 ·have e:wo (0≤pl)=false:=by simpa using i
  exact cP 12 t nm pl p n c w (by omega) _ (h.o (by rw[e,Bool.and_false]))
theorem ED(d:Nat)(_HA:Hid (eF d))(D:Hid (ef d))(_HR:Hid (eX d))(t:ByteArray)(nm pl:Int)(p:Option z6)(n c:Nat)(b:List ab)(B:Nat)(w:vk)(x:aj w B d b (A p n c))(hB:B≤w.heap.size)(k:cD d b)(_hts:t.size≤72007)(y:b.length=n) :
  wB wq 79 #[wD #[I O 7,J t,I Z nm,I Z pl,A p n c]] w (ao (okK 7 t nm pl b d) w):=by
 have l:Gc w (w.alloc (ur #[I O 7,J t,I Z nm,I Z pl,A p n c] 25)):=(Fl _ w).alloc (Fj _) _;obtain⟨F,G,H,K,L⟩:=cells5 (qv w (ur #[I O 7,J t,I Z nm,I Z pl,A p n c] 25));obtain⟨m,M,h,i⟩:=zz4 l (qv w (ur #[I O 7,J t,I Z nm,I Z pl,A p n c] 25)) (eD 7 t nm pl b d) (fu 7 t nm pl b d);have s:=Hd (fun W (z:Gc w W)=>D.o b _ B W (x.u (z.mono hB)) (Fu hB z.size) k);have q:=Hd y;clear l x k _hts y
 by_cases j:0≤pl
 ·have f:wo (0≤pl)=true:=by simpa using j
  have u:=Hd f;clear f
  cases g:(nm==0)
  ·exact dC 7 t nm pl p n c w j g (by omega) (by omega) _ (i.o (by rw[show bN 7 nm=(nm==0) from rfl,g];rfl))
  ·have a:=Hd (h.o (by rw[show bN 7 nm=(nm==0) from rfl,g]) u.o);have E:(nm != 0)=false:=by show (!(nm==0))=wj;rw[g];rfl
   clear h i
   go_enter Tryz.func79,Tryz.ntmps79
   rw[show cL 7 t.data.toList b.length=t.toList.isEmpty from gP t]at a;rw[show bw 7 b=(b.length==1&&cK b) from rfl,q.o,show (n==1)=((n:Int)==1) from dJ n 1,Bool.and_assoc]at a;generalize (cK b&&b.all (okF (d-1)))=N at *
   cases het:t.toList.isEmpty
   ·rw[het]at a;go_wp2_with fail
    go_ret;exact⟨ah (by rw[a.o];rfl),m.o⟩
   ·rw[het]at a
    cases C:((n:Int)==1)
    ·rw[C]at a;go_wp2_with fail
     go_ret;exact⟨ah (by rw[a.o];rfl),m.o⟩
    ·rw[C]at a;go_wp2_with fail
     refine Fx (s.o _ m.o) ?_;rintro e P ⟨rfl,r⟩;have v:=Hd (m.o.trans (r.mono m.o.size));clear r;go_wp2_with fail
     go_ret;exact⟨ah (by rw[a.o];rfl),v.o⟩
 ·have f:wo (0≤pl)=false:=by simpa using j
  exact cP 7 t nm pl p n c w (by omega) _ (i.o (by rw[f,Bool.and_false]))
theorem CH(d:Nat)(_HA:Hid (eF d))(E:Hid (ef d))(_HR:Hid (eX d))(t:ByteArray)(nm pl:Int)(p:Option z6)(n c:Nat)(b:List ab)(B:Nat)(w:vk)(z:aj w B d b (A p n c))(hB:B≤w.heap.size)(l:cD d b)(_hts:t.size≤72007)(C:b.length=n) :
  wB wq 79 #[wD #[I O 10,J t,I Z nm,I Z pl,A p n c]] w (ao (okK 10 t nm pl b d) w):=by
 have m:Gc w (w.alloc (ur #[I O 10,J t,I Z nm,I Z pl,A p n c] 25)):=(Fl _ w).alloc (Fj _) _;obtain⟨G,H,K,L,M⟩:=cells5 (qv w (ur #[I O 10,J t,I Z nm,I Z pl,A p n c] 25));obtain⟨q,N,i,j⟩:=zz4 m (qv w (ur #[I O 10,J t,I Z nm,I Z pl,A p n c] 25)) (eD 10 t nm pl b d) (fu 10 t nm pl b d);have u:=Hd (fun W (D:Gc w W)=>E.o b _ B W (z.u (D.mono hB)) (Fu hB D.size) l);have r:=Hd C;clear m z l _hts C
 by_cases k:0≤pl
 ·have g:wo (0≤pl)=true:=by simpa using k
  have v:=Hd g;clear g
  cases h:(nm==0)
  ·exact dC 10 t nm pl p n c w k h (by omega) (by omega) _ (j.o (by rw[show bN 10 nm=(nm==0) from rfl,h];rfl))
  ·have a:=Hd (i.o (by rw[show bN 10 nm=(nm==0) from rfl,h]) v.o);have F:(nm != 0)=false:=by show (!(nm==0))=wj;rw[h];rfl
   clear i j
   go_enter Tryz.func79,Tryz.ntmps79
   rw[show cL 10 t.data.toList b.length=t.toList.isEmpty from gP t]at a;rw[show bw 10 b=(wo (0<b.length)&&cK b) from rfl,r.o,EL,Bool.and_assoc]at a;generalize (cK b&&b.all (okF (d-1)))=P at *
   cases het:t.toList.isEmpty
   ·rw[het]at a;go_wp2_with fail
    go_ret;exact⟨ah (by rw[a.o];rfl),q.o⟩
   ·rw[het]at a
    by_cases x:(1:Int)≤n
    ·have f:wo ((1:Int)≤n)=true:=by simpa using x
     rw[f]at a;clear f;go_wp2_with fail
     refine Fx (u.o _ q.o) ?_;rintro e Q ⟨rfl,s⟩;have y:=Hd (q.o.trans (s.mono q.o.size));clear s;go_wp2_with fail
     go_ret;exact⟨ah (by rw[a.o];rfl),y.o⟩
    ·have f:wo ((1:Int)≤n)=false:=by simpa using x
     rw[f]at a;have R:(n:Int)<1:=by omega
     clear f x;go_wp2_with fail
     go_ret;exact⟨ah (by rw[a.o];rfl),q.o⟩
 ·have g:wo (0≤pl)=false:=by simpa using k
  exact cP 10 t nm pl p n c w (by omega) _ (j.o (by rw[g,Bool.and_false]))
theorem Dn(d:Nat)(_HA:Hid (eF d))(_HE:Hid (ef d))(_HR:Hid (eX d))(t:ByteArray)(nm pl:Int)(p:Option z6)(n c:Nat)(a:List ab)(B:Nat)(w:vk)(_hk:aj w B d a (A p n c))(_hB:B≤w.heap.size)(_hsl:cD d a)(m:t.size≤72007)(s:a.length=n) :
  wB wq 79 #[wD #[I O 13,J t,I Z nm,I Z pl,A p n c]] w (ao (okK 13 t nm pl a d) w):=by
 have k:Gc w (w.alloc (ur #[I O 13,J t,I Z nm,I Z pl,A p n c] 25)):=(Fl _ w).alloc (Fj _) _;obtain⟨x,y,z,C,D⟩:=cells5 (qv w (ur #[I O 13,J t,I Z nm,I Z pl,A p n c] 25));obtain⟨u,E,h,i,q,l⟩:=zz6 k (qv w (ur #[I O 13,J t,I Z nm,I Z pl,A p n c] 25)) (eD 13 t nm pl a d) (fu 13 t nm pl a d) (fun W=>mA t W (by omega)) s;clear k _hk _hsl m s
 by_cases j:0≤pl
 ·have b:wo (0≤pl)=true:=by simpa using j
  have r:=Hd b;clear b
  cases f:(nm==0)
  ·exact dC 13 t nm pl p n c w j f (by omega) (by omega) _ (i.o (by rw[show bN 13 nm=(nm==0) from rfl,f];rfl))
  ·have g:=Hd (h.o (by rw[show bN 13 nm=(nm==0) from rfl,f]) r.o);have v:(nm != 0)=false:=by show (!(nm==0))=wj;rw[f];rfl
   clear h i
   go_enter Tryz.func79,Tryz.ntmps79
   rw[show cL 13 t.data.toList a.length=aN t.data.toList from rfl]at g;rw[show bw 13 a=a.isEmpty from rfl,fP (d-1) a n l.o,dJ]at g;generalize aN t.data.toList=nf at *;go_wp2_with fail
   refine Fx (q.o _) ?_;rintro e w1 ⟨rfl,rfl⟩
   cases nf
   ·go_wp2_with fail
    go_ret;exact⟨ah (by rw[g.o];rfl),u.o⟩
   ·go_wp2_with fail
    go_ret;exact⟨ah (by rw[g.o];rfl),u.o⟩
 ·have b:wo (0≤pl)=false:=by simpa using j
  exact cP 13 t nm pl p n c w (by omega) _ (i.o (by rw[b,Bool.and_false]))
theorem BL(d:Nat)(_HA:Hid (eF d))(_HE:Hid (ef d))(_HR:Hid (eX d))(t:ByteArray)(nm pl:Int)(p:Option z6)(n c:Nat)(a:List ab)(B:Nat)(w:vk)(_hk:aj w B d a (A p n c))(_hB:B≤w.heap.size)(_hsl:cD d a)(m:t.size≤72007)(s:a.length=n) :
  wB wq 79 #[wD #[I O 15,J t,I Z nm,I Z pl,A p n c]] w (ao (okK 15 t nm pl a d) w):=by
 have k:Gc w (w.alloc (ur #[I O 15,J t,I Z nm,I Z pl,A p n c] 25)):=(Fl _ w).alloc (Fj _) _;obtain⟨x,y,z,C,D⟩:=cells5 (qv w (ur #[I O 15,J t,I Z nm,I Z pl,A p n c] 25));obtain⟨u,E,h,i,q,l⟩:=zz6 k (qv w (ur #[I O 15,J t,I Z nm,I Z pl,A p n c] 25)) (eD 15 t nm pl a d) (fu 15 t nm pl a d) (fun W=>mA t W (by omega)) s;clear k _hk _hsl m s
 by_cases j:0≤pl
 ·have b:wo (0≤pl)=true:=by simpa using j
  have r:=Hd b;clear b
  cases f:(nm==0)
  ·exact dC 15 t nm pl p n c w j f (by omega) (by omega) _ (i.o (by rw[show bN 15 nm=(nm==0) from rfl,f];rfl))
  ·have g:=Hd (h.o (by rw[show bN 15 nm=(nm==0) from rfl,f]) r.o);have v:(nm != 0)=false:=by show (!(nm==0))=wj;rw[f];rfl
   clear h i
   go_enter Tryz.func79,Tryz.ntmps79
   rw[show cL 15 t.data.toList a.length=aN t.data.toList from rfl]at g;rw[show bw 15 a=a.isEmpty from rfl,fP (d-1) a n l.o,dJ]at g;generalize aN t.data.toList=nf at *;go_wp2_with fail
   refine Fx (q.o _) ?_;rintro e w1 ⟨rfl,rfl⟩
   cases nf
   ·go_wp2_with fail
    go_ret;exact⟨ah (by rw[g.o];rfl),u.o⟩
   ·go_wp2_with fail
    go_ret;exact⟨ah (by rw[g.o];rfl),u.o⟩
 ·have b:wo (0≤pl)=false:=by simpa using j
  exact cP 15 t nm pl p n c w (by omega) _ (i.o (by rw[b,Bool.and_false]))
theorem B9(d:Nat)(_HA:Hid (eF d))(_HE:Hid (ef d))(_HR:Hid (eX d))(t:ByteArray)(nm pl:Int)(p:Option z6)(n c:Nat)(a:List ab)(B:Nat)(w:vk)(_hk:aj w B d a (A p n c))(_hB:B≤w.heap.size)(_hsl:cD d a)(k:t.size≤72007)(s:a.length=n) :
  wB wq 79 #[wD #[I O 14,J t,I Z nm,I Z pl,A p n c]] w (ao (okK 14 t nm pl a d) w):=by
 have l:Gc w (w.alloc (ur #[I O 14,J t,I Z nm,I Z pl,A p n c] 25)):=(Fl _ w).alloc (Fj _) _;obtain⟨x,y,z,C,D⟩:=cells5 (qv w (ur #[I O 14,J t,I Z nm,I Z pl,A p n c] 25));obtain⟨u,E,h,i,q,m⟩:=zz6 l (qv w (ur #[I O 14,J t,I Z nm,I Z pl,A p n c] 25)) (eD 14 t nm pl a d) (fu 14 t nm pl a d) (fun W=>um t W k) s;clear l _hk _hsl k s
 by_cases j:0≤pl
 ·have b:wo (0≤pl)=true:=by simpa using j
  have r:=Hd b;clear b
  cases f:(nm==0)
  ·exact dC 14 t nm pl p n c w j f (by omega) (by omega) _ (i.o (by rw[show bN 14 nm=(nm==0) from rfl,f];rfl))
  ·have g:=Hd (h.o (by rw[show bN 14 nm=(nm==0) from rfl,f]) r.o);have v:(nm != 0)=false:=by show (!(nm==0))=wj;rw[f];rfl
   clear h i
   go_enter Tryz.func79,Tryz.ntmps79
   rw[show cL 14 t.data.toList a.length=(number (strip t.data.toList)).isSome from rfl]at g;rw[show bw 14 a=a.isEmpty from rfl,fP (d-1) a n m.o,dJ]at g;generalize (number (strip t.data.toList)).isSome=nf at *;go_wp2_with fail
   refine Fx (q.o _) ?_;rintro e w1 ⟨rfl,rfl⟩
   cases nf
   ·go_wp2_with fail
    go_ret;exact⟨ah (by rw[g.o];rfl),u.o⟩
   ·go_wp2_with fail
    go_ret;exact⟨ah (by rw[g.o];rfl),u.o⟩
 ·have b:wo (0≤pl)=false:=by simpa using j
  exact cP 14 t nm pl p n c w (by omega) _ (i.o (by rw[b,Bool.and_false]))
