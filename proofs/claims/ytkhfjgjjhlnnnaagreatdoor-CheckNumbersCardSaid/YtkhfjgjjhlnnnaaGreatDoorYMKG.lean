/- Parts of one proof, joined; conditions stand in each theorem. -/
import Derived.Test.YtkhfjgjjhlnnnaaGreatDoorYMK
import Derived.Test.YtkhfjgjjhlnnnaaGreatDoorYMKE
open Go.Value renaming slice→A,agg→xS,int→I,string→J
open Go.Proofs.Tryz renaming prog→xD
open Go.IntKind renaming u8→O,i64→Z
open Go.Obj renaming cells→wq
open Decidable renaming decide→xv
namespace Go.Proofs.YtkhfjgjjhlnnnaaGreatDoor
set_option maxHeartbeats 2000000
set_option maxRecDepth 100000
open Go.RowKit
theorem DX(d:Nat)(_HA:Hid (eF d))(_HE:Hid (ef d))(_HR:Hid (eV d))(t:ByteArray)(nm pl:Int)(p:Option Addr)(n c:Nat)(e:List ab)(B:Nat)(w:World)(_hk:ao w B d e (A p n c))(_hB:B≤w.heap.size)(_hsl:dA d e)(_hts:t.size≤72007)(y:e.length=n) :
  Calls xD 79 #[xS #[I O 9,J t,I Z nm,I Z pl,A p n c]] w (am (okK 9 t nm pl e d) w):=by
 have q:FK w (w.alloc (wq #[I O 9,J t,I Z nm,I Z pl,A p n c] 25)):=(EP _ w).alloc (EO _) _;obtain⟨z,C,D,E,F⟩:=cells5 (p9 w (wq #[I O 9,J t,I Z nm,I Z pl,A p n c] 25));obtain⟨j,G,k,h,l⟩:=zz5 q (p9 w (wq #[I O 9,J t,I Z nm,I Z pl,A p n c] 25)) (eD 9 t nm pl e d) (fx 9 t nm pl e d) y;clear q _hk _hsl _hts y
 by_cases r:0≤pl
 ·have i:xv (0≤pl)=true:=by simpa using r
  have v:=Hd i;clear i
  cases b:xv ((0:Int)≤nm)
  ·have s:=Hd (h.o (by rw[show bL 9 nm=(xv ((0:Int)≤nm)&&xv (nm≤2147483647)) from rfl,b];rfl));have u:nm<0:=by simpa using b
   have f:(nm==0)=false:=by simp;omega
   have m:(nm != 0)=true:=by show (!(nm==0))=true;rw[f];rfl
   clear b
   go_enter Tryz.func79,Tryz.ntmps79
   cases het:t.toList.isEmpty
   ·go_wp2_with fail
    go_ret;exact⟨ah s.o.symm,j.o⟩
   ·go_wp2_with fail
    go_ret;exact⟨ah s.o.symm,j.o⟩
  ·cases g:xv (nm≤(2147483647:Int))
   ·have s:=Hd (h.o (by rw[show bL 9 nm=(xv ((0:Int)≤nm)&&xv (nm≤2147483647)) from rfl,g];simp));have u:(0:Int)≤nm:=by simpa using b
    have x:(2147483647:Int)<nm:=by simpa using g
    have f:(nm==0)=false:=by simp;omega
    have m:(nm != 0)=true:=by show (!(nm==0))=true;rw[f];rfl
    clear b g
    go_enter Tryz.func79,Tryz.ntmps79
    cases het:t.toList.isEmpty
    ·go_wp2_with fail
     go_ret;exact⟨ah s.o.symm,j.o⟩
    ·go_wp2_with fail
     go_ret;exact⟨ah s.o.symm,j.o⟩
   ·have a:=Hd (k.o (by rw[show bL 9 nm=(xv ((0:Int)≤nm)&&xv (nm≤2147483647)) from rfl,b,g];rfl) v.o);have u:(0:Int)≤nm:=by simpa using b
    have x:nm≤(2147483647:Int):=by simpa using g
    clear k h b g
    go_enter Tryz.func79,Tryz.ntmps79
    cases f:(nm==0)
    ·have m:(nm != 0)=true:=by show (!(nm==0))=true;rw[f];rfl
     rw[show cJ 9 t.data.toList e.length=t.toList.isEmpty from gQ t]at a;rw[show bv 9 e=e.isEmpty from rfl,fR (d-1) e n l.o,dK]at a
     cases het:t.toList.isEmpty
     ·rw[het]at a;go_wp2_with fail
      go_ret;exact⟨ah (by rw[a.o];rfl),j.o⟩
     ·rw[het]at a;go_wp2_with fail
      go_ret;exact⟨ah (by rw[a.o];rfl),j.o⟩
    ·have m:(nm != 0)=false:=by show (!(nm==0))=false;rw[f];rfl
     rw[show cJ 9 t.data.toList e.length=t.toList.isEmpty from gQ t]at a;rw[show bv 9 e=e.isEmpty from rfl,fR (d-1) e n l.o,dK]at a
     cases het:t.toList.isEmpty
     ·rw[het]at a;go_wp2_with fail
      go_ret;exact⟨ah (by rw[a.o];rfl),j.o⟩
     ·rw[het]at a;go_wp2_with fail
      go_ret;exact⟨ah (by rw[a.o];rfl),j.o⟩
 ·have i:xv (0≤pl)=false:=by simpa using r
  exact cN 9 t nm pl p n c w (by omega) _ (h.o (by rw[i,Bool.and_false]))
theorem Dk(d:Nat)(_HA:Hid (eF d))(_HE:Hid (ef d))(HR:Hid (eV d))(t:ByteArray)(nm pl:Int)(p:Option Addr)(n c:Nat)(f:List ab)(B:Nat)(w:World)(R:ao w B d f (A p n c))(hB:B≤w.heap.size)(E:dA d f)(F:t.size≤72007)(S:f.length=n) :
  Calls xD 79 #[xS #[I O 4,J t,I Z nm,I Z pl,A p n c]] w (am (okK 4 t nm pl f d) w):=by
 have G:FK w (w.alloc (wq #[I O 4,J t,I Z nm,I Z pl,A p n c] 25)):=(EP _ w).alloc (EO _) _;obtain⟨r,s,u,v,x⟩:=cells5 (p9 w (wq #[I O 4,J t,I Z nm,I Z pl,A p n c] 25));obtain⟨y,N,z,l,m⟩:=zz5 G (p9 w (wq #[I O 4,J t,I Z nm,I Z pl,A p n c] 25)) (eD 4 t nm pl f d) (fx 4 t nm pl f d) (fun W=>jl t W F);have H:=Hd (fun W (T:FK w W)=>HR.o f _ B W (R.z (T.mono hB)) (EU hB T.size) E);have X:=Hd S;clear G R E F S
 by_cases K:0≤pl
 ·have q:xv (0≤pl)=true:=by simpa using K
  have P:=Hd q;clear q
  cases g:xv ((-2147483647:Int)≤nm)
  ·have L:=Hd (l.o (by rw[show bL 4 nm=(xv ((-2147483647:Int)≤nm)&&xv (nm≤2147483647)) from rfl,g];rfl));have M:nm < -2147483647:=by simpa using g
   have i:(nm==0)=false:=by simp;omega
   have C:(nm != 0)=true:=by show (!(nm==0))=true;rw[i];rfl
   clear g
   go_enter Tryz.func79,Tryz.ntmps79
   generalize (aN t.data.toList&&!de t.data.toList)=nf at *;go_wp2_with fail
   refine EX (m.o _) ?_;rintro e w1 ⟨rfl,a⟩;have b:=Hd (y.o.trans (a.mono y.o.size));clear r s u v x;obtain⟨r,s,u,v,x⟩:=cells5 (aa a N.o (by simp));clear a
   cases nf
   ·go_wp2_with fail
    go_ret;exact⟨ah L.o.symm,b.o⟩
   ·go_wp2_with fail
    go_ret;exact⟨ah L.o.symm,b.o⟩
  ·cases j:xv (nm≤(2147483647:Int))
   ·have L:=Hd (l.o (by rw[show bL 4 nm=(xv ((-2147483647:Int)≤nm)&&xv (nm≤2147483647)) from rfl,j];simp));have M:(-2147483647:Int)≤nm:=by simpa using g
    have Q:(2147483647:Int)<nm:=by simpa using j
    have i:(nm==0)=false:=by simp;omega
    have C:(nm != 0)=true:=by show (!(nm==0))=true;rw[i];rfl
    clear g j
    go_enter Tryz.func79,Tryz.ntmps79
    generalize (aN t.data.toList&&!de t.data.toList)=nf at *;go_wp2_with fail
    refine EX (m.o _) ?_;rintro e w1 ⟨rfl,a⟩;have b:=Hd (y.o.trans (a.mono y.o.size));clear r s u v x;obtain⟨r,s,u,v,x⟩:=cells5 (aa a N.o (by simp));clear a
    cases nf
    ·go_wp2_with fail
     go_ret;exact⟨ah L.o.symm,b.o⟩
    ·go_wp2_with fail
     go_ret;exact⟨ah L.o.symm,b.o⟩
   ·have h:=Hd (z.o (by rw[show bL 4 nm=(xv ((-2147483647:Int)≤nm)&&xv (nm≤2147483647)) from rfl,g,j];rfl) P.o);have M:(-2147483647:Int)≤nm:=by simpa using g
    have Q:nm≤(2147483647:Int):=by simpa using j
    clear z l g j
    go_enter Tryz.func79,Tryz.ntmps79
    cases i:(nm==0)
    ·have C:(nm != 0)=true:=by show (!(nm==0))=true;rw[i];rfl
     rw[show cJ 4 t.data.toList f.length=(aN t.data.toList&&!de t.data.toList) from rfl]at h;rw[show bv 4 f=rowB f from rfl]at h;generalize (rowB f&&f.all (okF (d-1)))=kk at *;generalize (aN t.data.toList&&!de t.data.toList)=nf at *;go_wp2_with fail
     refine EX (m.o _) ?_;rintro e w1 ⟨rfl,a⟩;have b:=Hd (y.o.trans (a.mono y.o.size));clear r s u v x;obtain⟨r,s,u,v,x⟩:=cells5 (aa a N.o (by simp));clear a
     cases nf
     ·go_wp2_with fail
      go_ret;exact⟨ah (by rw[h.o];rfl),b.o⟩
     ·go_wp2_with fail
      refine EX (H.o w1 b.o) ?_;rintro e w2 ⟨rfl,k⟩;have D:=Hd (b.o.trans (k.mono b.o.size));clear k;go_wp2_with fail
      go_ret;exact⟨ah (by rw[h.o];rfl),D.o⟩
    ·have C:(nm != 0)=false:=by show (!(nm==0))=false;rw[i];rfl
     rw[show cJ 4 t.data.toList f.length=(aN t.data.toList&&!de t.data.toList) from rfl]at h;rw[show bv 4 f=rowB f from rfl]at h;generalize (rowB f&&f.all (okF (d-1)))=kk at *;generalize (aN t.data.toList&&!de t.data.toList)=nf at *;go_wp2_with fail
     refine EX (m.o _) ?_;rintro e w1 ⟨rfl,a⟩;have b:=Hd (y.o.trans (a.mono y.o.size));clear r s u v x;obtain⟨r,s,u,v,x⟩:=cells5 (aa a N.o (by simp));clear a
     cases nf
     ·go_wp2_with fail
      go_ret;exact⟨ah (by rw[h.o];rfl),b.o⟩
     ·go_wp2_with fail
      refine EX (H.o w1 b.o) ?_;rintro e w2 ⟨rfl,k⟩;have D:=Hd (b.o.trans (k.mono b.o.size));clear k;go_wp2_with fail
      go_ret;exact⟨ah (by rw[h.o];rfl),D.o⟩
 ·have q:xv (0≤pl)=false:=by simpa using K
  exact cN 4 t nm pl p n c w (by omega) _ (l.o (by rw[q,Bool.and_false]))
theorem Cw(d:Nat)(_HA:Hid (eF d))(S:Hid (ef d))(_HR:Hid (eV d))(t:ByteArray)(nm pl:Int)(p:Option Addr)(n c:Nat)(f:List ab)(B:Nat)(w:World)(G:ao w B d f (A p n c))(hB:B≤w.heap.size)(u:dA d f)(_hts:t.size≤72007)(H:f.length=n) :
  Calls xD 79 #[xS #[I O 16,J t,I Z nm,I Z pl,A p n c]] w (am (okK 16 t nm pl f d) w):=by
 have v:FK w (w.alloc (wq #[I O 16,J t,I Z nm,I Z pl,A p n c] 25)):=(EP _ w).alloc (EO _) _;obtain⟨K,L,M,N,P⟩:=cells5 (p9 w (wq #[I O 16,J t,I Z nm,I Z pl,A p n c] 25));obtain⟨h,T,l,m,D⟩:=zz5 v (p9 w (wq #[I O 16,J t,I Z nm,I Z pl,A p n c] 25)) (eD 16 t nm pl f d) (fx 16 t nm pl f d) (fun W=>BU t W);have q:=Hd (fun W (Q:FK w W)=>S.o f _ B W (G.z (Q.mono hB)) (EU hB Q.size) u);have x:=Hd H;clear v G u _hts H
 by_cases r:0≤pl
 ·have i:xv (0≤pl)=true:=by simpa using r
  have E:=Hd i;clear i
  cases j:(nm==0)
  ·exact dB 16 t nm pl p n c w r j (by omega) (by omega) _ (m.o (by rw[show bL 16 nm=(nm==0) from rfl,j];rfl))
  ·have a:=Hd (l.o (by rw[show bL 16 nm=(nm==0) from rfl,j]) E.o);have X:(nm != 0)=false:=by show (!(nm==0))=false;rw[j];rfl
   clear l m
   go_enter Tryz.func79,Tryz.ntmps79
   rw[show cJ 16 t.data.toList f.length=((f.length==1&&cg kX t.data.toList)||(f.length==2&&cg jf t.data.toList)) from rfl,x.o,show (n==1)=((n:Int)==1) from dK n 1,show (n==2)=((n:Int)==2) from dK n 2,show bv 16 f=cI f from rfl]at a;rw[AG]at a;generalize (cI f&&f.all (okF (d-1)))=kk at *;generalize cg jf t.data.toList=tw at *
   cases F:((n:Int)==1)
   ·rw[F]at a
    cases C:((n:Int)==2)
    ·rw[C]at a;go_wp2_with fail
     go_ret;exact⟨ah (by rw[a.o];rfl),h.o⟩
    ·rw[C]at a;go_wp2_with fail
     refine EX (D.o _) ?_;rintro e w1 ⟨rfl,s⟩;have k:=Hd (h.o.trans (s.mono h.o.size));clear K L M N P;obtain⟨K,L,M,N,P⟩:=cells5 (aa s T.o (by simp));clear s
     cases tw
     ·go_wp2_with fail
      go_ret;exact⟨ah (by rw[a.o];rfl),k.o⟩
     ·go_wp2_with fail
      refine EX (q.o w1 k.o) ?_;rintro e R ⟨rfl,b⟩;have g:=Hd (k.o.trans (b.mono k.o.size));clear b;go_wp2_with fail
      go_ret;exact⟨ah (by rw[a.o];rfl),g.o⟩
   ·rw[F]at a;have C:((n:Int)==2)=false:=by simp at F ⊢;omega
    cases y:(t.toList==[45])
    ·rw[y]at a
     cases z:(t.toList==[110,111,116])
     ·rw[z,C]at a;go_wp2_with fail
      go_ret;exact⟨ah (by rw[a.o];rfl),h.o⟩
     ·rw[z]at a;go_wp2_with fail
      refine EX (q.o _ h.o) ?_;rintro e R ⟨rfl,b⟩;have g:=Hd (h.o.trans (b.mono h.o.size));clear b;go_wp2_with fail
      go_ret;exact⟨ah (by rw[a.o];rfl),g.o⟩
    ·rw[y]at a;go_wp2_with fail
     refine EX (q.o _ h.o) ?_;rintro e R ⟨rfl,b⟩;have g:=Hd (h.o.trans (b.mono h.o.size));clear b;go_wp2_with fail
     go_ret;exact⟨ah (by rw[a.o];rfl),g.o⟩
 ·have i:xv (0≤pl)=false:=by simpa using r
  exact cN 16 t nm pl p n c w (by omega) _ (m.o (by rw[i,Bool.and_false]))
theorem yM(k:Nat)(t:ByteArray)(nm pl:Int)(p:Option Addr)(n c:Nat)(w:World)(h:k=0∨16<k)(P:Bool)(d:P=false) :
  Calls xD 79 #[xS #[I O k,J t,I Z nm,I Z pl,A p n c]] w (am P w):=by
 by_cases e:0≤pl
 ·cases a:(nm==0)
  ·exact dB k t nm pl p n c w e a (by omega) (by omega) P d
  ·subst d;have b:FK w (w.alloc (wq #[I O k,J t,I Z nm,I Z pl,A p n c] 25)):=(EP _ w).alloc (EO _) _;obtain⟨u,v,x,y,z⟩:=cells5 (p9 w (wq #[I O k,J t,I Z nm,I Z pl,A p n c] 25));have f:=Hd b;have g:(nm != 0)=false:=by show (!(nm==0))=false;rw[a];rfl
   have B:((k:Int)==2)=false:=by simp;omega
   have C:((k:Int)==3)=false:=by simp;omega
   have D:((k:Int)==4)=false:=by simp;omega
   have E:((k:Int)==5)=false:=by simp;omega
   have F:((k:Int)==6)=false:=by simp;omega
   have G:((k:Int)==7)=false:=by simp;omega
   have H:((k:Int)==8)=false:=by simp;omega
   have K:((k:Int)==9)=false:=by simp;omega
   have i:((k:Int)==10)=false:=by simp;omega
   have j:((k:Int)==11)=false:=by simp;omega
   have l:((k:Int)==12)=false:=by simp;omega
   have m:((k:Int)==13)=false:=by simp;omega
   have q:((k:Int)==14)=false:=by simp;omega
   have r:((k:Int)==15)=false:=by simp;omega
   have s:((k:Int)==16)=false:=by simp;omega
   clear b h
   go_enter Tryz.func79,Tryz.ntmps79
   go_wp2_with fail
   go_ret;exact⟨V,f.o⟩
 ·exact cN k t nm pl p n c w (by omega) P d
theorem Dx(d:Nat)(T:ab)(a:d=0→T.u=[])(b:1≤T.b)(c:T.b≤16):okF d T=okK T.b T.f T.h T.y T.u d:=by
 rw[qK d T a];unfold aI okK;have e:xv (1≤T.b)=true:=by simpa using b
 have f:xv (T.b≤16)=true:=by simpa using c
 rw[e,f,Bool.true_and,Bool.true_and]
theorem Cy(d:Nat)(b:eF d):zA d:=by
 intro T v B w r hB m x;obtain⟨_,s,rfl,l⟩:=r;obtain⟨p,c,rfl,_,_⟩:=l.rows;have o:d=0→T.u=[]:=fun h=>by subst h;exact l.1
 by_cases g:1≤T.b∧T.b≤16
 ·rw[Dx d T o g.1 g.2]
  have done:∀(k:Nat) (h:T.b=k) (q:∀(t:ByteArray) (nm pl:Int) (p:Option Addr) (n c:Nat) (f:List ab) (B:Nat) (w:World),ao w B d f (A p n c)→B≤w.heap.size→dA d f→t.size≤72007→f.length=n→
    Calls xD 79 #[xS #[I O k,J t,I Z nm,I Z pl,A p n c]] w (am (okK k t nm pl f d) w)),Calls xD 79 #[xS #[I O T.b,J T.f,I Z T.h,I Z T.y,A p T.u.length c]] w (am (okK T.b T.f T.h T.y T.u d) w):=by
   intro k h q;rw[h];exact q T.f T.h T.y p T.u.length c T.u B w l hB m.u m.f V
  have u:T.b=2∨T.b=3∨T.b=4∨T.b=5∨T.b=6∨T.b=7∨T.b=8∨T.b=9∨T.b=10∨T.b=11∨T.b=12∨T.b=13∨T.b=14∨T.b=15∨T.b=16:=by omega
  rcases u with h|h|h|h|h|h|h|h|h|h|h|h|h|h|h
  ·exact done 2 h (fun t nm pl p n c f B w g hB i a j=>Ea d (Hd b) (Hd (di d b)) (Hd (dM d b)) t nm pl p n c f B w g hB i a j)
  ·exact done 3 h (fun t nm pl p n c f B w g hB i a j=>Dj d (Hd b) (Hd (di d b)) (Hd (dM d b)) t nm pl p n c f B w g hB i a j)
  ·exact done 4 h (fun t nm pl p n c f B w g hB i a j=>Dk d (Hd b) (Hd (di d b)) (Hd (dM d b)) t nm pl p n c f B w g hB i a j)
  ·exact done 5 h (fun t nm pl p n c f B w g hB i a j=>DV d (Hd b) (Hd (di d b)) (Hd (dM d b)) t nm pl p n c f B w g hB i a j)
  ·exact done 6 h (fun t nm pl p n c f B w g hB i a j=>DI d (Hd b) (Hd (di d b)) (Hd (dM d b)) t nm pl p n c f B w g hB i a j)
  ·exact done 7 h (fun t nm pl p n c f B w g hB i a j=>Ef d (Hd b) (Hd (di d b)) (Hd (dM d b)) t nm pl p n c f B w g hB i a j)
  ·exact done 8 h (fun t nm pl p n c f B w g hB i a j=>DU d (Hd b) (Hd (di d b)) (Hd (dM d b)) t nm pl p n c f B w g hB i a j)
  ·exact done 9 h (fun t nm pl p n c f B w g hB i a j=>DX d (Hd b) (Hd (di d b)) (Hd (dM d b)) t nm pl p n c f B w g hB i a j)
  ·exact done 10 h (fun t nm pl p n c f B w g hB i a j=>Cq d (Hd b) (Hd (di d b)) (Hd (dM d b)) t nm pl p n c f B w g hB i a j)
  ·exact done 11 h (fun t nm pl p n c f B w g hB i a j=>Co d (Hd b) (Hd (di d b)) (Hd (dM d b)) t nm pl p n c f B w g hB i a j)
  ·exact done 12 h (fun t nm pl p n c f B w g hB i a j=>BY d (Hd b) (Hd (di d b)) (Hd (dM d b)) t nm pl p n c f B w g hB i a j)
  ·exact done 13 h (fun t nm pl p n c f B w g hB i a j=>C7 d (Hd b) (Hd (di d b)) (Hd (dM d b)) t nm pl p n c f B w g hB i a j)
  ·exact done 14 h (fun t nm pl p n c f B w g hB i a j=>BQ d (Hd b) (Hd (di d b)) (Hd (dM d b)) t nm pl p n c f B w g hB i a j)
  ·exact done 15 h (fun t nm pl p n c f B w g hB i a j=>Bz d (Hd b) (Hd (di d b)) (Hd (dM d b)) t nm pl p n c f B w g hB i a j)
  ·exact done 16 h (fun t nm pl p n c f B w g hB i a j=>Cw d (Hd b) (Hd (di d b)) (Hd (dM d b)) t nm pl p n c f B w g hB i a j)
 ·refine yM T.b T.f T.h T.y p T.u.length c w (by omega) _ ?_;rw[qK d T o];unfold aI
  by_cases y:1≤T.b
  ·have e:xv (T.b≤16)=false:=by simp;omega
   rw[e];simp
  ·have e:xv (1≤T.b)=false:=by simp;omega
   rw[e];rfl
theorem BA:∀d,eF d:=by
 intro d
 induction d with
 | zero=>exact wR 0 (Hd fun d' h=>by omega)
 | succ d a =>
  refine wR (d+1) (Hd fun d' h=>?_);have e:d'=d:=by omega
  subst e;exact Cy _ a
theorem uJ(d:Nat)(T:ab)(b:d=0→T.u=[]):fQ d T=((T.b==1)&&T.f.toList.isEmpty&&(T.h==0)&&xv (0≤T.y)&&(gC (d-1) [2,4] T.u&&xv (bS d T≤30)&&xv (aM d T≤4096))):=by
 unfold fQ
 cases c:(T.b==1)
 ·simp
 ·have a:T.b=1:=by simpa using c
  rw[qK d T b,iP];unfold aI;rw[a,show cJ 1 T.f.data.toList T.u.length=T.f.data.toList.isEmpty from rfl,gQ,show bL 1 T.h=(T.h==0) from rfl,show bv 1 T.u=bG [2,4] T.u from rfl];simp[Bool.and_assoc]
theorem yd(d:Nat)(T:ab)(v:Value)(B:Nat)(w:World)(hv:dH w B d T v)(hB:B≤w.heap.size)(z:gx d T)(hm:aM d T≤100000) :
  Calls xD 24 #[v] w (am (fQ d T) w):=by
 have m:=hv;obtain⟨_,s,rfl,i⟩:=hv;obtain⟨p,c,rfl,_,_⟩:=i.rows;have hz:d=0→T.u=[]:=fun h=>by subst h;exact i.1
 have b:=Hd (uJ d T hz);have C:FK w (w.alloc (wq #[I O T.b,J T.f,I Z T.h,I Z T.y,A p T.u.length c] 25)):=(EP _ w).alloc (EO _) _;have X:=p9 w (wq #[I O T.b,J T.f,I Z T.h,I Z T.y,A p T.u.length c] 25);obtain⟨L,M,N,P,Q⟩:=cells5 X;have HX:=Hd X;have n:=Hd (fun W (l:FK w W)=>jR d (BA d) [2,4] (by decide) (by decide) #[I O 2,I O 4] V 2 V T.u _ B W 0 T.u.length (i.z (l.mono hB)) (EU hB l.size) (Fa _) (EO _) z.u);rw[oI (d-1) [2,4] T.u T.u.length V,←iP]at n;have ad:=Hd (fun W (l:FK w W)=>AP d T _ B W (m.z (l.mono hB)) (EU hB l.size) hm);have af:=Hd (fun W (l:FK w W)=>zV d T _ B W (m.z (l.mono hB)) (EU hB l.size) hm);have av:=un d T;have q:=Hd C;clear C X i m hz z;generalize fQ d T=r at *;generalize gC (d-1) [2,4] T.u=al at *;have f:=n.o _ q.o;rw[r9]at f;have D:=Hd f;clear f n;generalize bS d T=y at *;generalize aM d T=E at *;have a1:(y:Int)≤100000:=by omega
 have a6:(E:Int)≤100000:=by omega
 go_enter Tryz.func24,Tryz.ntmps24
 have F:(T.b==1)=((T.b:Int)==1):=dK T.b 1;rw[F]at b;clear F
 cases R:((T.b:Int)==1)
 ·rw[R]at b;have ak:((T.b:Int) != 1)=true:=by show (!((T.b:Int)==1))=true;rw[R];rfl
  go_wp2_with fail
  go_ret;exact⟨ah (by rw[b.o];rfl),q.o⟩
 ·rw[R]at b;have ak:((T.b:Int) != 1)=false:=by show (!((T.b:Int)==1))=false;rw[R];rfl
  cases ht:T.f.toList.isEmpty
  ·rw[ht]at b;go_wp2_with fail
   go_ret;exact⟨ah (by rw[b.o];rfl),q.o⟩
  ·rw[ht]at b
   cases S:(T.h==0)
   ·rw[S]at b;have aq:(T.h != 0)=true:=by show (!(T.h==0))=true;rw[S];rfl
    go_wp2_with fail
    go_ret;exact⟨ah (by rw[b.o];rfl),q.o⟩
   ·rw[S]at b;have aq:(T.h != 0)=false:=by show (!(T.h==0))=false;rw[S];rfl
    by_cases hp:0≤T.y
    ·have g:xv (0≤T.y)=true:=by simpa using hp
     rw[g]at b;clear g;go_wp2_with fail
     refine EX D.o ?_;rintro e w1 ⟨rfl,t⟩;have j:=Hd (q.o.trans (t.mono q.o.size));clear L M N P Q;have u:=aa t HX.o (by simp);have G:=Hd u;obtain⟨L,M,N,P,Q⟩:=cells5 u;clear t u
     cases al
     ·go_wp2_with fail
      go_ret;exact⟨ah (by rw[b.o];rfl),j.o⟩
     ·go_wp2_with fail
      refine EX (ad.o _ j.o) ?_;rintro e w2 ⟨rfl,x⟩;have k:=Hd (j.o.trans (x.mono j.o.size));clear L M N P Q;obtain⟨L,M,N,P,Q⟩:=cells5 (aa x G.o (EN.1 G.o).1);clear x
      by_cases hd:(y:Int)≤30
      ·have a:xv (y≤30)=true:=by simp;omega
       rw[a]at b;clear a;go_wp2_with fail
       refine EX (af.o _ k.o) ?_;rintro e w3 ⟨rfl,H⟩;have K:=Hd (k.o.trans (H.mono k.o.size));clear H
       by_cases ar:(E:Int)≤4096
       ·have a:xv (E≤4096)=true:=by simp;omega
        rw[a]at b;clear a;go_wp2_with fail
        go_ret;exact⟨ah (by rw[b.o];first|rfl|(simp;done)|(simp;omega)),K.o⟩
       ·have a:xv (E≤4096)=false:=by simp;omega
        rw[a]at b;have ba:(4096:Int)<E:=by omega
        clear a ar;go_wp2_with fail
        go_ret;exact⟨ah (by rw[b.o];first|rfl|(simp;done)|(simp;omega)),K.o⟩
      ·have a:xv (y≤30)=false:=by simp;omega
       rw[a]at b;have bb:xv ((y:Int)≤30)=false:=by simp;omega
       have bc:xv (y≤30)=false:=by simp;omega
       clear a hd;go_wp2_with fail
       go_ret;exact⟨ah (by rw[b.o];rfl),k.o⟩
    ·have g:xv (0≤T.y)=false:=by simpa using hp
     rw[g]at b;have bd:T.y<0:=by omega
     clear g hp;go_wp2_with fail
     go_ret;exact⟨ah (by rw[b.o];simp),q.o⟩
