/- Parts of one proof, joined; conditions stand in each theorem. -/
import Derived.Test.YtkhfjgjjhlnnnaaGreatDoorMK
import Derived.Test.YtkhfjgjjhlnnnaaGreatDoorMKE
open Go.Value renaming slice→A,agg→wD,int→I,string→J
open Go.Proofs.Tryz renaming prog→wq
open Go.IntKind renaming u8→O,i64→Z
open Go.Obj renaming cells→ur
open Decidable renaming decide→wo
namespace Go.Proofs.YtkhfjgjjhlnnnaaGreatDoor
set_option maxHeartbeats 2000000
set_option maxRecDepth 100000
open Go.RowKit
theorem Ek(d:Nat)(_HA:Hid (eF d))(_HE:Hid (ef d))(_HR:Hid (eX d))(t:ByteArray)(nm pl:Int)(p:Option Addr)(n c:Nat)(e:List ab)(B:Nat)(w:World)(_hk:aj w B d e (A p n c))(_hB:B≤w.heap.size)(_hsl:cD d e)(_hts:t.size≤72007)(y:e.length=n) :
  Calls wq 79 #[wD #[I O 9,J t,I Z nm,I Z pl,A p n c]] w (ao (okK 9 t nm pl e d) w):=by
 have q:Gc w (w.alloc (ur #[I O 9,J t,I Z nm,I Z pl,A p n c] 25)):=(Fl _ w).alloc (Fj _) _;obtain⟨z,C,D,E,F⟩:=cells5 (qv w (ur #[I O 9,J t,I Z nm,I Z pl,A p n c] 25));obtain⟨j,G,k,h,l⟩:=zz5 q (qv w (ur #[I O 9,J t,I Z nm,I Z pl,A p n c] 25)) (eD 9 t nm pl e d) (fu 9 t nm pl e d) y;clear q _hk _hsl _hts y
 by_cases r:0≤pl
 ·have i:wo (0≤pl)=true:=by simpa using r
  have v:=Hd i;clear i
  cases b:wo ((0:Int)≤nm)
  ·have s:=Hd (h.o (by rw[show bN 9 nm=(wo ((0:Int)≤nm)&&wo (nm≤2147483647)) from rfl,b];rfl));have u:nm<0:=by simpa using b
   have f:(nm==0)=false:=by simp;omega
   have m:(nm != 0)=true:=by show (!(nm==0))=true;rw[f];rfl
   clear b
   go_enter Tryz.func79,Tryz.ntmps79
   cases het:t.toList.isEmpty
   ·go_wp2_with fail
    go_ret;exact⟨ah s.o.symm,j.o⟩
   ·go_wp2_with fail
    go_ret;exact⟨ah s.o.symm,j.o⟩
  ·cases g:wo (nm≤(2147483647:Int))
   ·have s:=Hd (h.o (by rw[show bN 9 nm=(wo ((0:Int)≤nm)&&wo (nm≤2147483647)) from rfl,g];simp));have u:(0:Int)≤nm:=by simpa using b
    have x:(2147483647:Int)<nm:=by simpa using g
    have f:(nm==0)=false:=by simp;omega
    have m:(nm != 0)=true:=by show (!(nm==0))=true;rw[f];rfl
    clear b g
    go_enter Tryz.func79,Tryz.ntmps79
    cases het:t.toList.isEmpty
    ·go_wp2_with fail
     go_ret;exact⟨ah s.o.symm,j.o⟩
    ·go_wp2_with fail
     go_ret;exact⟨ah s.o.symm,j.o⟩
   ·have a:=Hd (k.o (by rw[show bN 9 nm=(wo ((0:Int)≤nm)&&wo (nm≤2147483647)) from rfl,b,g];rfl) v.o);have u:(0:Int)≤nm:=by simpa using b
    have x:nm≤(2147483647:Int):=by simpa using g
    clear k h b g
    go_enter Tryz.func79,Tryz.ntmps79
    cases f:(nm==0)
    ·have m:(nm != 0)=true:=by show (!(nm==0))=true;rw[f];rfl
     rw[show cL 9 t.data.toList e.length=t.toList.isEmpty from gP t]at a;rw[show bw 9 e=e.isEmpty from rfl,fP (d-1) e n l.o,dJ]at a
     cases het:t.toList.isEmpty
     ·rw[het]at a;go_wp2_with fail
      go_ret;exact⟨ah (by rw[a.o];rfl),j.o⟩
     ·rw[het]at a;go_wp2_with fail
      go_ret;exact⟨ah (by rw[a.o];rfl),j.o⟩
    ·have m:(nm != 0)=false:=by show (!(nm==0))=false;rw[f];rfl
     rw[show cL 9 t.data.toList e.length=t.toList.isEmpty from gP t]at a;rw[show bw 9 e=e.isEmpty from rfl,fP (d-1) e n l.o,dJ]at a
     cases het:t.toList.isEmpty
     ·rw[het]at a;go_wp2_with fail
      go_ret;exact⟨ah (by rw[a.o];rfl),j.o⟩
     ·rw[het]at a;go_wp2_with fail
      go_ret;exact⟨ah (by rw[a.o];rfl),j.o⟩
 ·have i:wo (0≤pl)=false:=by simpa using r
  exact cP 9 t nm pl p n c w (by omega) _ (h.o (by rw[i,Bool.and_false]))
theorem Dz(d:Nat)(_HA:Hid (eF d))(_HE:Hid (ef d))(HR:Hid (eX d))(t:ByteArray)(nm pl:Int)(p:Option Addr)(n c:Nat)(f:List ab)(B:Nat)(w:World)(R:aj w B d f (A p n c))(hB:B≤w.heap.size)(E:cD d f)(F:t.size≤72007)(S:f.length=n) :
  Calls wq 79 #[wD #[I O 4,J t,I Z nm,I Z pl,A p n c]] w (ao (okK 4 t nm pl f d) w):=by
 have G:Gc w (w.alloc (ur #[I O 4,J t,I Z nm,I Z pl,A p n c] 25)):=(Fl _ w).alloc (Fj _) _;obtain⟨r,s,u,v,x⟩:=cells5 (qv w (ur #[I O 4,J t,I Z nm,I Z pl,A p n c] 25));obtain⟨y,N,z,l,m⟩:=zz5 G (qv w (ur #[I O 4,J t,I Z nm,I Z pl,A p n c] 25)) (eD 4 t nm pl f d) (fu 4 t nm pl f d) (fun W=>jh t W F);have H:=Hd (fun W (T:Gc w W)=>HR.o f _ B W (R.u (T.mono hB)) (Fu hB T.size) E);have X:=Hd S;clear G R E F S
 by_cases K:0≤pl
 ·have q:wo (0≤pl)=true:=by simpa using K
  have P:=Hd q;clear q
  cases g:wo ((-2147483647:Int)≤nm)
  ·have L:=Hd (l.o (by rw[show bN 4 nm=(wo ((-2147483647:Int)≤nm)&&wo (nm≤2147483647)) from rfl,g];rfl));have M:nm < -2147483647:=by simpa using g
   have i:(nm==0)=false:=by simp;omega
   have C:(nm != 0)=true:=by show (!(nm==0))=true;rw[i];rfl
   clear g
   go_enter Tryz.func79,Tryz.ntmps79
   generalize (aN t.data.toList&&!di t.data.toList)=nf at *;go_wp2_with fail
   refine Fx (m.o _) ?_;rintro e w1 ⟨rfl,a⟩;have b:=Hd (y.o.trans (a.mono y.o.size));clear r s u v x;obtain⟨r,s,u,v,x⟩:=cells5 (aa a N.o (by simp));clear a
   cases nf
   ·go_wp2_with fail
    go_ret;exact⟨ah L.o.symm,b.o⟩
   ·go_wp2_with fail
    go_ret;exact⟨ah L.o.symm,b.o⟩
  ·cases j:wo (nm≤(2147483647:Int))
   ·have L:=Hd (l.o (by rw[show bN 4 nm=(wo ((-2147483647:Int)≤nm)&&wo (nm≤2147483647)) from rfl,j];simp));have M:(-2147483647:Int)≤nm:=by simpa using g
    have Q:(2147483647:Int)<nm:=by simpa using j
    have i:(nm==0)=false:=by simp;omega
    have C:(nm != 0)=true:=by show (!(nm==0))=true;rw[i];rfl
    clear g j
    go_enter Tryz.func79,Tryz.ntmps79
    generalize (aN t.data.toList&&!di t.data.toList)=nf at *;go_wp2_with fail
    refine Fx (m.o _) ?_;rintro e w1 ⟨rfl,a⟩;have b:=Hd (y.o.trans (a.mono y.o.size));clear r s u v x;obtain⟨r,s,u,v,x⟩:=cells5 (aa a N.o (by simp));clear a
    cases nf
    ·go_wp2_with fail
     go_ret;exact⟨ah L.o.symm,b.o⟩
    ·go_wp2_with fail
     go_ret;exact⟨ah L.o.symm,b.o⟩
   ·have h:=Hd (z.o (by rw[show bN 4 nm=(wo ((-2147483647:Int)≤nm)&&wo (nm≤2147483647)) from rfl,g,j];rfl) P.o);have M:(-2147483647:Int)≤nm:=by simpa using g
    have Q:nm≤(2147483647:Int):=by simpa using j
    clear z l g j
    go_enter Tryz.func79,Tryz.ntmps79
    cases i:(nm==0)
    ·have C:(nm != 0)=true:=by show (!(nm==0))=true;rw[i];rfl
     rw[show cL 4 t.data.toList f.length=(aN t.data.toList&&!di t.data.toList) from rfl]at h;rw[show bw 4 f=rowB f from rfl]at h;generalize (rowB f&&f.all (okF (d-1)))=kk at *;generalize (aN t.data.toList&&!di t.data.toList)=nf at *;go_wp2_with fail
     refine Fx (m.o _) ?_;rintro e w1 ⟨rfl,a⟩;have b:=Hd (y.o.trans (a.mono y.o.size));clear r s u v x;obtain⟨r,s,u,v,x⟩:=cells5 (aa a N.o (by simp));clear a
     cases nf
     ·go_wp2_with fail
      go_ret;exact⟨ah (by rw[h.o];rfl),b.o⟩
     ·go_wp2_with fail
      refine Fx (H.o w1 b.o) ?_;rintro e w2 ⟨rfl,k⟩;have D:=Hd (b.o.trans (k.mono b.o.size));clear k;go_wp2_with fail
      go_ret;exact⟨ah (by rw[h.o];rfl),D.o⟩
    ·have C:(nm != 0)=false:=by show (!(nm==0))=false;rw[i];rfl
     rw[show cL 4 t.data.toList f.length=(aN t.data.toList&&!di t.data.toList) from rfl]at h;rw[show bw 4 f=rowB f from rfl]at h;generalize (rowB f&&f.all (okF (d-1)))=kk at *;generalize (aN t.data.toList&&!di t.data.toList)=nf at *;go_wp2_with fail
     refine Fx (m.o _) ?_;rintro e w1 ⟨rfl,a⟩;have b:=Hd (y.o.trans (a.mono y.o.size));clear r s u v x;obtain⟨r,s,u,v,x⟩:=cells5 (aa a N.o (by simp));clear a
     cases nf
     ·go_wp2_with fail
      go_ret;exact⟨ah (by rw[h.o];rfl),b.o⟩
     ·go_wp2_with fail
      refine Fx (H.o w1 b.o) ?_;rintro e w2 ⟨rfl,k⟩;have D:=Hd (b.o.trans (k.mono b.o.size));clear k;go_wp2_with fail
      go_ret;exact⟨ah (by rw[h.o];rfl),D.o⟩
 ·have q:wo (0≤pl)=false:=by simpa using K
  exact cP 4 t nm pl p n c w (by omega) _ (l.o (by rw[q,Bool.and_false]))
theorem CQ(d:Nat)(_HA:Hid (eF d))(S:Hid (ef d))(_HR:Hid (eX d))(t:ByteArray)(nm pl:Int)(p:Option Addr)(n c:Nat)(f:List ab)(B:Nat)(w:World)(G:aj w B d f (A p n c))(hB:B≤w.heap.size)(u:cD d f)(_hts:t.size≤72007)(H:f.length=n) :
  Calls wq 79 #[wD #[I O 16,J t,I Z nm,I Z pl,A p n c]] w (ao (okK 16 t nm pl f d) w):=by
 have v:Gc w (w.alloc (ur #[I O 16,J t,I Z nm,I Z pl,A p n c] 25)):=(Fl _ w).alloc (Fj _) _;obtain⟨K,L,M,N,P⟩:=cells5 (qv w (ur #[I O 16,J t,I Z nm,I Z pl,A p n c] 25));obtain⟨h,T,l,m,D⟩:=zz5 v (qv w (ur #[I O 16,J t,I Z nm,I Z pl,A p n c] 25)) (eD 16 t nm pl f d) (fu 16 t nm pl f d) (fun W=>Cc t W);have q:=Hd (fun W (Q:Gc w W)=>S.o f _ B W (G.u (Q.mono hB)) (Fu hB Q.size) u);have x:=Hd H;clear v G u _hts H
 by_cases r:0≤pl
 ·have i:wo (0≤pl)=true:=by simpa using r
  have E:=Hd i;clear i
  cases j:(nm==0)
  ·exact dC 16 t nm pl p n c w r j (by omega) (by omega) _ (m.o (by rw[show bN 16 nm=(nm==0) from rfl,j];rfl))
  ·have a:=Hd (l.o (by rw[show bN 16 nm=(nm==0) from rfl,j]) E.o);have X:(nm != 0)=false:=by show (!(nm==0))=false;rw[j];rfl
   clear l m
   go_enter Tryz.func79,Tryz.ntmps79
   rw[show cL 16 t.data.toList f.length=((f.length==1&&cn kT t.data.toList)||(f.length==2&&cn jc t.data.toList)) from rfl,x.o,show (n==1)=((n:Int)==1) from dJ n 1,show (n==2)=((n:Int)==2) from dJ n 2,show bw 16 f=cK f from rfl]at a;rw[AQ]at a;generalize (cK f&&f.all (okF (d-1)))=kk at *;generalize cn jc t.data.toList=tw at *
   cases F:((n:Int)==1)
   ·rw[F]at a
    cases C:((n:Int)==2)
    ·rw[C]at a;go_wp2_with fail
     go_ret;exact⟨ah (by rw[a.o];rfl),h.o⟩
    ·rw[C]at a;go_wp2_with fail
     refine Fx (D.o _) ?_;rintro e w1 ⟨rfl,s⟩;have k:=Hd (h.o.trans (s.mono h.o.size));clear K L M N P;obtain⟨K,L,M,N,P⟩:=cells5 (aa s T.o (by simp));clear s
     cases tw
     ·go_wp2_with fail
      go_ret;exact⟨ah (by rw[a.o];rfl),k.o⟩
     ·go_wp2_with fail
      refine Fx (q.o w1 k.o) ?_;rintro e R ⟨rfl,b⟩;have g:=Hd (k.o.trans (b.mono k.o.size));clear b;go_wp2_with fail
      go_ret;exact⟨ah (by rw[a.o];rfl),g.o⟩
   ·rw[F]at a;have C:((n:Int)==2)=false:=by simp at F ⊢;omega
    cases y:(t.toList==[45])
    ·rw[y]at a
     cases z:(t.toList==[110,111,116])
     ·rw[z,C]at a;go_wp2_with fail
      go_ret;exact⟨ah (by rw[a.o];rfl),h.o⟩
     ·rw[z]at a;go_wp2_with fail
      refine Fx (q.o _ h.o) ?_;rintro e R ⟨rfl,b⟩;have g:=Hd (h.o.trans (b.mono h.o.size));clear b;go_wp2_with fail
      go_ret;exact⟨ah (by rw[a.o];rfl),g.o⟩
    ·rw[y]at a;go_wp2_with fail
     refine Fx (q.o _ h.o) ?_;rintro e R ⟨rfl,b⟩;have g:=Hd (h.o.trans (b.mono h.o.size));clear b;go_wp2_with fail
     go_ret;exact⟨ah (by rw[a.o];rfl),g.o⟩
 ·have i:wo (0≤pl)=false:=by simpa using r
  exact cP 16 t nm pl p n c w (by omega) _ (m.o (by rw[i,Bool.and_false]))
theorem yT(k:Nat)(t:ByteArray)(nm pl:Int)(p:Option Addr)(n c:Nat)(w:World)(h:k=0∨16<k)(P:Bool)(d:P=false) :
  Calls wq 79 #[wD #[I O k,J t,I Z nm,I Z pl,A p n c]] w (ao P w):=by
 by_cases e:0≤pl
 ·cases a:(nm==0)
  ·exact dC k t nm pl p n c w e a (by omega) (by omega) P d
  ·subst d;have b:Gc w (w.alloc (ur #[I O k,J t,I Z nm,I Z pl,A p n c] 25)):=(Fl _ w).alloc (Fj _) _;obtain⟨u,v,x,y,z⟩:=cells5 (qv w (ur #[I O k,J t,I Z nm,I Z pl,A p n c] 25));have f:=Hd b;have g:(nm != 0)=false:=by show (!(nm==0))=false;rw[a];rfl
   have B:((k:Int)==2)=false:=by simp;omega
   have C:((k:Int)==3)=false:=by simp;omega
   have D:((k:Int)==4)=false:=by simp;omega
   have E:((k:Int)==5)=false:=by simp;omega
   have F:((k:Int)==6)=false:=by simp;omega
   have G:((k:Int)==7)=false:=by simp;omega
   have H:((k:Int)==8)=false:=by simp;omega
   have K:((k:Int)==9)=false:=by simp;omega
   have i:((k:Int)==10)=false:=by simp;omega
   have j:((k:Int)==11)=false:=by simp;omega
   have l:((k:Int)==12)=false:=by simp;omega
   have m:((k:Int)==13)=false:=by simp;omega
   have q:((k:Int)==14)=false:=by simp;omega
   have r:((k:Int)==15)=false:=by simp;omega
   have s:((k:Int)==16)=false:=by simp;omega
   clear b h
   go_enter Tryz.func79,Tryz.ntmps79
   go_wp2_with fail
   go_ret;exact⟨V,f.o⟩
 ·exact cP k t nm pl p n c w (by omega) P d
theorem DU(d:Nat)(T:ab)(a:d=0→T.q=[])(b:1≤T.b)(c:T.b≤16):okF d T=okK T.b T.f T.h T.t T.q d:=by
 rw[qF d T a];unfold aK okK;have e:wo (1≤T.b)=true:=by simpa using b
 have f:wo (T.b≤16)=true:=by simpa using c
 rw[e,f,Bool.true_and,Bool.true_and]
theorem CU(d:Nat)(b:eF d):zH d:=by
 intro T v B w r hB m x;obtain⟨_,s,rfl,l⟩:=r;obtain⟨p,c,rfl,_,_⟩:=l.rows;have o:d=0→T.q=[]:=fun h=>by subst h;exact l.1
 by_cases g:1≤T.b∧T.b≤16
 ·rw[DU d T o g.1 g.2]
  have done:∀(k:Nat) (h:T.b=k) (q:∀(t:ByteArray) (nm pl:Int) (p:Option Addr) (n c:Nat) (f:List ab) (B:Nat) (w:World),aj w B d f (A p n c)→B≤w.heap.size→cD d f→t.size≤72007→f.length=n→
    Calls wq 79 #[wD #[I O k,J t,I Z nm,I Z pl,A p n c]] w (ao (okK k t nm pl f d) w)),Calls wq 79 #[wD #[I O T.b,J T.f,I Z T.h,I Z T.t,A p T.q.length c]] w (ao (okK T.b T.f T.h T.t T.q d) w):=by
   intro k h q;rw[h];exact q T.f T.h T.t p T.q.length c T.q B w l hB m.q m.f V
  have u:T.b=2∨T.b=3∨T.b=4∨T.b=5∨T.b=6∨T.b=7∨T.b=8∨T.b=9∨T.b=10∨T.b=11∨T.b=12∨T.b=13∨T.b=14∨T.b=15∨T.b=16:=by omega
  rcases u with h|h|h|h|h|h|h|h|h|h|h|h|h|h|h
  ·exact done 2 h (fun t nm pl p n c f B w g hB i a j=>Ex d (Hd b) (Hd (dk d b)) (Hd (dL d b)) t nm pl p n c f B w g hB i a j)
  ·exact done 3 h (fun t nm pl p n c f B w g hB i a j=>Dy d (Hd b) (Hd (dk d b)) (Hd (dL d b)) t nm pl p n c f B w g hB i a j)
  ·exact done 4 h (fun t nm pl p n c f B w g hB i a j=>Dz d (Hd b) (Hd (dk d b)) (Hd (dL d b)) t nm pl p n c f B w g hB i a j)
  ·exact done 5 h (fun t nm pl p n c f B w g hB i a j=>Eg d (Hd b) (Hd (dk d b)) (Hd (dL d b)) t nm pl p n c f B w g hB i a j)
  ·exact done 6 h (fun t nm pl p n c f B w g hB i a j=>D8 d (Hd b) (Hd (dk d b)) (Hd (dL d b)) t nm pl p n c f B w g hB i a j)
  ·exact done 7 h (fun t nm pl p n c f B w g hB i a j=>ED d (Hd b) (Hd (dk d b)) (Hd (dL d b)) t nm pl p n c f B w g hB i a j)
  ·exact done 8 h (fun t nm pl p n c f B w g hB i a j=>Ef d (Hd b) (Hd (dk d b)) (Hd (dL d b)) t nm pl p n c f B w g hB i a j)
  ·exact done 9 h (fun t nm pl p n c f B w g hB i a j=>Ek d (Hd b) (Hd (dk d b)) (Hd (dL d b)) t nm pl p n c f B w g hB i a j)
  ·exact done 10 h (fun t nm pl p n c f B w g hB i a j=>CH d (Hd b) (Hd (dk d b)) (Hd (dL d b)) t nm pl p n c f B w g hB i a j)
  ·exact done 11 h (fun t nm pl p n c f B w g hB i a j=>CE d (Hd b) (Hd (dk d b)) (Hd (dL d b)) t nm pl p n c f B w g hB i a j)
  ·exact done 12 h (fun t nm pl p n c f B w g hB i a j=>Cg d (Hd b) (Hd (dk d b)) (Hd (dL d b)) t nm pl p n c f B w g hB i a j)
  ·exact done 13 h (fun t nm pl p n c f B w g hB i a j=>Dn d (Hd b) (Hd (dk d b)) (Hd (dL d b)) t nm pl p n c f B w g hB i a j)
  ·exact done 14 h (fun t nm pl p n c f B w g hB i a j=>B9 d (Hd b) (Hd (dk d b)) (Hd (dL d b)) t nm pl p n c f B w g hB i a j)
  ·exact done 15 h (fun t nm pl p n c f B w g hB i a j=>BL d (Hd b) (Hd (dk d b)) (Hd (dL d b)) t nm pl p n c f B w g hB i a j)
  ·exact done 16 h (fun t nm pl p n c f B w g hB i a j=>CQ d (Hd b) (Hd (dk d b)) (Hd (dL d b)) t nm pl p n c f B w g hB i a j)
 ·refine yT T.b T.f T.h T.t p T.q.length c w (by omega) _ ?_;rw[qF d T o];unfold aK
  by_cases y:1≤T.b
  ·have e:wo (T.b≤16)=false:=by simp;omega
   rw[e];simp
  ·have e:wo (1≤T.b)=false:=by simp;omega
   rw[e];rfl
theorem BM:∀d,eF d:=by
 intro d
 induction d with
 | zero=>exact wU 0 (Hd fun d' h=>by omega)
 | succ d a =>
  refine wU (d+1) (Hd fun d' h=>?_);have e:d'=d:=by omega
  subst e;exact CU _ a
theorem uM(d:Nat)(T:ab)(b:d=0→T.q=[]):fO d T=((T.b==1)&&T.f.toList.isEmpty&&(T.h==0)&&wo (0≤T.t)&&(gB (d-1) [2,4] T.q&&wo (bW d T≤30)&&wo (aH d T≤4096))):=by
 unfold fO
 cases c:(T.b==1)
 ·simp
 ·have a:T.b=1:=by simpa using c
  rw[qF d T b,iM];unfold aK;rw[a,show cL 1 T.f.data.toList T.q.length=T.f.data.toList.isEmpty from rfl,gP,show bN 1 T.h=(T.h==0) from rfl,show bw 1 T.q=bI [2,4] T.q from rfl];simp[Bool.and_assoc]
theorem yf(d:Nat)(T:ab)(v:Value)(B:Nat)(w:World)(hv:bz w B d T v)(hB:B≤w.heap.size)(z:gv d T)(hm:aH d T≤100000) :
  Calls wq 24 #[v] w (ao (fO d T) w):=by
 have m:=hv;obtain⟨_,s,rfl,i⟩:=hv;obtain⟨p,c,rfl,_,_⟩:=i.rows;have hz:d=0→T.q=[]:=fun h=>by subst h;exact i.1
 have b:=Hd (uM d T hz);have C:Gc w (w.alloc (ur #[I O T.b,J T.f,I Z T.h,I Z T.t,A p T.q.length c] 25)):=(Fl _ w).alloc (Fj _) _;have X:=qv w (ur #[I O T.b,J T.f,I Z T.h,I Z T.t,A p T.q.length c] 25);obtain⟨L,M,N,P,Q⟩:=cells5 X;have HX:=Hd X;have n:=Hd (fun W (l:Gc w W)=>jO d (BM d) [2,4] (by decide) (by decide) #[I O 2,I O 4] V 2 V T.q _ B W 0 T.q.length (i.u (l.mono hB)) (Fu hB l.size) (FA _) (Fj _) z.q);rw[oz (d-1) [2,4] T.q T.q.length V,←iM]at n;have ad:=Hd (fun W (l:Gc w W)=>A7 d T _ B W (m.u (l.mono hB)) (Fu hB l.size) hm);have af:=Hd (fun W (l:Gc w W)=>Ad d T _ B W (m.u (l.mono hB)) (Fu hB l.size) hm);have av:=ut d T;have q:=Hd C;clear C X i m hz z;generalize fO d T=r at *;generalize gB (d-1) [2,4] T.q=al at *;have f:=n.o _ q.o;rw[r9]at f;have D:=Hd f;clear f n;generalize bW d T=y at *;generalize aH d T=E at *;have a1:(y:Int)≤100000:=by omega
 have a6:(E:Int)≤100000:=by omega
 go_enter Tryz.func24,Tryz.ntmps24
 have F:(T.b==1)=((T.b:Int)==1):=dJ T.b 1;rw[F]at b;clear F
 cases R:((T.b:Int)==1)
 ·rw[R]at b;have ak:((T.b:Int) != 1)=true:=by show (!((T.b:Int)==1))=true;rw[R];rfl
  go_wp2_with fail
  go_ret;exact⟨ah (by rw[b.o];rfl),q.o⟩
 ·rw[R]at b;have ak:((T.b:Int) != 1)=false:=by show (!((T.b:Int)==1))=false;rw[R];rfl
  cases ht:T.f.toList.isEmpty
  ·rw[ht]at b;go_wp2_with fail
   go_ret;exact⟨ah (by rw[b.o];rfl),q.o⟩
  ·rw[ht]at b
   cases S:(T.h==0)
   ·rw[S]at b;have aq:(T.h != 0)=true:=by show (!(T.h==0))=true;rw[S];rfl
    go_wp2_with fail
    go_ret;exact⟨ah (by rw[b.o];rfl),q.o⟩
   ·rw[S]at b;have aq:(T.h != 0)=false:=by show (!(T.h==0))=false;rw[S];rfl
    by_cases hp:0≤T.t
    ·have g:wo (0≤T.t)=true:=by simpa using hp
     rw[g]at b;clear g;go_wp2_with fail
     refine Fx D.o ?_;rintro e w1 ⟨rfl,t⟩;have j:=Hd (q.o.trans (t.mono q.o.size));clear L M N P Q;have u:=aa t HX.o (by simp);have G:=Hd u;obtain⟨L,M,N,P,Q⟩:=cells5 u;clear t u
     cases al
     ·go_wp2_with fail
      go_ret;exact⟨ah (by rw[b.o];rfl),j.o⟩
     ·go_wp2_with fail
      refine Fx (ad.o _ j.o) ?_;rintro e w2 ⟨rfl,x⟩;have k:=Hd (j.o.trans (x.mono j.o.size));clear L M N P Q;obtain⟨L,M,N,P,Q⟩:=cells5 (aa x G.o (Fi.1 G.o).1);clear x
      by_cases hd:(y:Int)≤30
      ·have a:wo (y≤30)=true:=by simp;omega
       rw[a]at b;clear a;go_wp2_with fail
       refine Fx (af.o _ k.o) ?_;rintro e w3 ⟨rfl,H⟩;have K:=Hd (k.o.trans (H.mono k.o.size));clear H
       by_cases ar:(E:Int)≤4096
       ·have a:wo (E≤4096)=true:=by simp;omega
        rw[a]at b;clear a;go_wp2_with fail
        go_ret;exact⟨ah (by rw[b.o];first|rfl|(simp;done)|(simp;omega)),K.o⟩
       ·have a:wo (E≤4096)=false:=by simp;omega
        rw[a]at b;have ba:(4096:Int)<E:=by omega
        clear a ar;go_wp2_with fail
        go_ret;exact⟨ah (by rw[b.o];first|rfl|(simp;done)|(simp;omega)),K.o⟩
      ·have a:wo (y≤30)=false:=by simp;omega
       rw[a]at b;have bb:wo ((y:Int)≤30)=false:=by simp;omega
       have bc:wo (y≤30)=false:=by simp;omega
       clear a hd;go_wp2_with fail
       go_ret;exact⟨ah (by rw[b.o];rfl),k.o⟩
    ·have g:wo (0≤T.t)=false:=by simpa using hp
     rw[g]at b;have bd:T.t<0:=by omega
     clear g hp;go_wp2_with fail
     go_ret;exact⟨ah (by rw[b.o];simp),q.o⟩
