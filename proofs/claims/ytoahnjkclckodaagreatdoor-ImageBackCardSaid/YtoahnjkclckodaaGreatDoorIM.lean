/- Parts of one proof, joined; conditions stand in each theorem. -/
import Derived.Test.YtoahnjkclckodaaGreatDoorIL
import Derived.Test.YtoahnjkclckodaaGreatDoorMD
import Derived.Test.YtoahnjkclckodaaGreatDoorNB
open Go.Value renaming agg→wP,int→I,slice→O,tuple→y9,pointer→vo
open Go.IntKind renaming i64→U
open Option renaming none→Y,some→A
open Go renaming World→J,Value→tS,undef→xk,wpQuiet_nil→xL
open Go.Obj renaming cells→r7
open Go.Ending renaming returned→wg
namespace Go.Proofs.YtoahnjkclckodaaGreatDoor
set_option maxHeartbeats 4000000
set_option maxRecDepth 100000
open Go.RowKit
theorem sZ:Elem 47 22 3 40:=Elem.of (z:=wP #[I U 0,I U 0,O Y 0 0]) Tryz.underlying22 (by kernel_rfl) Z (by decide) (by decide)
def OwF(w4:J) (f:ai) (B:Nat) (V:J) (y:tS):Prop:=B≤V.heap.size∧aG.at_ V (fun b=>w4.heap.size≤b∧b<B) f [I U f.id,I U f.u,y]
def fcs(f:ai) (y:tS):List Value:=[I U f.id,I U f.u,y]
def AfV(p:Option Addr) (n c B:Nat) (row:List tS) (W:J) (v:tS):Prop:=
 if n<c then v=O p (n+1) c∧∃g,p=A ⟨g,0,Y⟩ else ∃g cap,v=O (A ⟨g,0,Y⟩) (n+1) cap∧B≤g∧W.ownsRow 0 47 3 v (n+1) row
def stF(w4:J) (p:Option Addr) (n c:Nat) (us:List tS) (f:ai) (s:Nat) (W:J):Prop:=
 if s<2 then (∃x:Wb w4,W=x.1) else ∃y B,OwF w4 f B W y∧ApS 47 3 w4 p n c (us++fcs f y) W
def phF(w4:J) (p:Option Addr) (n c:Nat) (us:List tS) (f:ai) (k:Nat) (W:J) (a:List tS):Prop:=
 if k=7 then ∃B,OwF w4 f B W (a.getD 0 xk) else if k=8 then ∃y B,OwF w4 f B W y∧One 47 w4.heap.size (fcs f y) W (a.getD 0 xk)
 else if k=9 then ∃y B,OwF w4 f B W y∧w4.heap.size≤B∧AfV p n c B (us++fcs f y) W (a.getD 0 xk) else True
section
variable {w4 W W':J} {p:Option Addr} {n c B:Nat} {us:List tS} {f:ai} {y:tS}
theorem OwF.K(h:OwF w4 f B W y)(d:ApR w4 W W')(e:W.heap.size≤W'.heap.size):OwF w4 f B W' y:=
 ⟨JU h.1 e,aG.K (fun b a _o g=>(d b a.1 (JS a.2 h.1)).trans g) h.2⟩
theorem AfV.K{row:List tS}{v:tS}(h:AfV p n c B row W v)(hB:w4.heap.size≤B)(k:ApR w4 W W'):AfV p n c B row W' v:=by
 unfold AfV at *
 split
 ·rename_i b;rw[oj b]at h;exact h
 ·rename_i b
  rw[oe b]at h;obtain⟨g,cap,d,e,i⟩:=h;refine⟨g,cap,d,e,dj i fun j a=>?_⟩;have l:=(aP i j a).2;rw[d]at a;injection a with a
  have a:g=j:=a;subst a;exact k g (JU hB e) l
def ApQ(w4 W W':J):Prop:=ApR w4 W W'∧W.heap.size≤W'.heap.size
theorem ApQ.u(h:Kr W W'):ApQ w4 W W':=⟨ApR.u h,h.size⟩
theorem stF.C{s:Nat}(h:stF w4 p n c us f s W)(a:Kr W W'):stF w4 p n c us f s W':=by
 unfold stF at *
 split
 ·rename_i b
  rw[oj b]at h;obtain⟨x,rfl⟩:=h;exact⟨⟨W',x.2.trans (a.mono x.2.size)⟩,Z⟩
 ·rename_i b
  rw[oe b]at h;obtain⟨y,B,d,e⟩:=h;exact⟨y,B,d.K (ApR.u a) a.size,e.C a⟩
theorem phF.K{k:Nat}{i:List tS}(h:phF w4 p n c us f k W i)(a:ApQ w4 W W'):phF w4 p n c us f k W' i:=by
 unfold phF at *
 split
 ·rename_i b;rw[oj b]at h;obtain⟨B,h⟩:=h;exact⟨B,h.K a.1 a.2⟩
 ·rename_i b
  rw[oe b]at h
  split
  ·rename_i d
   rw[oj d]at h;obtain⟨y,B,e,g⟩:=h;exact⟨y,B,e.K a.1 a.2,g.K a.1⟩
  ·rename_i d
   rw[oe d]at h
   split
   ·rename_i e
    rw[oj e]at h;obtain⟨y,B,g,j,l⟩:=h;exact⟨y,B,g.K a.1 a.2,j,l.K j a.1⟩
   ·trivial
theorem IZ{K:Nat→Prop}(a:∀b,K b→b<w4.heap.size∧(O p n c).ownBlock≠A b)(s:Nat)(W:J)(h:stF w4 p n c us f s W):∃x:Ks w4 K,W=x.1:=by
 unfold stF at h
 split at h
 ·exact jR (E:=47) (sz:=3) (row:=us) (p:=p) (n:=n) (c:=c) a 0 0 W (JM _) h
 ·obtain⟨y,_,_,h⟩:=h;exact jR (E:=47) (sz:=3) (row:=us++fcs f y) a 1 1 W (JM _) h
theorem FK{s:Nat}(h:stF w4 p n c us f s W):w4.heap.size≤W.heap.size:=by
 unfold stF at h
 split at h
 ·obtain⟨x,rfl⟩:=h;exact x.2.size
 ·obtain⟨y,_,_,h⟩:=h;exact h.z
theorem stF.lo{s:Nat}(a:s<2)(h:∃x:Wb w4,W=x.1):stF w4 p n c us f s W:=by unfold stF;rwa [oj a]
theorem stF.get{s:Nat}(a:s<2)(h:stF w4 p n c us f s W):∃x:Wb w4,W=x.1:=by unfold stF at h;rwa [oj a]at h
theorem GL{h:J}{row:List tS}{v:tS}(d:Kr w4 h)(i:∀g,(O p n c).ownBlock=A g→g<w4.heap.size)(a:ApS 47 3 h p n c row W)(j:ApV 47 3 h p n c row W v):ApS 47 3 w4 p n c row W∧AfV p n c h.heap.size row W v∧ApQ w4 h W:=by
 have l:=a.chg;refine⟨?_,?_,ApR.of_chg l (fun b o=>i b o),l.z⟩
 ·unfold ApS at a ⊢
  split
  ·rename_i e
   rw[oj e]at a;exact⟨⟨a.1.os.trans d.os,a.1.a.trans d.tape,a.1.c.trans d.output,JU d.size a.1.z,fun x m k=>(a.1.q x (JS m d.size) k).trans (d.block x m)⟩,a.2⟩
  ·rename_i e
   rw[oe e]at a;obtain⟨x,rfl⟩:=a;exact⟨⟨x.1,d.trans (x.2.mono d.size)⟩,Z⟩
 ·unfold ApV at j;unfold AfV
  split
  ·rename_i e;rw[oj e]at j;exact j
  ·rename_i e
   rw[oe e]at j;exact j
theorem Iy{j:List tS}(d:∀g,(O p n c).ownBlock=A g→g<w4.heap.size)(r:stF w4 p n c us f 2 W)(s:phF w4 p n c us f 9 W j) :
  ∃y g cap,aG.at_ W (fun b=>w4.heap.size≤b∧b<W.heap.size∧b≠g) f (fcs f y)∧j.getD 0 xk=O (A ⟨g,0,Y⟩) (n+1) cap∧((O p n c).ownBlock=A g∨w4.heap.size≤g)∧Chg (fun x=>(O p n c).ownBlock=A x) w4 W∧W.ownsRow 0 47 3 (O (A ⟨g,0,Y⟩) (n+1) cap) (n+1) (us++fcs f y):=by
 obtain⟨y,B,l,i⟩:∃y B,OwF w4 f B W y∧ApS 47 3 w4 p n c (us++fcs f y) W:=r;obtain⟨t,w,m,u,a⟩:∃y B,OwF w4 f B W y∧w4.heap.size≤B∧AfV p n c B (us++fcs f y) W (j.getD 0 xk):=s;have o:=i.chg
 by_cases k:n<c
 ·unfold AfV at a;rw[oj k]at a;unfold ApS at i;rw[oj k]at i;obtain⟨e,g,rfl⟩:=a;have q:=d g Z;exact⟨y,g,c,aG.N (fun b h=>⟨h.1,JS h.2 l.1,by omega⟩) l.2,e,Or.inl Z,o,i.2⟩
 ·unfold AfV at a;rw[oe k]at a;obtain⟨g,cap,e,q,v⟩:=a;exact⟨t,g,cap,aG.N (fun b h=>⟨h.1,JS h.2 m.1,by omega⟩) m.2,e,Or.inr (JU u q),o,by rw[←e];exact v⟩
end
def kB(W0:J) (M:Nat) (next:Int) (l:List ai) (v:tS) (W:J):Prop:=
 Kr W0 W∧W0.heap.size≤M∧W.heap[M]?=A (r7 #[v,I U next] 152 (0,0))∧(∀b,v.ownBlock=A b→M<b)∧aA W (fun b=>M<b∧b<W.heap.size∧v.ownBlock≠A b) 47 aG l v
theorem kB.old{W0 W W':J}{M:Nat}{next:Int}{l:List ai}{v:tS}(h:kB W0 M next l v W)(a:Kr W W'):kB W0 M next l v W':=by
 obtain⟨d,g,e,i,us,j,k⟩:=h;exact⟨d.trans (a.mono d.size),g,aa a e (JL.1 e).1,i,us,hH j a,Rd.tF (fun b h=>⟨h.1,JS h.2.1 a.size,h.2.2⟩) (Rd.tE (fun b h o m=>(a.block b h.2.1).trans m) k)⟩
theorem kB.h{W0 W:J}{M:Nat}{next:Int}{l:List ai}{v:tS}(h:kB W0 M next l v W):aG.h W (fun b=>b<W.heap.size) l v:=by
 obtain⟨i,j,k,m,us,a,d⟩:=h;exact Rd.row_own (r:=aG) a (Rd.tF (fun b h=>h.2.1) d) (fun g e=>(aP a g e).2)
theorem xA{next:Int}{l:List ai}{k:Nat}{last:Int}{f:ai}(a:l[k]?=A f):gQ next (l.take k) last (l.drop k)=(!(decide (f.id≤last)||decide (next≤f.id)||!kU f||tM (l.take k) f)&&gQ next (l.take (k+1)) f.id (l.drop (k+1))):=by
 have b:l.drop k=f::l.drop (k+1):=by
  rw[List.drop_eq_getElem_cons (J3.1 a).1];rw[(J3.1 a).2]
 have d:l.take (k+1)=l.take k++[f]:=by rw[Kj,a];rfl
 rw[b,d];rfl
def BD(W:J) (next:Int) (l:List ai) (e:Ending) (W':J):Prop:=
 Kr W W'∧((eR next l=true∧∃M u,e=wg (y9 #[vo (A ⟨M,0,Y⟩),I U 0])∧kB W M next l u W')∨(eR next l=false∧e=wg (y9 #[vo Y,I U 4])))
def JJ(W:J) (M:Nat) (next:Int) (l:List ai) (i b:tS) (V:J):Prop:=
 ∃(a:J) (k:Nat) (last:Int) (u:tS),a=V∧i=I U k∧b=I U last∧k≤l.length∧kB W M next (l.take k) u a∧gQ next (l.take k) last (l.drop k)=gQ next [] 0 l
theorem Fb{next:Int}{l:List ai}(a:1≤next)(b:next≤1099511627777)(d:l.length≤256):eR next l=gQ next [] 0 l:=by
 unfold eR;rw[decide_eq_true a,decide_eq_true b,decide_eq_true d];rfl
theorem mx{next:Int}{l:List ai}{k:Nat}{last:Int}{f:ai}(a:l[k]?=A f)(h:(decide (f.id≤last)||decide (next≤f.id)||!kU f||tM (l.take k) f)=true):gQ next (l.take k) last (l.drop k)=false:=by rw[xA a,h];rfl
theorem Bn{next:Int}{l:List ai}{k:Nat}{last:Int}{f:ai}(a:l[k]?=A f)(h:(decide (f.id≤last)||decide (next≤f.id)||!kU f||tM (l.take k) f)=false):gQ next (l.take k) last (l.drop k)=gQ next (l.take (k+1)) f.id (l.drop (k+1)):=by rw[xA a,h];rfl
theorem IF(s:Option Nat):s.isSome=decide (0≤eK s):=by
 cases s with
 | none=>rfl
 | some k=>exact (decide_eq_true (show (0:Int)≤(k:Int) by omega)).symm
theorem Im(f:ai)(l:List ai):tM l f=decide (0≤eK (ir (j5 f) l 0)):=by rw[←IF,xI];rfl
theorem Hm(next:Int)(l:List ai)(v:tS)(W:J)(_hI:I64 next)(hl:aG.h W (fun b=>b<W.heap.size) l v):Calls Tryz.prog 50 #[I U next,v] W (BD W next l):=by
 obtain⟨p,c,hv⟩:=Rd.q hl;have bB:=Rd.sb hl;obtain⟨n,hn⟩:=zzy (l.length);rw[hn]at hv bB;subst hv;have fm:(n:Int)≤9223372036854775807:=by unfold maxLen at bB;omega
 have q:Hid (eR next l=false→∀V,Kr W V→BD W next l (wg (y9 #[vo Y,I U 4])) V):=fun h V hV=>⟨hV,Or.inr ⟨h,Z⟩⟩
 have HR:=Hd (fun V (hV:Kr W V)=>Rd.sv (fun x hx o T=>(hV.block x hx).trans T) hl);have X:=Hd hn;have h0:Hid (Kr W W):=JO _ _;clear hl hn bB _hI
 by_cases h1:next<1
 ·have a:=Hd (q.o (by unfold eR;rw[oE (show ¬1≤next by omega)];rfl))
  go_enter Tryz.func50,Tryz.ntmps50
  go_wp2_with fail
  go_returns
  exact a.o _ h0.o
 ·by_cases h2:1099511627777<next
  ·have a:=Hd (q.o (by unfold eR;rw[oE (show ¬next≤1099511627777 by omega),Bool.and_false];rfl))
   go_enter Tryz.func50,Tryz.ntmps50
   go_wp2_with fail
   go_returns
   exact a.o _ h0.o
  ·by_cases h3:(256:Int)<n
   ·have a:=Hd (q.o (by unfold eR;rw[oE (show ¬l.length≤256 by have:=X.o;omega),Bool.and_false];rfl))
    go_enter Tryz.func50,Tryz.ntmps50
    go_wp2_with fail
    go_returns
    exact a.o _ h0.o
   ·have M:eR next l=gQ next [] 0 l:=Fb (by omega) (by omega) (by have:=X.o;omega);have HG:=Hd M;obtain⟨W1,a6⟩:=zzx (W.alloc (r7 #[O Y 0 0,I U next] 152));have ca:Kr W W1:=by rw[a6];exact (JO _ W).alloc (JM _) _
    have cb:W1.heap[W.heap.size]?=A (r7 #[O Y 0 0,I U next] 152 (0,0)):=by rw[a6];exact oc W _
    have cc:Hid (kB W W.heap.size next [] (O Y 0 0) W1):=⟨ca,JM _,cb,(fun b a=>by cases a),aA.nil⟩;have cf:=Hd a6;have dd:n≤256:=by omega
    clear M a6 ca cb h0
    go_enter Tryz.func50,Tryz.ntmps50
    go_upto_region 4 with fail
    change Code.wp _ _ _ _ (W.alloc (r7 #[O Y 0 0,I U next] 152));rw[←cf.o];clear cf;go_wp2_with fail
    go_loopw [26,7] (JJ W W.heap.size next l) (fun i _ _=>n-(intOf i).toNat)
    case atStart=>exact⟨_,0,0,_,Z,Z,Z,J0 _,cc.o,Z⟩
    case round =>
     clear cc;obtain⟨V,k,last,u,rfl,rfl,rfl,hk,hm,ba⟩:=hrel;rw[X.o]at hk;obtain⟨HM,N⟩:=zz2 hm ba
     by_cases bR:k<n
     ·have fr:(k:Int)<n:=by omega
      obtain⟨f,b0⟩:∃v,l[k]?=A v:=⟨l[k]'(by rw[X.o];exact bR),JR (by rw[X.o];exact bR)⟩;have b1:=hm.1;obtain⟨bb,off,cap,us,ch,_,_,_,dg,ad,z⟩:=Rd.X (HR.o _ b1) b0;injection ch with hp dn ds
      subst hp;clear dn ds;obtain⟨ck,b2,sl,rfl,w⟩:=bW.1 ad;obtain⟨p6,c6,bn⟩:=Rd.q w;obtain⟨m6,b3⟩:=zzy (f.c.length);rw[b3]at bn;subst bn;have d0:V.cell? ⟨bb,off+k*3,Y⟩=A (I U f.id):=z 0 _ Z;have d1:V.cell? ⟨bb,off+k*3+1,Y⟩=A (I U f.u):=z 1 _ Z;have d2:V.cell? ⟨bb,off+k*3+2,Y⟩=A (O p6 m6 c6):=z 2 _ Z;obtain⟨W6,bd⟩:=zzx (V.alloc (r7 #[I U f.id,I U f.u,O p6 m6 c6] 47));have bg:Kr V W6:=by rw[bd];exact (JO _ V).alloc (JM _) _
      have b4:W6.heap[V.heap.size]?=A (r7 #[I U f.id,I U f.u,O p6 m6 c6] 47 (0,0)):=by rw[bd];exact oc V _
      have H:=hm.old bg;have hle:=b1.size;have dt:=bg.size;have C:∀D,Kr W6 D→bK.h D (fun b=>b<D.heap.size) f.c (O p6 m6 c6):=fun D hU =>Rd.sI (fun x hx=>(by have:=hU.size;omega:x<D.heap.size)) (Rd.sv (fun x hx o T=>(hU.block x (by omega)).trans ((bg.block x (JS hx hle)).trans T)) w)
      obtain⟨R,S,hu⟩:∃R S,u=O R k S:=by
       obtain⟨q1,q2,h⟩:=Rd.q hm.h;rw[List.length_take,X.o,Nat.min_eq_left hk]at h;exact⟨_,_,h⟩
      subst hu;obtain⟨F,K⟩:=zz2 (fun x:Wb W6=>IX f (O p6 m6 c6) x.1 b2 (C _ x.2)) (fun x:Wb W6=>GR f (l.take k) W.heap.size (O R k S) (O p6 m6 c6) x.1 (by have:=(H.old x.2).2.2.1;simp[World.cell?,this]) (H.old x.2).h (C _ x.2));obtain⟨x0,x1,x2,_⟩:=aL b4;have X0:=fun x:Wb W6=>x.h x0
      have X1:=fun x:Wb W6=>x.h x1
      have X2:=fun x:Wb W6=>x.h x2
      obtain⟨b5,r,cl,P,dv,ef,fs⟩:=zz7 b4 H bd b0 C (And.intro ck b2) b3;have b6:=Im f (l.take k);obtain⟨bm,af⟩:=zzy (kU f);obtain⟨si,cm⟩:=zzy (eK (ir (j5 f) (l.take k) 0));rw[af]at F;rw[cm]at K b6;obtain⟨b7,cn⟩:=zz2 af b6;clear bg b4 H bd z ad dg hm ba b0 b1 w ck b2 b3 hle dt C x0 x1 x2 af b6 cm;go_upto_region 8 with fail
      change Code.wp _ _ _ _ (V.alloc (r7 #[I U f.id,I U f.u,O p6 m6 c6] 47));rw[←cl.o];clear cl d0 d1 d2
      by_cases hA:f.id≤last
      ·have G:=Hd (q.o (by rw[HG.o,←N.o,mx P.o (by rw[decide_eq_true hA];rfl)]));refine ao (by kernel_rfl) (by kernel_rfl) ?_
       repeat (go_big_quiet_step (fail))
       refine xL ?_;intro j d;have E:=Hd (r.o.1.trans ((bA d).mono r.o.1.size));clear d X0 X1 X2;go_wp2_with fail
       go_returns
       exact G.o _ E.o
      ·by_cases hB:next≤f.id
       ·have G:=Hd (q.o (by rw[HG.o,←N.o,mx P.o (by rw[decide_eq_true hB];simp)]));refine ao (by kernel_rfl) (by kernel_rfl) ?_
        repeat (go_big_quiet_step (fail))
        refine xL ?_;intro j d;have E:=Hd (r.o.1.trans ((bA d).mono r.o.1.size));clear d X0 X1 X2;go_wp2_with fail
        go_returns
        exact G.o _ E.o
       ·cases bm with
        | false =>
         have G:=Hd (q.o (by rw[HG.o,←N.o,mx P.o (by rw[b7.o];simp)]));refine ao (by kernel_rfl) (by kernel_rfl) ?_
         repeat (go_big_quiet_step ((go_at_call 74;exact Calls.h (F.o _))))
         refine xL ?_;intro j d;have E:=Hd (r.o.1.trans ((bA d).mono r.o.1.size));clear d X0 X1 X2;go_wp2_with fail
         go_returns
         exact G.o _ E.o
        | true =>
         by_cases hS:0≤si
         ·have G:=Hd (q.o (by rw[HG.o,←N.o,mx P.o (by rw[cn.o,decide_eq_true hS];simp)]));refine ao (by kernel_rfl) (by kernel_rfl) ?_
          repeat (go_big_quiet_step (first|(go_at_call 74;exact Calls.h (F.o _))|(go_at_call 75;exact Calls.h (K.o _))))
          refine xL ?_;intro j d;have E:=Hd (r.o.1.trans ((bA d).mono r.o.1.size));clear d X0 X1 X2;go_wp2_with fail
          go_returns
          exact G.o _ E.o
         ·have en:Hid (gQ next (l.take (k+1)) f.id (l.drop (k+1))=gQ next [] 0 l):=by
           show _=_
           rw[←N.o,Bn P.o];rw[oE hA,oE hB,b7.o,cn.o,oE hS];rfl
          refine ao (by kernel_rfl) (by kernel_rfl) ?_
          repeat (go_big_quiet_step (first|(go_at_call 74;exact Calls.h (F.o _))|(go_at_call 75;exact Calls.h (K.o _))))
          refine xL ?_;intro j d;have aq:=bA d;have eo:=r.o.old aq;have bk:=aa aq b5.o (JL.1 b5.o).1;obtain⟨cp,er,bl,cq,us,ar,cr⟩:=eo;have hlen:(l.take k).length=k:=by rw[List.length_take,X.o,Nat.min_eq_left hk]
          rw[hlen]at ar;have hX:V.heap.size<j.heap.size:=(JL.1 bk).1;have ct:W.heap.size<j.heap.size:=(JL.1 bl).1
          have t:∀g,(O R k S).ownBlock=A g→W.heap.size<g∧g<V.heap.size:=fun g M=>⟨cq g M,by
           obtain⟨_,_,_,_,ft,h5,_⟩:=HM.o
           exact (aP h5 g M).2⟩
          have cu:∀b,(b=W.heap.size∨b=V.heap.size)→b<j.heap.size∧(O R k S).ownBlock≠A b:=fun b a=>by
           rcases a with rfl|rfl
           ·exact⟨ct,fun e=>by have:=(t _ e).1;omega⟩
           ·exact⟨hX,fun e=>by have:=(t _ e).2;omega⟩
          obtain⟨m0,m1,_⟩:=cj bl;obtain⟨y0,y1,y2,_⟩:=aL bk;have M0:=fun x:Ks j (fun b=>b=W.heap.size∨b=V.heap.size)=>x.h (Or.inl Z) m0
          have Y0:=fun x:Ks j (fun b=>b=W.heap.size∨b=V.heap.size)=>x.h (Or.inr Z) y0
          have Y1:=fun x:Ks j (fun b=>b=W.heap.size∨b=V.heap.size)=>x.h (Or.inr Z) y1
          have Y2:=fun x:Ks j (fun b=>b=W.heap.size∨b=V.heap.size)=>x.h (Or.inr Z) y2
          obtain⟨cy,cA,et,e0,b8,E,e2⟩:=zz7 (fun (s:Nat) (D:J) (h:stF j R k S us f s D)=>IZ cu s D h) ar cr bl t cp bk;have cC:=Hd (fun D (hU:Kr j D)=>dv.o D (aq.trans (hU.mono aq.size)));have cR:f.c.length≤6:=by
           have:=b7.o;unfold kU at this;simp only[J4,oB]at this;omega
          have e3:=Hd cR;clear d aq bk bl cq ar cr t cu er X0 X1 X2 m0 m1 y0 y1 y2 F K r b5 cp cR;go_upto_region 10 with fail
          refine RE.z (by kernel_rfl) 13 [7,8,9] [7,9] (stF j R k S us f) (ApQ j) (fun i ys=>if i=7 then wP #[I U f.id,I U f.u,ys.getD 0 xk] else ys.getD 0 xk) (phF j R k S us f) (by kernel_rfl) (fun _ _ _ _ _ _ h a=>h.C a) (fun _ _ _ _ h _ hR=>h.K hR) (stF.lo (by decide) ⟨⟨j.drew,(JO _ _).drew⟩,Z⟩) ?_;simp only[JY,J7,JZ,J6]
          repeat (refine RE.q (fun D=>∃x:Ks j (fun b=>b=W.heap.size∨b=V.heap.size),D=x.1) (fun _ _ _ h=>cy.o _ _ h) Z Z Z (stF.lo (by decide) ⟨⟨j.drew,(JO _ _).drew⟩,Z⟩) ?_;go_big_quiet_step (fail);refine xL ?_)
          refine RE.h Z Z ?_ (fun x7=>?_)
          ·intro D _ hS _;obtain⟨x,rfl⟩:=stF.get (by decide) (hS Z);refine RE.C 76 _ _ Z (enters_of Tryz.func76 (by kernel_rfl) Z) #[wP #[I U f.id,I U f.u,O p6 m6 c6]] (by simp[Act.eval]) ((Ap f _ x.1 ef.o (cC.o _ x.2) (by have:=e3.o;omega)).mono ?_);rintro e U' ⟨z0,z1,z2,rfl,a,ad⟩;obtain⟨_,_,s6,e6,_⟩:=bW.1 ad;injection e6 with e6 e7
           injection e7 with e7 e8
           injection e8 with e8 _
           subst e6;subst e7;subst e8;have hs:=x.2.size;exact⟨_,Z,[z2],Z,stF.lo (p:=R) (n:=k) (c:=S) (us:=us) (f:=f) (s:=1) (by decide) ⟨⟨U',x.2.trans (a.mono x.2.size)⟩,Z⟩,ApQ.u a,U'.heap.size,JM _,aG.N (fun b a=>⟨JU hs a.1,a.2⟩) ad⟩
          simp only[Act.put,JP,JW,JV,reduceIte];refine RE.h Z Z ?_ (fun x8=>?_)
          ·intro D hC hS hE;obtain⟨s9,_,h9⟩:=hC;have h7:∃B,OwF j f B D (x7.getD 0 xk):=hE 7 x7 (by kernel_rfl) Z;obtain⟨B,h7⟩:=h7;exact ek sZ (vs:=fcs f (x7.getD 0 xk)) _ Z Z Z (FK h9) (fun v U' a T=>⟨[v],Z,a,ApQ.u a,_,B,h7.K (ApR.u a) a.size,T⟩)
          simp only[Act.put,JP,JW,JV,Nat.reduceEqDiff,reduceIte];refine RE.h Z Z ?_ (fun x9=>?_)
          ·intro D _ hS hE;obtain⟨x,rfl⟩:=stF.get (by decide) (hS Z);have h8:∃y B,OwF j f B x.1 y∧One 47 j.heap.size (fcs f y) x.1 (x8.getD 0 xk):=hE 8 x8 (by kernel_rfl) Z;obtain⟨y,B,h7,h8⟩:=h8;have cT:∀u∈fcs f y,u.oneCell'=true:=aG.one h7.2;refine yF sZ (p:=R) (n:=k) (c:=S) (L:=j.heap.size) (vs:=fcs f y) (xs:=us) _ _ Z Z h8 Z cT (hH cA.o x.2) (by omega) (fun v' U' h1 h2=>?_);obtain⟨k1,k2,k3⟩:=GL x.2 (fun g M=>Nat.lt_trans (b8.o g M).2 hX) h1 h2;have cV:=h7.K k3.1 k3.2;have e4:AfV R k S x.1.heap.size (us++fcs f y) U' v':=k2;exact⟨[v'],Z,⟨y,B,cV,k1⟩,k3,y,x.1.heap.size,⟨k3.2,aG.N (fun b a=>⟨a.1,JS a.2 h7.1⟩) cV.2⟩,x.2.size,e4⟩
          simp only[Act.put,JP,JW,JV,Nat.reduceEqDiff,reduceIte]
          repeat (refine RE.q (fun D=>∃x:Ks j (fun b=>b=W.heap.size∨b=V.heap.size),D=x.1) (fun _ _ _ h=>cy.o _ _ h) Z Z Z (stF.lo (by decide) ⟨⟨j.drew,(JO _ _).drew⟩,Z⟩) ?_;go_big_quiet_step (fail);refine xL ?_)
          refine RE.u ?_;intro W8 hS hE;obtain⟨y,g,cap,cW,eg,M,hC,w⟩:=Iy (fun g M=>Nat.lt_trans (b8.o g M).2 hX) hS (hE 9 x9 Z);rw[eg];have t:=b8.o;have a1:W8.heap[W.heap.size]?=A (r7 #[O R k S,I U next] 152 (0,0)):=(hC.q _ ct (fun e=>by have:=(t _ e).1;omega)).trans e0.o;have c0:W8.heap[V.heap.size]?=A (r7 #[I U f.id,I U f.u,O p6 m6 c6] 47 (0,0)):=(hC.q _ hX (fun e=>by have:=(t _ e).2;omega)).trans e2.o;have e5:=hC.z;have c1:W.heap.size<g:=by
           rcases M with e|e
           ·exact (t _ e).1
           ·omega
          obtain⟨W9,Q⟩:=zzx (W8.setCell ⟨W.heap.size,0,Y⟩ (O (A ⟨g,0,Y⟩) (k+1) cap));have T:∀b,b≠W.heap.size→W9.heap[b]?=W8.heap[b]?:=fun b a=>by rw[Q];exact oA _ _ _ _ a
          have e9:W9.heap.size=W8.heap.size:=by rw[Q];simp[World.setCell]
          have e1:l.take (k+1)=l.take k++[f]:=by rw[Kj,P.o];rfl
          have c3:(l.take (k+1)).length=k+1:=by rw[List.length_take,X.o,Nat.min_eq_left bR]
          have bq:kB W W.heap.size next (l.take (k+1)) (O (A ⟨g,0,Y⟩) (k+1) cap) W9:=by
           refine⟨?_,JM _,?_,?_,us++fcs f y,?_,?_⟩
           ·rw[Q];exact (Chg.C E.o hC (fun i hi=>Ke (t i hi).1) (by omega)).setCell (p:=⟨W.heap.size,0,Y⟩) (JM _) _
           ·rw[Q];exact heap_set a1 0 _
           ·intro b a;injection a with a;subst a;exact c1
           ·rw[c3];exact dj w (fun b a=>by injection a with a;subst a;exact T _ (by show g≠W.heap.size;omega))
           ·rw[e1];refine Rd.th ?_ ?_
            ·refine Rd.tF (fun b a=>?_) (Rd.tE (fun b a o b9=>((T b (Nat.ne_of_gt a.1)).trans (hC.q b a.2.1 a.2.2)).trans b9) et.o);obtain⟨q1,q2,q3⟩:=a;refine⟨q1,by omega,fun e=>?_⟩;injection e with e
             have e:g=b:=e;subst e;rcases M with e|e
             ·exact q3 e
             ·omega
            ·refine aG.N (fun b a=>?_) (aG.K (fun b a o b9=>(T b (by obtain⟨q1,_⟩:=a;omega)).trans b9) cW);obtain⟨q1,q2,q3⟩:=a;refine⟨by omega,by omega,fun e=>?_⟩;injection e with e
             exact q3 e.symm
          have c5:=(T V.heap.size (by have:=(JL.1 HM.o.2.2.1).1;omega)).trans c0;obtain⟨y0,y1,y2,_⟩:=aL c5;obtain⟨m0,_,g0,_⟩:=cj a1;obtain⟨c7,c8⟩:=zz2 bq Q;clear hS hE cW eg M hC w t a1 c0 c1 T e9 e1 c3 bq c5 M0 Y0 Y1 Y2 Q e5;go_upto_region 11 with fail
          change Code.wp _ _ _ _ (W8.setCell ⟨W.heap.size,0,Y⟩ (O (A ⟨g,0,Y⟩) (k+1) cap));rw[←c8.o];clear m0 g0 c8;go_wp2_with fail
          refine⟨⟨_,k+1,f.id,_,Z,by go_num,Z,by rw[X.o];omega,c7.o,en.o⟩,by simp[intOf];omega⟩
     ·obtain rfl:k=n:=by omega
      have bt:BD W next l (wg (y9 #[vo (A ⟨W.heap.size,0,Y⟩),I U 0])) V:=by
       refine⟨hm.1,Or.inl ⟨?_,_,u,Z,?_⟩⟩
       ·rw[HG.o,←ba,←X.o,List.take_length,List.drop_length];rfl
       ·rw[←X.o,List.take_length]at hm;exact hm
      have c9:=Hd bt;clear hm ba bt HM N;go_wp2_with fail
      go_returns
      exact c9.o
