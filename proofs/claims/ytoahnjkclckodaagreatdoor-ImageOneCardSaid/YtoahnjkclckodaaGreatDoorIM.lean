/- Parts of one proof, joined; conditions stand in each theorem. -/
import Derived.Test.YtoahnjkclckodaaGreatDoorIL
import Derived.Test.YtoahnjkclckodaaGreatDoorMD
import Derived.Test.YtoahnjkclckodaaGreatDoorNB
open Go.Value renaming agg→xk,int→I,slice→O,tuple→y9,pointer→vv
open Go.IntKind renaming i64→U
open Option renaming none→Y,some→A
open Go renaming World→J,Value→tT,undef→wF,wpQuiet_nil→xL
open Go.Obj renaming cells→r9
open Go.Ending renaming returned→wj
namespace Go.Proofs.YtoahnjkclckodaaGreatDoor
set_option maxHeartbeats 4000000
set_option maxRecDepth 100000
open Go.RowKit
theorem qO:Elem 47 22 3 40:=Elem.of (z:=xk #[I U 0,I U 0,O Y 0 0]) Tryz.underlying22 (by kernel_rfl) Z (by decide) (by decide)
def OwF(w4:J) (f:am) (B:Nat) (V:J) (y:tT):Prop:=B≤V.heap.size∧aC.at_ V (fun b=>w4.heap.size≤b∧b<B) f [I U f.id,I U f.u,y]
def fcs(f:am) (y:tT):List Value:=[I U f.id,I U f.u,y]
def AfV(p:Option Addr) (n c B:Nat) (row:List tT) (W:J) (v:tT):Prop:=
 if n<c then v=O p (n+1) c∧∃g,p=A ⟨g,0,Y⟩ else ∃g cap,v=O (A ⟨g,0,Y⟩) (n+1) cap∧B≤g∧W.ownsRow 0 47 3 v (n+1) row
def stF(w4:J) (p:Option Addr) (n c:Nat) (us:List tT) (f:am) (s:Nat) (W:J):Prop:=
 if s<2 then (∃x:Wb w4,W=x.1) else ∃y B,OwF w4 f B W y∧ApS 47 3 w4 p n c (us++fcs f y) W
def phF(w4:J) (p:Option Addr) (n c:Nat) (us:List tT) (f:am) (k:Nat) (W:J) (a:List tT):Prop:=
 if k=7 then ∃B,OwF w4 f B W (a.getD 0 wF) else if k=8 then ∃y B,OwF w4 f B W y∧One 47 w4.heap.size (fcs f y) W (a.getD 0 wF)
 else if k=9 then ∃y B,OwF w4 f B W y∧w4.heap.size≤B∧AfV p n c B (us++fcs f y) W (a.getD 0 wF) else True
section
variable {w4 W W':J} {p:Option Addr} {n c B:Nat} {us:List tT} {f:am} {y:tT}
theorem OwF.t(h:OwF w4 f B W y)(d:ApR w4 W W')(e:W.heap.size≤W'.heap.size):OwF w4 f B W' y:=
 ⟨FH h.1 e,aC.t (fun b a _o g=>(d b a.1 (FG a.2 h.1)).trans g) h.2⟩
theorem AfV.t{row:List tT}{v:tT}(h:AfV p n c B row W v)(hB:w4.heap.size≤B)(k:ApR w4 W W'):AfV p n c B row W' v:=by
 unfold AfV at *
 split
 ·rename_i b;rw[oE b]at h;exact h
 ·rename_i b
  rw[oB b]at h;obtain⟨g,cap,d,e,i⟩:=h;refine⟨g,cap,d,e,cO i fun j a=>?_⟩;have l:=(aL i j a).2;rw[d]at a;injection a with a
  have a:g=j:=a;subst a;exact k g (FH hB e) l
def ApQ(w4 W W':J):Prop:=ApR w4 W W'∧W.heap.size≤W'.heap.size
theorem ApQ.t(h:Gl W W'):ApQ w4 W W':=⟨ApR.t h,h.size⟩
theorem stF.C{s:Nat}(h:stF w4 p n c us f s W)(a:Gl W W'):stF w4 p n c us f s W':=by
 unfold stF at *
 split
 ·rename_i b
  rw[oE b]at h;obtain⟨x,rfl⟩:=h;exact⟨⟨W',x.2.trans (a.mono x.2.size)⟩,Z⟩
 ·rename_i b
  rw[oB b]at h;obtain⟨y,B,d,e⟩:=h;exact⟨y,B,d.t (ApR.t a) a.size,e.C a⟩
theorem phF.t{k:Nat}{i:List tT}(h:phF w4 p n c us f k W i)(a:ApQ w4 W W'):phF w4 p n c us f k W' i:=by
 unfold phF at *
 split
 ·rename_i b;rw[oE b]at h;obtain⟨B,h⟩:=h;exact⟨B,h.t a.1 a.2⟩
 ·rename_i b
  rw[oB b]at h
  split
  ·rename_i d
   rw[oE d]at h;obtain⟨y,B,e,g⟩:=h;exact⟨y,B,e.t a.1 a.2,g.t a.1⟩
  ·rename_i d
   rw[oB d]at h
   split
   ·rename_i e
    rw[oE e]at h;obtain⟨y,B,g,j,l⟩:=h;exact⟨y,B,g.t a.1 a.2,j,l.t j a.1⟩
   ·trivial
theorem EB{K:Nat→Prop}(a:∀b,K b→b<w4.heap.size∧(O p n c).ownBlock≠A b)(s:Nat)(W:J)(h:stF w4 p n c us f s W):∃x:Ks w4 K,W=x.1:=by
 unfold stF at h
 split at h
 ·exact jp (E:=47) (sz:=3) (row:=us) (p:=p) (n:=n) (c:=c) a 0 0 W (Fy _) h
 ·obtain⟨y,_,_,h⟩:=h;exact jp (E:=47) (sz:=3) (row:=us++fcs f y) a 1 1 W (Fy _) h
theorem B6{s:Nat}(h:stF w4 p n c us f s W):w4.heap.size≤W.heap.size:=by
 unfold stF at h
 split at h
 ·obtain⟨x,rfl⟩:=h;exact x.2.size
 ·obtain⟨y,_,_,h⟩:=h;exact h.u
theorem stF.lo{s:Nat}(a:s<2)(h:∃x:Wb w4,W=x.1):stF w4 p n c us f s W:=by unfold stF;rwa [oE a]
theorem stF.get{s:Nat}(a:s<2)(h:stF w4 p n c us f s W):∃x:Wb w4,W=x.1:=by unfold stF at h;rwa [oE a]at h
theorem CY{h:J}{row:List tT}{v:tT}(d:Gl w4 h)(i:∀g,(O p n c).ownBlock=A g→g<w4.heap.size)(a:ApS 47 3 h p n c row W)(j:ApV 47 3 h p n c row W v):ApS 47 3 w4 p n c row W∧AfV p n c h.heap.size row W v∧ApQ w4 h W:=by
 have l:=a.chg;refine⟨?_,?_,ApR.of_chg l (fun b o=>i b o),l.u⟩
 ·unfold ApS at a ⊢
  split
  ·rename_i e
   rw[oE e]at a;exact⟨⟨a.1.os.trans d.os,a.1.a.trans d.tape,a.1.c.trans d.output,FH d.size a.1.u,fun x m k=>(a.1.q x (FG m d.size) k).trans (d.block x m)⟩,a.2⟩
  ·rename_i e
   rw[oB e]at a;obtain⟨x,rfl⟩:=a;exact⟨⟨x.1,d.trans (x.2.mono d.size)⟩,Z⟩
 ·unfold ApV at j;unfold AfV
  split
  ·rename_i e;rw[oE e]at j;exact j
  ·rename_i e
   rw[oB e]at j;exact j
theorem Ee{j:List tT}(d:∀g,(O p n c).ownBlock=A g→g<w4.heap.size)(r:stF w4 p n c us f 2 W)(s:phF w4 p n c us f 9 W j) :
  ∃y g cap,aC.at_ W (fun b=>w4.heap.size≤b∧b<W.heap.size∧b≠g) f (fcs f y)∧j.getD 0 wF=O (A ⟨g,0,Y⟩) (n+1) cap∧((O p n c).ownBlock=A g∨w4.heap.size≤g)∧Chg (fun x=>(O p n c).ownBlock=A x) w4 W∧W.ownsRow 0 47 3 (O (A ⟨g,0,Y⟩) (n+1) cap) (n+1) (us++fcs f y):=by
 obtain⟨y,B,l,i⟩:∃y B,OwF w4 f B W y∧ApS 47 3 w4 p n c (us++fcs f y) W:=r;obtain⟨t,w,m,u,a⟩:∃y B,OwF w4 f B W y∧w4.heap.size≤B∧AfV p n c B (us++fcs f y) W (j.getD 0 wF):=s;have o:=i.chg
 by_cases k:n<c
 ·unfold AfV at a;rw[oE k]at a;unfold ApS at i;rw[oE k]at i;obtain⟨e,g,rfl⟩:=a;have q:=d g Z;exact⟨y,g,c,aC.D (fun b h=>⟨h.1,FG h.2 l.1,by omega⟩) l.2,e,Or.inl Z,o,i.2⟩
 ·unfold AfV at a;rw[oB k]at a;obtain⟨g,cap,e,q,v⟩:=a;exact⟨t,g,cap,aC.D (fun b h=>⟨h.1,FG h.2 m.1,by omega⟩) m.2,e,Or.inr (FH u q),o,by rw[←e];exact v⟩
end
def jX(W0:J) (M:Nat) (next:Int) (l:List am) (v:tT) (W:J):Prop:=
 Gl W0 W∧W0.heap.size≤M∧W.heap[M]?=A (r9 #[v,I U next] 152 (0,0))∧(∀b,v.ownBlock=A b→M<b)∧aw W (fun b=>M<b∧b<W.heap.size∧v.ownBlock≠A b) 47 aC l v
theorem jX.old{W0 W W':J}{M:Nat}{next:Int}{l:List am}{v:tT}(h:jX W0 M next l v W)(a:Gl W W'):jX W0 M next l v W':=by
 obtain⟨d,g,e,i,us,j,k⟩:=h;exact⟨d.trans (a.mono d.size),g,aa a e (Fx.1 e).1,i,us,gj j a,Rd.tE (fun b h=>⟨h.1,FG h.2.1 a.size,h.2.2⟩) (Rd.tv (fun b h o m=>(a.block b h.2.1).trans m) k)⟩
theorem jX.h{W0 W:J}{M:Nat}{next:Int}{l:List am}{v:tT}(h:jX W0 M next l v W):aC.h W (fun b=>b<W.heap.size) l v:=by
 obtain⟨i,j,k,m,us,a,d⟩:=h;exact Rd.row_own (r:=aC) a (Rd.tE (fun b h=>h.2.1) d) (fun g e=>(aL a g e).2)
theorem ux{next:Int}{l:List am}{k:Nat}{last:Int}{f:am}(a:l[k]?=A f):gb next (l.take k) last (l.drop k)=(!(decide (f.id≤last)||decide (next≤f.id)||!lN f||ri (l.take k) f)&&gb next (l.take (k+1)) f.id (l.drop (k+1))):=by
 have b:l.drop k=f::l.drop (k+1):=by
  rw[List.drop_eq_getElem_cons (FU.1 a).1];rw[(FU.1 a).2]
 have d:l.take (k+1)=l.take k++[f]:=by rw[Gd,a];rfl
 rw[b,d];rfl
def yG(W:J) (next:Int) (l:List am) (e:Ending) (W':J):Prop:=
 Gl W W'∧((eL next l=true∧∃M u,e=wj (y9 #[vv (A ⟨M,0,Y⟩),I U 0])∧jX W M next l u W')∨(eL next l=false∧e=wj (y9 #[vv Y,I U 4])))
def Fv(W:J) (M:Nat) (next:Int) (l:List am) (i b:tT) (V:J):Prop:=
 ∃(a:J) (k:Nat) (last:Int) (u:tT),a=V∧i=I U k∧b=I U last∧k≤l.length∧jX W M next (l.take k) u a∧gb next (l.take k) last (l.drop k)=gb next [] 0 l
theorem BG{next:Int}{l:List am}(a:1≤next)(b:next≤1099511627777)(d:l.length≤256):eL next l=gb next [] 0 l:=by
 unfold eL;rw[decide_eq_true a,decide_eq_true b,decide_eq_true d];rfl
theorem lC{next:Int}{l:List am}{k:Nat}{last:Int}{f:am}(a:l[k]?=A f)(h:(decide (f.id≤last)||decide (next≤f.id)||!lN f||ri (l.take k) f)=true):gb next (l.take k) last (l.drop k)=false:=by rw[ux a,h];rfl
theorem yr{next:Int}{l:List am}{k:Nat}{last:Int}{f:am}(a:l[k]?=A f)(h:(decide (f.id≤last)||decide (next≤f.id)||!lN f||ri (l.take k) f)=false):gb next (l.take k) last (l.drop k)=gb next (l.take (k+1)) f.id (l.drop (k+1)):=by rw[ux a,h];rfl
theorem Ek(s:Option Nat):s.isSome=decide (0≤ek s):=by
 cases s with
 | none=>rfl
 | some k=>exact (decide_eq_true (show (0:Int)≤(k:Int) by omega)).symm
theorem DX(f:am)(l:List am):ri l f=decide (0≤ek (gG (jy f) l 0)):=by rw[←Ek,uC];rfl
theorem Dw(next:Int)(l:List am)(v:tT)(W:J)(_hI:I64 next)(hl:aC.h W (fun b=>b<W.heap.size) l v):Calls Tryz.prog 50 #[I U next,v] W (yG W next l):=by
 obtain⟨p,c,hv⟩:=Rd.q hl;have bR:=Rd.N hl;obtain⟨n,hn⟩:=zzy (l.length);rw[hn]at hv bR;subst hv;have fs:(n:Int)≤9223372036854775807:=by unfold maxLen at bR;omega
 have q:Hid (eL next l=false→∀V,Gl W V→yG W next l (wj (y9 #[vv Y,I U 4])) V):=fun h V hV=>⟨hV,Or.inr ⟨h,Z⟩⟩
 have HR:=Hd (fun V (hV:Gl W V)=>Rd.sb (fun x hx o T=>(hV.block x hx).trans T) hl);have X:=Hd hn;have h0:Hid (Gl W W):=Fz _ _;clear hl hn bR _hI
 by_cases h1:next<1
 ·have a:=Hd (q.o (by unfold eL;rw[oT (show ¬1≤next by omega)];rfl))
  go_enter Tryz.func50,Tryz.ntmps50
  go_wp2_with fail
  go_returns
  exact a.o _ h0.o
 ·by_cases h2:1099511627777<next
  ·have a:=Hd (q.o (by unfold eL;rw[oT (show ¬next≤1099511627777 by omega),Bool.and_false];rfl))
   go_enter Tryz.func50,Tryz.ntmps50
   go_wp2_with fail
   go_returns
   exact a.o _ h0.o
  ·by_cases h3:(256:Int)<n
   ·have a:=Hd (q.o (by unfold eL;rw[oT (show ¬l.length≤256 by have:=X.o;omega),Bool.and_false];rfl))
    go_enter Tryz.func50,Tryz.ntmps50
    go_wp2_with fail
    go_returns
    exact a.o _ h0.o
   ·have M:eL next l=gb next [] 0 l:=BG (by omega) (by omega) (by have:=X.o;omega);have HG:=Hd M;obtain⟨W1,a6⟩:=zzx (W.alloc (r9 #[O Y 0 0,I U next] 152));have cb:Gl W W1:=by rw[a6];exact (Fz _ W).alloc (Fy _) _
    have cc:W1.heap[W.heap.size]?=A (r9 #[O Y 0 0,I U next] 152 (0,0)):=by rw[a6];exact oA W _
    have cf:Hid (jX W W.heap.size next [] (O Y 0 0) W1):=⟨cb,Fy _,cc,(fun b a=>by cases a),aw.nil⟩;have ch:=Hd a6;have dg:n≤256:=by omega
    clear M a6 cb cc h0
    go_enter Tryz.func50,Tryz.ntmps50
    go_upto_region 4 with fail
    change Code.wp _ _ _ _ (W.alloc (r9 #[O Y 0 0,I U next] 152));rw[←ch.o];clear ch;go_wp2_with fail
    go_loopw [26,7] (Fv W W.heap.size next l) (fun i _ _=>n-(intOf i).toNat)
    case atStart=>exact⟨_,0,0,_,Z,Z,Z,FR _,cf.o,Z⟩
    case round =>
     clear cf;obtain⟨V,k,last,u,rfl,rfl,rfl,hk,hm,ba⟩:=hrel;rw[X.o]at hk;obtain⟨HM,N⟩:=zz2 hm ba
     by_cases b0:k<n
     ·have ft:(k:Int)<n:=by omega
      obtain⟨f,b1⟩:∃v,l[k]?=A v:=⟨l[k]'(by rw[X.o];exact b0),FD (by rw[X.o];exact b0)⟩;have b2:=hm.1;obtain⟨bb,off,cap,us,ck,_,_,_,dn,ad,z⟩:=Rd.K (HR.o _ b2) b1;injection ck with hp ds dt
      subst hp;clear ds dt;obtain⟨cl,b3,sl,rfl,w⟩:=bY.1 ad;obtain⟨p6,c6,bq⟩:=Rd.q w;obtain⟨m6,b4⟩:=zzy (f.a.length);rw[b4]at bq;subst bq;have d0:V.cell? ⟨bb,off+k*3,Y⟩=A (I U f.id):=z 0 _ Z;have d1:V.cell? ⟨bb,off+k*3+1,Y⟩=A (I U f.u):=z 1 _ Z;have d2:V.cell? ⟨bb,off+k*3+2,Y⟩=A (O p6 m6 c6):=z 2 _ Z;obtain⟨W6,bd⟩:=zzx (V.alloc (r9 #[I U f.id,I U f.u,O p6 m6 c6] 47));have bk:Gl V W6:=by rw[bd];exact (Fz _ V).alloc (Fy _) _
      have b5:W6.heap[V.heap.size]?=A (r9 #[I U f.id,I U f.u,O p6 m6 c6] 47 (0,0)):=by rw[bd];exact oA V _
      have H:=hm.old bk;have hle:=b2.size;have dv:=bk.size;have C:∀D,Gl W6 D→bL.h D (fun b=>b<D.heap.size) f.a (O p6 m6 c6):=fun D hU =>Rd.sv (fun x hx=>(by have:=hU.size;omega:x<D.heap.size)) (Rd.sb (fun x hx o T=>(hU.block x (by omega)).trans ((bk.block x (FG hx hle)).trans T)) w)
      obtain⟨R,S,hu⟩:∃R S,u=O R k S:=by
       obtain⟨q1,q2,h⟩:=Rd.q hm.h;rw[List.length_take,X.o,Nat.min_eq_left hk]at h;exact⟨_,_,h⟩
      subst hu;obtain⟨F,K⟩:=zz2 (fun x:Wb W6=>Ez f (O p6 m6 c6) x.1 b3 (C _ x.2)) (fun x:Wb W6=>Db f (l.take k) W.heap.size (O R k S) (O p6 m6 c6) x.1 (by have:=(H.old x.2).2.2.1;simp[World.cell?,this]) (H.old x.2).h (C _ x.2));obtain⟨x0,x1,x2,_⟩:=aE b5;have X0:=fun x:Wb W6=>x.h x0
      have X1:=fun x:Wb W6=>x.h x1
      have X2:=fun x:Wb W6=>x.h x2
      obtain⟨b6,r,cm,P,en,eo,fv⟩:=zz7 b5 H bd b1 C (And.intro cl b3) b4;have b7:=DX f (l.take k);obtain⟨bm,af⟩:=zzy (lN f);obtain⟨si,cn⟩:=zzy (ek (gG (jy f) (l.take k) 0));rw[af]at F;rw[cn]at K b7;obtain⟨b8,cp⟩:=zz2 af b7;clear bk b5 H bd z ad dn hm ba b1 b2 w cl b3 b4 hle dv C x0 x1 x2 af b7 cn;go_upto_region 8 with fail
      change Code.wp _ _ _ _ (V.alloc (r9 #[I U f.id,I U f.u,O p6 m6 c6] 47));rw[←cm.o];clear cm d0 d1 d2
      by_cases hA:f.id≤last
      ·have G:=Hd (q.o (by rw[HG.o,←N.o,lC P.o (by rw[decide_eq_true hA];rfl)]));refine al (by kernel_rfl) (by kernel_rfl) ?_
       repeat (go_big_quiet_step (fail))
       refine xL ?_;intro j d;have E:=Hd (r.o.1.trans ((bw d).mono r.o.1.size));clear d X0 X1 X2;go_wp2_with fail
       go_returns
       exact G.o _ E.o
      ·by_cases hB:next≤f.id
       ·have G:=Hd (q.o (by rw[HG.o,←N.o,lC P.o (by rw[decide_eq_true hB];simp)]));refine al (by kernel_rfl) (by kernel_rfl) ?_
        repeat (go_big_quiet_step (fail))
        refine xL ?_;intro j d;have E:=Hd (r.o.1.trans ((bw d).mono r.o.1.size));clear d X0 X1 X2;go_wp2_with fail
        go_returns
        exact G.o _ E.o
       ·cases bm with
        | false =>
         have G:=Hd (q.o (by rw[HG.o,←N.o,lC P.o (by rw[b8.o];simp)]));refine al (by kernel_rfl) (by kernel_rfl) ?_
         repeat (go_big_quiet_step ((go_at_call 74;exact Calls.h (F.o _))))
         refine xL ?_;intro j d;have E:=Hd (r.o.1.trans ((bw d).mono r.o.1.size));clear d X0 X1 X2;go_wp2_with fail
         go_returns
         exact G.o _ E.o
        | true =>
         by_cases hS:0≤si
         ·have G:=Hd (q.o (by rw[HG.o,←N.o,lC P.o (by rw[cp.o,decide_eq_true hS];simp)]));refine al (by kernel_rfl) (by kernel_rfl) ?_
          repeat (go_big_quiet_step (first|(go_at_call 74;exact Calls.h (F.o _))|(go_at_call 75;exact Calls.h (K.o _))))
          refine xL ?_;intro j d;have E:=Hd (r.o.1.trans ((bw d).mono r.o.1.size));clear d X0 X1 X2;go_wp2_with fail
          go_returns
          exact G.o _ E.o
         ·have er:Hid (gb next (l.take (k+1)) f.id (l.drop (k+1))=gb next [] 0 l):=by
           show _=_
           rw[←N.o,yr P.o];rw[oT hA,oT hB,b8.o,cp.o,oT hS];rfl
          refine al (by kernel_rfl) (by kernel_rfl) ?_
          repeat (go_big_quiet_step (first|(go_at_call 74;exact Calls.h (F.o _))|(go_at_call 75;exact Calls.h (K.o _))))
          refine xL ?_;intro j d;have aq:=bw d;have et:=r.o.old aq;have bl:=aa aq b6.o (Fx.1 b6.o).1;obtain⟨cq,e0,bn,cr,us,ar,ct⟩:=et;have hlen:(l.take k).length=k:=by rw[List.length_take,X.o,Nat.min_eq_left hk]
          rw[hlen]at ar;have hX:V.heap.size<j.heap.size:=(Fx.1 bl).1;have cu:W.heap.size<j.heap.size:=(Fx.1 bn).1
          have t:∀g,(O R k S).ownBlock=A g→W.heap.size<g∧g<V.heap.size:=fun g M=>⟨cr g M,by
           obtain⟨_,_,_,_,fz,h5,_⟩:=HM.o
           exact (aL h5 g M).2⟩
          have cy:∀b,(b=W.heap.size∨b=V.heap.size)→b<j.heap.size∧(O R k S).ownBlock≠A b:=fun b a=>by
           rcases a with rfl|rfl
           ·exact⟨cu,fun e=>by have:=(t _ e).1;omega⟩
           ·exact⟨hX,fun e=>by have:=(t _ e).2;omega⟩
          obtain⟨m0,m1,_⟩:=bP bn;obtain⟨y0,y1,y2,_⟩:=aE bl;have M0:=fun x:Ks j (fun b=>b=W.heap.size∨b=V.heap.size)=>x.h (Or.inl Z) m0
          have Y0:=fun x:Ks j (fun b=>b=W.heap.size∨b=V.heap.size)=>x.h (Or.inr Z) y0
          have Y1:=fun x:Ks j (fun b=>b=W.heap.size∨b=V.heap.size)=>x.h (Or.inr Z) y1
          have Y2:=fun x:Ks j (fun b=>b=W.heap.size∨b=V.heap.size)=>x.h (Or.inr Z) y2
          obtain⟨cA,cC,e2,e3,b9,E,e4⟩:=zz7 (fun (s:Nat) (D:J) (h:stF j R k S us f s D)=>EB cy s D h) ar ct bn t cq bl;have cR:=Hd (fun D (hU:Gl j D)=>en.o D (aq.trans (hU.mono aq.size)));have cT:f.a.length≤6:=by
           have:=b8.o;unfold lN at this;simp only[FV,oX]at this;omega
          have e5:=Hd cT;clear d aq bl bn cr ar ct t cy e0 X0 X1 X2 m0 m1 y0 y1 y2 F K r b6 cq cT;go_upto_region 10 with fail
          refine RE.u (by kernel_rfl) 13 [7,8,9] [7,9] (stF j R k S us f) (ApQ j) (fun i ys=>if i=7 then xk #[I U f.id,I U f.u,ys.getD 0 wF] else ys.getD 0 wF) (phF j R k S us f) (by kernel_rfl) (fun _ _ _ _ _ _ h a=>h.C a) (fun _ _ _ _ h _ hR=>h.t hR) (stF.lo (by decide) ⟨⟨j.drew,(Fz _ _).drew⟩,Z⟩) ?_;simp only[FO,FY,FQ,FX]
          repeat (refine RE.q (fun D=>∃x:Ks j (fun b=>b=W.heap.size∨b=V.heap.size),D=x.1) (fun _ _ _ h=>cA.o _ _ h) Z Z Z (stF.lo (by decide) ⟨⟨j.drew,(Fz _ _).drew⟩,Z⟩) ?_;go_big_quiet_step (fail);refine xL ?_)
          refine RE.h Z Z ?_ (fun x7=>?_)
          ·intro D _ hS _;obtain⟨x,rfl⟩:=stF.get (by decide) (hS Z);refine RE.z 76 _ _ Z (enters_of Tryz.func76 (by kernel_rfl) Z) #[xk #[I U f.id,I U f.u,O p6 m6 c6]] (by simp[Act.eval]) ((xA f _ x.1 eo.o (cR.o _ x.2) (by have:=e5.o;omega)).mono ?_);rintro e U' ⟨z0,z1,z2,rfl,a,ad⟩;obtain⟨_,_,s6,e6,_⟩:=bY.1 ad;injection e6 with e6 e7
           injection e7 with e7 e8
           injection e8 with e8 _
           subst e6;subst e7;subst e8;have hs:=x.2.size;exact⟨_,Z,[z2],Z,stF.lo (p:=R) (n:=k) (c:=S) (us:=us) (f:=f) (s:=1) (by decide) ⟨⟨U',x.2.trans (a.mono x.2.size)⟩,Z⟩,ApQ.t a,U'.heap.size,Fy _,aC.D (fun b a=>⟨FH hs a.1,a.2⟩) ad⟩
          simp only[Act.put,FA,FM,FK,reduceIte];refine RE.h Z Z ?_ (fun x8=>?_)
          ·intro D hC hS hE;obtain⟨s9,_,h9⟩:=hC;have h7:∃B,OwF j f B D (x7.getD 0 wF):=hE 7 x7 (by kernel_rfl) Z;obtain⟨B,h7⟩:=h7;exact dU qO (vs:=fcs f (x7.getD 0 wF)) _ Z Z Z (B6 h9) (fun v U' a T=>⟨[v],Z,a,ApQ.t a,_,B,h7.t (ApR.t a) a.size,T⟩)
          simp only[Act.put,FA,FM,FK,Nat.reduceEqDiff,reduceIte];refine RE.h Z Z ?_ (fun x9=>?_)
          ·intro D _ hS hE;obtain⟨x,rfl⟩:=stF.get (by decide) (hS Z);have h8:∃y B,OwF j f B x.1 y∧One 47 j.heap.size (fcs f y) x.1 (x8.getD 0 wF):=hE 8 x8 (by kernel_rfl) Z;obtain⟨y,B,h7,h8⟩:=h8;have cV:∀u∈fcs f y,u.oneCell'=true:=aC.one h7.2;refine vx qO (p:=R) (n:=k) (c:=S) (L:=j.heap.size) (vs:=fcs f y) (xs:=us) _ _ Z Z h8 Z cV (gj cC.o x.2) (by omega) (fun v' U' h1 h2=>?_);obtain⟨k1,k2,k3⟩:=CY x.2 (fun g M=>Nat.lt_trans (b9.o g M).2 hX) h1 h2;have cW:=h7.t k3.1 k3.2;have e9:AfV R k S x.1.heap.size (us++fcs f y) U' v':=k2;exact⟨[v'],Z,⟨y,B,cW,k1⟩,k3,y,x.1.heap.size,⟨k3.2,aC.D (fun b a=>⟨a.1,FG a.2 h7.1⟩) cW.2⟩,x.2.size,e9⟩
          simp only[Act.put,FA,FM,FK,Nat.reduceEqDiff,reduceIte]
          repeat (refine RE.q (fun D=>∃x:Ks j (fun b=>b=W.heap.size∨b=V.heap.size),D=x.1) (fun _ _ _ h=>cA.o _ _ h) Z Z Z (stF.lo (by decide) ⟨⟨j.drew,(Fz _ _).drew⟩,Z⟩) ?_;go_big_quiet_step (fail);refine xL ?_)
          refine RE.t ?_;intro W8 hS hE;obtain⟨y,g,cap,c0,eg,M,hC,w⟩:=Ee (fun g M=>Nat.lt_trans (b9.o g M).2 hX) hS (hE 9 x9 Z);rw[eg];have t:=b9.o;have a1:W8.heap[W.heap.size]?=A (r9 #[O R k S,I U next] 152 (0,0)):=(hC.q _ cu (fun e=>by have:=(t _ e).1;omega)).trans e3.o;have c1:W8.heap[V.heap.size]?=A (r9 #[I U f.id,I U f.u,O p6 m6 c6] 47 (0,0)):=(hC.q _ hX (fun e=>by have:=(t _ e).2;omega)).trans e4.o;have fm:=hC.u;have c3:W.heap.size<g:=by
           rcases M with e|e
           ·exact (t _ e).1
           ·omega
          obtain⟨W9,Q⟩:=zzx (W8.setCell ⟨W.heap.size,0,Y⟩ (O (A ⟨g,0,Y⟩) (k+1) cap));have T:∀b,b≠W.heap.size→W9.heap[b]?=W8.heap[b]?:=fun b a=>by rw[Q];exact oF _ _ _ _ a
          have fr:W9.heap.size=W8.heap.size:=by rw[Q];simp[World.setCell]
          have e1:l.take (k+1)=l.take k++[f]:=by rw[Gd,P.o];rfl
          have c5:(l.take (k+1)).length=k+1:=by rw[List.length_take,X.o,Nat.min_eq_left b0]
          have bt:jX W W.heap.size next (l.take (k+1)) (O (A ⟨g,0,Y⟩) (k+1) cap) W9:=by
           refine⟨?_,Fy _,?_,?_,us++fcs f y,?_,?_⟩
           ·rw[Q];exact (Chg.C E.o hC (fun i hi=>F8 (t i hi).1) (by omega)).setCell (p:=⟨W.heap.size,0,Y⟩) (Fy _) _
           ·rw[Q];exact heap_set a1 0 _
           ·intro b a;injection a with a;subst a;exact c3
           ·rw[c5];exact cO w (fun b a=>by injection a with a;subst a;exact T _ (by show g≠W.heap.size;omega))
           ·rw[e1];refine Rd.sI ?_ ?_
            ·refine Rd.tE (fun b a=>?_) (Rd.tv (fun b a o ca=>((T b (Nat.ne_of_gt a.1)).trans (hC.q b a.2.1 a.2.2)).trans ca) e2.o);obtain⟨q1,q2,q3⟩:=a;refine⟨q1,by omega,fun e=>?_⟩;injection e with e
             have e:g=b:=e;subst e;rcases M with e|e
             ·exact q3 e
             ·omega
            ·refine aC.D (fun b a=>?_) (aC.t (fun b a o ca=>(T b (by obtain⟨q1,_⟩:=a;omega)).trans ca) c0);obtain⟨q1,q2,q3⟩:=a;refine⟨by omega,by omega,fun e=>?_⟩;injection e with e
             exact q3 e.symm
          have c7:=(T V.heap.size (by have:=(Fx.1 HM.o.2.2.1).1;omega)).trans c1;obtain⟨y0,y1,y2,_⟩:=aE c7;obtain⟨m0,_,g0,_⟩:=bP a1;obtain⟨c8,c9⟩:=zz2 bt Q;clear hS hE c0 eg M hC w t a1 c1 c3 T fr e1 c5 bt c7 M0 Y0 Y1 Y2 Q fm;go_upto_region 11 with fail
          change Code.wp _ _ _ _ (W8.setCell ⟨W.heap.size,0,Y⟩ (O (A ⟨g,0,Y⟩) (k+1) cap));rw[←c9.o];clear m0 g0 c9;go_wp2_with fail
          refine⟨⟨_,k+1,f.id,_,Z,by go_num,Z,by rw[X.o];omega,c8.o,er.o⟩,by simp[intOf];omega⟩
     ·obtain rfl:k=n:=by omega
      have bB:yG W next l (wj (y9 #[vv (A ⟨W.heap.size,0,Y⟩),I U 0])) V:=by
       refine⟨hm.1,Or.inl ⟨?_,_,u,Z,?_⟩⟩
       ·rw[HG.o,←ba,←X.o,List.take_length,List.drop_length];rfl
       ·rw[←X.o,List.take_length]at hm;exact hm
      have dd:=Hd bB;clear hm ba bB HM N;go_wp2_with fail
      go_returns
      exact dd.o
