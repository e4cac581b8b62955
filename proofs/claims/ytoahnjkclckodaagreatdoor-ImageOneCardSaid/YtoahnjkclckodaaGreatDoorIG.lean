/- Parts of one proof, joined; conditions stand in each theorem. -/
import Derived.Test.YtoahnjkclckodaaGreatDoorIF
open Go renaming World→J,Value→tT,Calls→wg
open Option renaming some→A,none→Y
open Go.Value renaming int→I,slice→O,pointer→vv,agg→xk,func→z7,bool→xv
open Go.IntKind renaming i64→U,u8→tF
open Go.Proofs.Tryz renaming prog→vo
open Go.Obj renaming cells→r9
namespace Go.Proofs.YtoahnjkclckodaaGreatDoor
set_option maxHeartbeats 2000000
set_option maxRecDepth 100000
open Go.RowKit
def rM{α:Type} (w:J) (Q R g:Nat) (E:TypeId) (r:Rd α) (res:List α×ISt) (e:Ending) (w':J):Prop:=
 ∃v,e=Ending.returned v∧cH w Q R g res.2 w'∧aw w' (fun b=>aP w w' b∧v.ownBlock≠A b) E r res.1 v∧∀b,v.ownBlock=A b→w.heap.size≤b
def Dy{α:Type} (one:ISt→α×ISt) (E:TypeId) (r:Rd α) (w:J) (Q R g n:Nat) (all:List α×ISt) (v i:tT) (W:J):Prop:=
 ∃(a:J) (k:Nat) (xs:List α) (st:ISt),a=W∧i=I U k∧k≤n∧(xs++(cG one (n-k) st).1,(cG one (n-k) st).2)=all∧xs.length=k∧cH w Q R g st a∧aw a (fun b=>aP w a b∧v.ownBlock≠A b) E r xs v∧∀b,v.ownBlock=A b→w.heap.size≤b
theorem ox{α:Type}{one:ISt→α×ISt}{n:Nat}{s:ISt}:cG one (n+1) s=if (one s).2.1.2 then ([(one s).1],(one s).2) else ((one s).1::(cG one n (one s).2).1,(cG one n (one s).2).2):=rfl
theorem ot{α:Type}{r:Rd α}{E:TypeId}{w z w4 F W2:J}{Q R g:Nat}{s0 st B:ISt}{xs:List α}{x:α}{vs us:List tT}{p:Option Addr}{m c:Nat}{v9:tT}(hk:xs.length=m)(G:cX w Q R g s0)(u:cH w Q R g st z)(a:cH z Q R g B w4)(v:Gl w4 F)(i:lc F W2 (O p m c) v9 m)
  (H:r.z z (fun b=>aP w z b∧(O p m c).ownBlock≠A b) xs us) (f:∀b,(O p m c).ownBlock=A b→w.heap.size≤b) (hx:r.at_ w4 (fun b=>aP z w4 b) x vs) (C:W2.ownsRow 0 E r.n v9 (m+1) (us++vs)) (K:∀b,(O p m c).ownBlock=A b→b<z.heap.size) :
  cH w Q R g B W2∧∃j cap,v9=O (A ⟨j,0,Y⟩) (m+1) cap∧aw W2 (fun b=>aP w W2 b∧v9.ownBlock≠A b) E r (xs++[x]) v9∧∀b,v9.ownBlock=A b→w.heap.size≤b:=by
 have hQ:=G.lt;have hR:=G.r.lt;have ad:=G.r.lt2;have k:=u.1.h a.1;have af:=u.1.u;have aq:=a.1.u;have y:=v.size;have d:Chg (fun b=>(O p m c).ownBlock=A b) w4 W2:=by
  rcases i with ⟨g1,cap,e,_,i⟩|⟨cap,_,i⟩
  ·have l:Chg (fun b=>(O p m c).ownBlock=A b) w4 F:=Chg.t v;exact⟨i.os.trans l.os,i.tape.trans l.a,i.output.trans l.c,FH y i.size,fun b L t=>(i.block b (by omega) (fun M=>t (by injection M with M;rw[e,←M];rfl))).trans (l.q b L t)⟩
  ·exact Chg.t (v.trans (i.mono y))
 obtain⟨j,cap,N,D⟩:∃j cap,v9=O (A ⟨j,0,Y⟩) (m+1) cap∧((O p m c).ownBlock=A j∨w4.heap.size≤j):=by
  rcases i with ⟨g1,cap,e,P,_⟩|⟨cap,P,_⟩
  ·exact⟨g1,cap,P,Or.inl (by rw[e];rfl)⟩
  ·exact⟨_,cap,P,Or.inr y⟩
 subst N;have S:=d.u
 refine⟨⟨⟨d.os.trans k.os,d.a.trans k.a,d.c.trans k.c,by omega,fun b L t=>(d.q b (by omega) (fun e=>by have:=f b e;omega)).trans (k.q b L t)⟩,
  (d.q Q (by omega) (fun e=>by have:=f Q e;omega)).trans a.2.q,a.2.r.t (d.q R (by omega) (fun e=>by have:=f R e;omega)) (d.q g (by omega) (fun e=>by have:=f g e;omega)) S,a.2.neR,a.2.neg⟩,j,cap,Z,⟨us++vs,by rw[FT,hk];exact C,?_⟩,fun b e=>?_⟩
 ·have T:r.z w4 (fun b=>aP w w4 b∧(O p m c).ownBlock≠A b) xs us:=Rd.tE (fun b h=>⟨⟨h.1.1,by have:=h.1.2;omega⟩,h.2⟩) (Rd.tv (fun b h o V=>(a.1.q b h.1.2 (fun e=>by have:=h.1.1;rcases e with e|e<;>omega)).trans V) H)
  have X:r.at_ w4 (fun b=>aP w w4 b∧(O p m c).ownBlock≠A b) x vs:=r.D (fun b h=>⟨⟨by have:=h.1;omega,h.2⟩,fun e=>by have:=K b e;have:=h.1;omega⟩) hx;refine Rd.tE (fun b h=>⟨⟨h.1.1,by have:=h.1.2;omega⟩,fun e=>?_⟩) (Rd.tv (fun b h o V=>(d.q b h.1.2 h.2).trans V) (Rd.sI T X));injection e with e
  have e:j=b:=e;subst e;rcases D with h2|h2
  ·exact h.2 h2
  ·have:=h.1.2;omega
 ·injection e with e
  have e:j=b:=e;subst e;rcases D with h|h
  ·exact f _ h
  ·omega
section
variable {W:J} {Q R g:Nat} {s:ISt}
theorem wm(h:cX W Q R g s):wg vo 32 #[vv (A ⟨R,0,Y⟩)] W fun e W'=>∃a b c,e=Ending.returned (xk #[a,b,c])∧(∀u∈[a,b,c],u.oneCell'=true)∧cH W Q R g (f6 s).2 W'∧aC.at_ W' (aP W W') (f6 s).1 [a,b,c]:=by
 refine (pq h.r).mono ?_;rintro e W' ⟨a,b,c,rfl,i,d,f⟩;exact⟨a,b,c,Z,i,h.rd d,f⟩
theorem Bb:(Tryz.prog.info? 47).map (fun i=>(i.zero,i.size,i.bytes))=A (A (xk #[I U 0,I U 0,O Y 0 0]),3,40):=by kernel_rfl
theorem tI(h:cX W Q R g s)(most:Int)(h0:0≤most)(h1:most≤65536):wg vo 31 #[vv (A ⟨Q,0,Y⟩),I U most,z7 (.func 32) #[vv (A ⟨R,0,Y⟩)] #[]] W (rM W Q R g 47 aC (dC f6 most s)):=by
 have HC:=kt h most;have hn:=oR h0 s;unfold dC;obtain⟨⟨n,s1⟩,ad⟩:∃x,fq most s=x:=⟨_,rfl⟩;rw[ad]at HC hn ⊢;dsimp only at HC hn ⊢;have b6:n≤65536:=by omega
 obtain⟨all,w⟩:=zzy (cG f6 n s1);rw[w];obtain⟨HC,ar,HR⟩:=zz3 HC w h;have hQ:=h.lt;have hR:=h.r.lt;obtain⟨ti,bn,bq,bt,bB⟩:=info_parts Bb;clear h ad w hn h0 h1
 go_enter Tryz.func31,Tryz.ntmps31
 go_wp2_with fail
 refine HC.o.mono ?_;rintro e w2 ⟨rfl,u⟩;have bR:=Hd u;clear u HC;go_wp2_with fail
 go_loopw [7,11] (Dy f6 47 aC W Q R g n all) (fun _ i _=>n-(intOf i).toNat)
 case atStart=>exact⟨_,0,[],s1,Z,Z,FR _,by rw[←ar.o];rfl,Z,bR.o,aw.nil,fun b h=>by cases h⟩
 case round =>
  obtain⟨W1,k,xs,st,rfl,rfl,hk,heq,hm,u,j,z⟩:=hrel;obtain⟨p,c,rfl⟩:=j.q;rw[hm]at j z ⊢;obtain⟨HM,HEq,N,B,C⟩:=zz5 hm heq j z u;have ad:=u.1.u;clear u j z heq hm
  by_cases b7:k<n
  ·have b5:(k:Int)<n:=by omega
   have l:=wm C.o.2;obtain⟨⟨x,v⟩,hx⟩:∃y,f6 st=y:=⟨_,rfl⟩;have P:(if v.1.2=true then (xs++[x],v) else (xs++x::(cG f6 (n-(k+1)) v).1,(cG f6 (n-(k+1)) v).2))=all:=by
    rw[←HEq.o,show n-k=(n-(k+1))+1 by omega];rw[ox,hx];dsimp only
    split<;>rfl
   rw[hx]at l;dsimp only at l;obtain⟨a1,S⟩:=zz2 l P;clear l P hx;go_wp2_with fail
   refine a1.o.mono ?_;rintro e w4 ⟨y0,y1,y2,rfl,a6,m,ba⟩;obtain⟨bb,b0⟩:=zz2 m ba;obtain⟨us,d,bd⟩:=N.o;rw[HM.o]at d;have D:w4.ownsRow 0 47 3 (O p k c) k us:=cO d fun b hb=>m.1.q b (aL d b hb).2 (fun e=>by have:=B.o b hb;rcases e with e|e<;>omega)
   obtain⟨b1,b2,af⟩:=zz3 bd (fun b hb=>(aL d b hb).2) D;have b8:=m.1.u;have E:=i5 w4 [y0,y1,y2] 47;obtain⟨b3,b4⟩:=zz2 E a6;clear m ba d bd D E a6;go_wp2_with (at_builtin;go_must (refine cj _ Z (.tmp 13) (.tmp 16) 22 Z 0 47 ti _ 3 40 Tryz.underlying22 bn bq bt bB Z (by decide) (O p k c) k us Z (af.o.alloc _) ⟨w4.heap.size,0,Y⟩ 1 1 [y0,y1,y2] Z Z b3.o b4.o (by unfold maxLen;omega) (by omega) (by omega) (by decide) ?_);intro v9 W2 f q;obtain⟨w5,aq⟩:=zzx (w4.alloc (r9 #[y0,y1,y2] 47));have bk:Gl w4 w5:=(by rw[aq];exact (Fz _ w4).alloc (Fy _) _);have F:lc w5 W2 (O p k c) v9 k:=(by rw[aq];exact q);have t:=ot (r:=aC) (x:=x) (vs:=[y0,y1,y2]) HM.o HR.o C.o bb.o bk F b1.o B.o b0.o f b2.o;obtain⟨q0,_,_⟩:=t.1.2.z;obtain⟨bl,T⟩:=zz2 (nX t.1.2.r) t;clear t F bk aq f q)
   refine bl.o.mono ?_;rintro e w6 ⟨rfl,rfl⟩;obtain⟨V,gg,cap,rfl,G,f⟩:=T.o;obtain⟨X,H,K⟩:=zz3 V G f;clear V G f T bl
   cases M:v.1.2 with
   | true =>
    have a:=S.o;rw[M]at a;simp only[o4]at a;have L:=Hd a;clear a M;go_wp2_with fail
    go_ret;rw[←L.o];exact⟨_,Z,X.o,H.o,K.o⟩
   | false =>
    have a:=S.o;rw[M]at a;simp only[F4,o1]at a;have L:=Hd a;clear a M;go_wp2_with fail
    refine⟨⟨W2,k+1,xs++[x],v,Z,by go_num,by omega,?_,?_,X.o,H.o,K.o⟩,by simp[intOf];omega⟩
    ·rw[←L.o];simp
    ·rw[FT,HM.o,Gi]
  ·obtain rfl:k=n:=by omega
   have hend:(xs,st)=all:=by rw[←HEq.o,Nat.sub_self];simp[cG]
   have bm:=Hd hend;clear hend;go_wp2_with fail
   go_ret;rw[←bm.o];exact⟨_,Z,C.o,N.o,B.o⟩
theorem yQ:(Tryz.prog.info? 50).map (fun i=>(i.zero,i.size,i.bytes))=A (A (xk #[I U 0,O Y 0 0]),2,32):=by kernel_rfl
theorem rF(h:cX W Q R g s)(most:Int)(h0:0≤most)(h1:most≤65536):wg vo 33 #[vv (A ⟨Q,0,Y⟩),I U most,z7 (.func 34) #[vv (A ⟨Q,0,Y⟩)] #[]] W (rM W Q R g 50 dA (dC fp most s)):=by
 have HC:=kt h most;have hn:=oR h0 s;unfold dC;obtain⟨⟨n,s1⟩,ad⟩:∃x,fq most s=x:=⟨_,rfl⟩;rw[ad]at HC hn ⊢;dsimp only at HC hn ⊢;have b6:n≤65536:=by omega
 obtain⟨all,w⟩:=zzy (cG fp n s1);rw[w];obtain⟨HC,ar,HR⟩:=zz3 HC w h;have hQ:=h.lt;have hR:=h.r.lt;obtain⟨ti,bn,bq,bt,bB⟩:=info_parts yQ;clear h ad w hn h0 h1
 go_enter Tryz.func33,Tryz.ntmps33
 go_wp2_with fail
 refine HC.o.mono ?_;rintro e w2 ⟨rfl,u⟩;have bR:=Hd u;clear u HC;go_wp2_with fail
 go_loopw [7,11] (Dy fp 50 dA W Q R g n all) (fun _ i _=>n-(intOf i).toNat)
 case atStart=>exact⟨_,0,[],s1,Z,Z,FR _,by rw[←ar.o];rfl,Z,bR.o,aw.nil,fun b h=>by cases h⟩
 case round =>
  obtain⟨W1,k,xs,st,rfl,rfl,hk,heq,hm,u,j,z⟩:=hrel;obtain⟨p,c,rfl⟩:=j.q;rw[hm]at j z ⊢;obtain⟨HM,HEq,N,B,C⟩:=zz5 hm heq j z u;have ad:=u.1.u;clear u j z heq hm
  by_cases b7:k<n
  ·have b5:(k:Int)<n:=by omega
   have l:=ud C.o.2;obtain⟨⟨x,v⟩,hx⟩:∃y,fp st=y:=⟨_,rfl⟩;have P:(if v.1.2=true then (xs++[x],v) else (xs++x::(cG fp (n-(k+1)) v).1,(cG fp (n-(k+1)) v).2))=all:=by
    rw[←HEq.o,show n-k=(n-(k+1))+1 by omega];rw[ox,hx];dsimp only
    split<;>rfl
   rw[hx]at l;dsimp only at l;obtain⟨a1,S⟩:=zz2 l P;clear l P hx;go_wp2_with fail
   refine a1.o.mono ?_;rintro e w4 ⟨y0,y1,rfl,a6,m,ba⟩;obtain⟨bb,b0⟩:=zz2 m ba;obtain⟨us,d,bd⟩:=N.o;rw[HM.o]at d;have D:w4.ownsRow 0 50 2 (O p k c) k us:=cO d fun b hb=>m.1.q b (aL d b hb).2 (fun e=>by have:=B.o b hb;rcases e with e|e<;>omega)
   obtain⟨b1,b2,af⟩:=zz3 bd (fun b hb=>(aL d b hb).2) D;have b8:=m.1.u;have E:=i5 w4 [y0,y1] 50;obtain⟨b3,b4⟩:=zz2 E a6;clear m ba d bd D E a6;go_wp2_with (at_builtin;go_must (refine cj _ Z (.tmp 13) (.tmp 16) 23 Z 0 50 ti _ 2 32 Tryz.underlying23 bn bq bt bB Z (by decide) (O p k c) k us Z (af.o.alloc _) ⟨w4.heap.size,0,Y⟩ 1 1 [y0,y1] Z Z b3.o b4.o (by unfold maxLen;omega) (by omega) (by omega) (by decide) ?_);intro v9 W2 f q;obtain⟨w5,aq⟩:=zzx (w4.alloc (r9 #[y0,y1] 50));have bk:Gl w4 w5:=(by rw[aq];exact (Fz _ w4).alloc (Fy _) _);have F:lc w5 W2 (O p k c) v9 k:=(by rw[aq];exact q);have t:=ot (r:=dA) (x:=x) (vs:=[y0,y1]) HM.o HR.o C.o bb.o bk F b1.o B.o b0.o f b2.o;obtain⟨q0,_,_⟩:=t.1.2.z;obtain⟨bl,T⟩:=zz2 (nX t.1.2.r) t;clear t F bk aq f q)
   refine bl.o.mono ?_;rintro e w6 ⟨rfl,rfl⟩;obtain⟨V,gg,cap,rfl,G,f⟩:=T.o;obtain⟨X,H,K⟩:=zz3 V G f;clear V G f T bl
   cases M:v.1.2 with
   | true =>
    have a:=S.o;rw[M]at a;simp only[o4]at a;have L:=Hd a;clear a M;go_wp2_with fail
    go_ret;rw[←L.o];exact⟨_,Z,X.o,H.o,K.o⟩
   | false =>
    have a:=S.o;rw[M]at a;simp only[F4,o1]at a;have L:=Hd a;clear a M;go_wp2_with fail
    refine⟨⟨W2,k+1,xs++[x],v,Z,by go_num,by omega,?_,?_,X.o,H.o,K.o⟩,by simp[intOf];omega⟩
    ·rw[←L.o];simp
    ·rw[FT,HM.o,Gi]
  ·obtain rfl:k=n:=by omega
   have hend:(xs,st)=all:=by rw[←HEq.o,Nat.sub_self];simp[cG]
   have bm:=Hd hend;clear hend;go_wp2_with fail
   go_ret;rw[←bm.o];exact⟨_,Z,C.o,N.o,B.o⟩
theorem ub:(Tryz.prog.info? 54).map (fun i=>(i.zero,i.size,i.bytes))=A (A (xk #[I U 0,I U 0,I U 0,I U 0,O Y 0 0,O Y 0 0]),6,80):=by kernel_rfl
theorem pY(h:cX W Q R g s)(most:Int)(h0:0≤most)(h1:most≤65536):wg vo 35 #[vv (A ⟨Q,0,Y⟩),I U most,z7 (.func 36) #[vv (A ⟨Q,0,Y⟩)] #[]] W (rM W Q R g 54 dX (dC dV most s)):=by
 have HC:=kt h most;have hn:=oR h0 s;unfold dC;obtain⟨⟨n,s1⟩,ad⟩:∃x,fq most s=x:=⟨_,rfl⟩;rw[ad]at HC hn ⊢;dsimp only at HC hn ⊢;have b6:n≤65536:=by omega
 obtain⟨all,w⟩:=zzy (cG dV n s1);rw[w];obtain⟨HC,ar,HR⟩:=zz3 HC w h;have hQ:=h.lt;have hR:=h.r.lt;obtain⟨ti,bn,bq,bt,bB⟩:=info_parts ub;clear h ad w hn h0 h1
 go_enter Tryz.func35,Tryz.ntmps35
 go_wp2_with fail
 refine HC.o.mono ?_;rintro e w2 ⟨rfl,u⟩;have bR:=Hd u;clear u HC;go_wp2_with fail
 go_loopw [7,11] (Dy dV 54 dX W Q R g n all) (fun _ i _=>n-(intOf i).toNat)
 case atStart=>exact⟨_,0,[],s1,Z,Z,FR _,by rw[←ar.o];rfl,Z,bR.o,aw.nil,fun b h=>by cases h⟩
 case round =>
  obtain⟨W1,k,xs,st,rfl,rfl,hk,heq,hm,u,j,z⟩:=hrel;obtain⟨p,c,rfl⟩:=j.q;rw[hm]at j z ⊢;obtain⟨HM,HEq,N,B,C⟩:=zz5 hm heq j z u;have ad:=u.1.u;clear u j z heq hm
  by_cases b7:k<n
  ·have b5:(k:Int)<n:=by omega
   have l:=rW C.o.2;obtain⟨⟨x,v⟩,hx⟩:∃y,dV st=y:=⟨_,rfl⟩;have P:(if v.1.2=true then (xs++[x],v) else (xs++x::(cG dV (n-(k+1)) v).1,(cG dV (n-(k+1)) v).2))=all:=by
    rw[←HEq.o,show n-k=(n-(k+1))+1 by omega];rw[ox,hx];dsimp only
    split<;>rfl
   rw[hx]at l;dsimp only at l;obtain⟨a1,S⟩:=zz2 l P;clear l P hx;go_wp2_with fail
   refine a1.o.mono ?_;rintro e w4 ⟨y0,y1,y2,y3,y4,y5,rfl,a6,m,ba⟩;obtain⟨bb,b0⟩:=zz2 m ba;obtain⟨us,d,bd⟩:=N.o;rw[HM.o]at d;have D:w4.ownsRow 0 54 6 (O p k c) k us:=cO d fun b hb=>m.1.q b (aL d b hb).2 (fun e=>by have:=B.o b hb;rcases e with e|e<;>omega)
   obtain⟨b1,b2,af⟩:=zz3 bd (fun b hb=>(aL d b hb).2) D;have b8:=m.1.u;have E:=i5 w4 [y0,y1,y2,y3,y4,y5] 54;obtain⟨b3,b4⟩:=zz2 E a6;clear m ba d bd D E a6;go_wp2_with (at_builtin;go_must (refine cj _ Z (.tmp 13) (.tmp 16) 26 Z 0 54 ti _ 6 80 Tryz.underlying26 bn bq bt bB Z (by decide) (O p k c) k us Z (af.o.alloc _) ⟨w4.heap.size,0,Y⟩ 1 1 [y0,y1,y2,y3,y4,y5] Z Z b3.o b4.o (by unfold maxLen;omega) (by omega) (by omega) (by decide) ?_);intro v9 W2 f q;obtain⟨w5,aq⟩:=zzx (w4.alloc (r9 #[y0,y1,y2,y3,y4,y5] 54));have bk:Gl w4 w5:=(by rw[aq];exact (Fz _ w4).alloc (Fy _) _);have F:lc w5 W2 (O p k c) v9 k:=(by rw[aq];exact q);have t:=ot (r:=dX) (x:=x) (vs:=[y0,y1,y2,y3,y4,y5]) HM.o HR.o C.o bb.o bk F b1.o B.o b0.o f b2.o;obtain⟨q0,_,_⟩:=t.1.2.z;obtain⟨bl,T⟩:=zz2 (nX t.1.2.r) t;clear t F bk aq f q)
   refine bl.o.mono ?_;rintro e w6 ⟨rfl,rfl⟩;obtain⟨V,gg,cap,rfl,G,f⟩:=T.o;obtain⟨X,H,K⟩:=zz3 V G f;clear V G f T bl
   cases M:v.1.2 with
   | true =>
    have a:=S.o;rw[M]at a;simp only[o4]at a;have L:=Hd a;clear a M;go_wp2_with fail
    go_ret;rw[←L.o];exact⟨_,Z,X.o,H.o,K.o⟩
   | false =>
    have a:=S.o;rw[M]at a;simp only[F4,o1]at a;have L:=Hd a;clear a M;go_wp2_with fail
    refine⟨⟨W2,k+1,xs++[x],v,Z,by go_num,by omega,?_,?_,X.o,H.o,K.o⟩,by simp[intOf];omega⟩
    ·rw[←L.o];simp
    ·rw[FT,HM.o,Gi]
  ·obtain rfl:k=n:=by omega
   have hend:(xs,st)=all:=by rw[←HEq.o,Nat.sub_self];simp[cG]
   have bm:=Hd hend;clear hend;go_wp2_with fail
   go_ret;rw[←bm.o];exact⟨_,Z,C.o,N.o,B.o⟩
end
theorem rN(l:List UInt8)(i:Nat)(h:i<l.length):(l.map fun b=>(b.toNat:Int)).getD i 0=((l[i]'h).toNat:Int):=by simp[List.getD,h]
theorem AD{W:J}{B n:Nat}{l:List UInt8}{v:tT}(h:W.ownsRow B 5 1 v n ((l.map fun b=>(b.toNat:Int)).map (I tF)))(f:l.length=n)(c:v≠O Y 0 0):∃g cap,v=O (A ⟨g,0,Y⟩) n cap∧B≤g∧g<W.heap.size∧BytesAt W g l v:=by
 rcases h.2 with ⟨j,_⟩|⟨g,cap,cur,rfl,hB,d,o,hm,k,e⟩
 ·exact absurd j c
 ·refine⟨g,cap,Z,hB,(Fx.1 d).1,Or.inr ⟨0,cap,by rw[f],by omega,hm,(Fx.1 d).1,fun i b m=>?_⟩⟩;rw[Gk _ _ _ _ _ _ d,Nat.zero_add];have a:(cur.toList.take (n*1))[i]?=A (I tF (b.toNat:Int)):=by rw[e];simp[m]
  rw[List.getElem?_take]at a
  split at a
  ·simpa using a
  ·cases a
theorem tc{l:List UInt8}{v:tT}{W:J}(z:Lib.HoldsBytes W v l)(x:l.length≤140737488355328)(D:0<W.heap.size):wg vo 28 #[v] W fun e W'=>∃R g,e=Ending.returned (vv (A ⟨R,0,Y⟩))∧Gl W W'∧W.heap.size≤R∧bv W' R g (l,false):=by
 obtain⟨p,cap,rfl,d,m⟩:=z
 cases p with
 | none =>
  obtain rfl:=d Z;have h:=Hd (Tryz.bytes_Clone_nil 0 cap W);have q:Hid (bv (W.alloc (r9 #[xv true,xv false,O Y 0 0] 124)) W.heap.size 0 ([],false)):=
   ⟨⟨_,oA W _,Or.inl ⟨Z,Z⟩⟩,by show W.heap.size≠0;omega,by simp⟩
  clear m d
  show wg vo 28 #[O Y 0 cap] W _
  go_enter Tryz.func28,Tryz.ntmps28
  go_wp2_with fail
  refine h.o.mono ?_;rintro e f ⟨rfl,rfl⟩;go_wp2_with fail
  go_ret;exact⟨_,0,Z,(Fz _ _).alloc (Fy _) _,Fy _,q.o⟩
 | some a =>
  have h:=Hd (Tryz.bytes_Clone_at a l.length cap (l.map fun b=>(b.toNat:Int)) W (by simp) x (fun i hi=>by
   rw[rN l i hi];exact m a Z i _ (FD hi)))
  obtain⟨n,r⟩:=zzy (l.length);rw[r]at h ⊢;have t:=Hd r;clear m d x r
  go_enter Tryz.func28,Tryz.ntmps28
  go_wp2_with fail
  refine h.o.mono ?_;rintro e f ⟨E,rfl,c,j,u⟩;obtain⟨g,c2,rfl,B,w,k⟩:=AD c t.o j;have y:=u.size;have C:Hid (Gl W (f.alloc (r9 #[xv true,xv false,O (A ⟨g,0,Y⟩) n c2] 124))):=u.alloc y _;have q:Hid (bv (f.alloc (r9 #[xv true,xv false,O (A ⟨g,0,Y⟩) n c2] 124)) f.heap.size g (l,false)):=
   ⟨⟨_,oA f _,k.t (((Fz _ f).alloc (Fy _) _).block g w) (by simp)⟩,by show f.heap.size≠g;omega,by simp;omega⟩
  clear c j u k h;go_wp2_with fail
  go_ret;exact⟨_,g,Z,C.o,y,q.o⟩
