/- Parts of one proof, joined; conditions stand in each theorem. -/
import Derived.Test.YtoahnjkclckodaaGreatDoorID
import Derived.Test.YtoahnjkclckodaaGreatDoorMT
import Derived.Test.YtoahnjkclckodaaGreatDoorNB
open Go renaming World→J,Value→tT,Calls→wg,undef→wF
open Option renaming some→A,none→Y
open Go.Obj renaming cells→r9
open Go.Value renaming pointer→vv,bool→xv,int→I,agg→xk,slice→O
open Go.World renaming cell?→AF,setCell→AJ
open Go.Proofs.Tryz renaming prog→vo
open Go.Ending renaming returned→wj
open Go.IntKind renaming i64→U
namespace Go.Proofs.YtoahnjkclckodaaGreatDoor
set_option maxHeartbeats 2000000
set_option maxRecDepth 100000
open Go.RowKit
structure cX (W:J) (Q R g:Nat) (s:ISt):Prop where
 q:W.heap[Q]?=A (r9 #[vv (A ⟨R,0,Y⟩),xv s.2] 75 (0,0))
 r:bv W R g s.1
 neR:Q≠R
 neg:Q≠g
def ql(Q R b:Nat):Prop:=b=Q∨b=R
def cH(W:J) (Q R g:Nat) (s:ISt) (W':J):Prop:=Chg (ql Q R) W W'∧cX W' Q R g s
section
variable {W W':J} {Q R g:Nat} {s s':ISt}
theorem cX.lt(h:cX W Q R g s):Q<W.heap.size:=(Fx.1 h.q).1
theorem cX.z(h:cX W Q R g s):W.cell? ⟨Q,0,Y⟩=A (vv (A ⟨R,0,Y⟩))∧W.cell? ⟨Q,1,Y⟩=A (xv s.2)∧W.frozen? ⟨Q,1,Y⟩=false:=by
 have a:=h.q;exact⟨by simp[AF,a],by simp[AF,a],ax a 1⟩
theorem cX.C(h:cX W Q R g s)(a:Gl W W'):cX W' Q R g s:=⟨(a.block Q h.lt).trans h.q,h.r.C a,h.neR,h.neg⟩
theorem cX.set(h:cX W Q R g s){b:Nat}(a:b≠Q)(c:b≠R)(d:b≠g)(i:Nat)(u:tT):cX (W.setCell ⟨b,i,Y⟩ u) Q R g s:=
 ⟨(oF _ _ _ _ (fun e=>a e.symm)).trans h.q,h.r.set c d i u,h.neR,h.neg⟩
theorem cH.h{W2:J}(h:cH W Q R g s W')(k:cH W' Q R g s' W2):cH W Q R g s' W2:=⟨h.1.h k.1,k.2⟩
theorem cH.C(h:cH W Q R g s W'){W2:J}(a:Gl W' W2):cH W Q R g s W2:=⟨h.1.h (Chg.t a),h.2.C a⟩
theorem cX.rd(h:cX W Q R g s){t:WSt}(k:bg W R g t W'):cH W Q R g (t,s.2) W':=
 ⟨⟨k.1.os,k.1.tape,k.1.output,k.1.size,fun b a c=>k.1.block b a (fun e=>c (Or.inr (by injection e)))⟩,
  (k.1.block Q h.lt (fun e=>h.neR (by injection e))).trans h.q,k.2,h.neR,h.neg⟩
theorem cX.bad(h:cX W Q R g s)(b:Bool):cH W Q R g (s.1,b) (W.setCell ⟨Q,1,Y⟩ (xv b)):=by
 refine⟨⟨Z,Z,Z,by simp[AJ],fun x c a=>oF _ _ _ _ (fun e=>a (Or.inl e))⟩,?_,h.r.set h.neR h.neg 1 _,h.neR,h.neg⟩;rw[heap_set h.q 1];rfl
theorem eC(h:cX W Q R g s):wg vo 30 #[vv (A ⟨Q,0,Y⟩)] W fun e W'=>e=wj (I U (bT s).1)∧cH W Q R g (bT s).2 W':=by
 have c:=Hd (kX h.r);obtain⟨d,_,_⟩:=h.z;have H:=Hd h;unfold bT;clear h
 go_enter Tryz.func30,Tryz.ntmps30
 go_wp2_with fail
 refine c.o.mono ?_;rintro e f ⟨rfl,a⟩;have b:=Hd (H.o.rd a);clear a c;go_wp2_with fail
 go_ret;exact⟨Z,b.o⟩
theorem oR{most:Int}(a:0≤most)(s:ISt):((fq most s).1:Int)≤most:=by
 unfold fq;dsimp only
 split
 ·exact a
 ·rename_i h
  have:=not_or.1 h
  show (((aD 8 s.1).1.toNat:Nat):Int)≤most
  omega
theorem kt(h:cX W Q R g s)(most:Int):wg vo 57 #[vv (A ⟨Q,0,Y⟩),I U most] W fun e W'=>e=wj (I U ((fq most s).1:Nat))∧cH W Q R g (fq most s).2 W':=by
 have c:=Hd (eC h);unfold bT at c;unfold fq;dsimp only;obtain⟨⟨n,s1⟩,k⟩:∃x,aD 8 s.1=x:=⟨_,rfl⟩;rw[k]at c ⊢;dsimp only at c ⊢;have H:=Hd h;clear h k
 by_cases d:n<0∨most<n
 ·rw[oE d];rcases Int.lt_or_le n 0 with i|i
  ·clear d
   go_enter Tryz.func57,Tryz.ntmps57
   go_wp2_with fail
   refine c.o.mono ?_;rintro e l ⟨rfl,a⟩;obtain⟨_,m,f1⟩:=a.2.z;have b:=Hd (a.h (a.2.bad true));clear a c;go_wp2_with fail
   go_ret;exact⟨Z,b.o⟩
  ·have p:most<n:=by omega
   clear d
   go_enter Tryz.func57,Tryz.ntmps57
   go_wp2_with fail
   refine c.o.mono ?_;rintro e l ⟨rfl,a⟩;obtain⟨_,m,f1⟩:=a.2.z;have b:=Hd (a.h (a.2.bad true));clear a c;go_wp2_with fail
   go_ret;exact⟨Z,b.o⟩
 ·rw[oB d];have i:0≤n:=by have:=not_or.1 d;omega
  have p:n≤most:=by have:=not_or.1 d;omega
  have f:((n.toNat:Nat):Int)=n:=Int.toNat_of_nonneg i;have j:=Hd f;clear d f
  go_enter Tryz.func57,Tryz.ntmps57
  go_wp2_with fail
  refine c.o.mono ?_;rintro e l ⟨rfl,a⟩;have b:=Hd a;clear a c;go_wp2_with fail
  go_ret;exact⟨by rw[j.o];rfl,b.o⟩
end
theorem Ab:Elem 3 48 1 8:=Elem.of (z:=I U 0) Tryz.underlying48 (by kernel_rfl) Z (by decide) (by decide)
theorem BN:(Tryz.prog.info? 3).map (fun i=>(i.zero,i.size,i.bytes))=A (A (I U 0),1,8):=by kernel_rfl
theorem bP{W:J}{b:Nat}{a c:tT}{t:TypeId}(h:W.heap[b]?=A (r9 #[a,c] t (0,0))):W.cell? ⟨b,0,Y⟩=A a∧W.cell? ⟨b,1,Y⟩=A c∧W.frozen? ⟨b,0,Y⟩=false∧W.frozen? ⟨b,1,Y⟩=false:=
 ⟨by simp[AF,h],by simp[AF,h],ax h 0,ax h 1⟩
theorem set2{W:J}{b:Nat}{a c:tT}{t:TypeId}(h:W.heap[b]?=A (r9 #[a,c] t (0,0)))(x y:tT):((W.setCell ⟨b,0,Y⟩ x).setCell ⟨b,1,Y⟩ y).heap[b]?=A (r9 #[x,y] t (0,0)):=by rw[heap_set (heap_set h 0 x) 1 y];rfl
theorem BA{W:J}{f:Func}{t b:Nat}{ty:TypeId}{x y:tT}{tmps:Array tT}{R:Ending→J→Prop}(e:f.results=#[.cell t ty])(a:(isAgg ty).run vo W=.ok true W)(c:(Go.sizeOf ty).run vo W=.ok 2 W)(i:tmps.getD t wF=vv (A ⟨b,0,Y⟩))
  (h:W.heap[b]?=A (r9 #[x,y] ty (0,0))) (j:R (wj (xk #[x,y])) W):bodyPost vo f R .ret ⟨tmps,[]⟩ W:=by
 obtain⟨k,l,_⟩:=bP h;have d:tmps[t]?.getD wF=vv (A ⟨b,0,Y⟩):=by simpa using i
 refine bodyPost_ret (v:=xk #[x,y]) ?_ Z j;simp[results,e,go_sem,d,a,c,k,l]
def iG(l:List Int):List Value:=l.map (I .i64 ·)
section
variable {w:J} {F:Nat→Prop} {vs:List tT}
theorem hH{t:jz}:dA.at_ w F t vs↔I64 t.a∧∃a,vs=[I U t.a,a]∧Rd.int.h w F t.b a:=by
 constructor
 ·rintro ⟨d,e,rfl,⟨rfl,b⟩,a,rfl,c⟩;exact⟨b,a,Z,c⟩
 ·rintro ⟨b,a,rfl,c⟩;exact⟨[_],[a],Z,⟨Z,b⟩,a,Z,c⟩
theorem Co{B n:Nat}{v:tT}{l:List Int}(h:w.ownsRow B 3 1 v n (iG l))(c:l.length=n)(d:∀x∈l,I64 x)(hF:∀b,v.ownBlock=A b→F b):Rd.int.h w F l v:=by
 subst c;refine Rd.row_own (r:=Rd.int) (e:=3) (us:=iG l) (show w.ownsRow 0 3 Rd.int.n v l.length (iG l) from ownsRow_base h (FR _)) ⟨by show (iG l).length=l.length*1;simp[iG],fun i x a=>?_⟩ hF;refine⟨[I U x],⟨Z,d x (FZ a)⟩,fun m u hu=>?_⟩;have hm:m=0:=by
  have:=(FU.1 hu).1
  simpa using this
 subst hm;obtain rfl:I U x=u:=by simpa using hu
 show (iG l)[i*1+0]?=_
 rw[Nat.mul_one,Nat.add_zero,iG,List.getElem?_map,a];rfl
end
section
variable {W:J} {Q R g:Nat} {s:ISt}
def DK(W0:J) (Q R g c d n:Nat) (a:Int) (all:List Int×ISt) (i:tT) (W:J):Prop:=
 ∃(b:J) (k:Nat) (ids:List Int) (st:ISt) (v:tT),b=W∧i=I U k∧k≤n∧(ids++(fB (n-k) st).1,(fB (n-k) st).2)=all∧ids.length=k∧(∀x∈ids,I64 x)∧cH W0 Q R g st b∧
  b.heap[c]?=A (r9 #[I U a,v] 50 (0,0))∧b.heap[d]?=A (r9 #[I U 0,O Y 0 0] 50 (0,0))∧b.ownsRow (c+1) 3 1 v k (iG ids)
theorem ud(h:cX W Q R g s):wg vo 34 #[vv (A ⟨Q,0,Y⟩)] W fun e W'=>∃y0 y1,e=wj (xk #[y0,y1])∧(∀u∈[y0,y1],u.oneCell'=true)∧cH W Q R g (fp s).2 W'∧dA.at_ W' (aP W W') (fp s).1 [y0,y1]:=by
 obtain⟨W1,af⟩:=zzx (W.alloc (r9 #[I U 0,O Y 0 0] 50));have b7:Gl W W1:=by rw[af];exact (Fz _ W).alloc (Fy _) _
 have ca:W1.heap[W.heap.size]?=A (r9 #[I U 0,O Y 0 0] 50 (0,0)):=by rw[af];exact oA W _
 have cb:=h.C b7;have HA:=eC cb;unfold fp;have bm:I64 (bT s).1:=gk (aT 8 s.1).1;obtain⟨⟨a,s1⟩,ha⟩:∃x,bT s=x:=⟨_,rfl⟩;rw[ha]at HA bm ⊢;dsimp only at HA bm ⊢;have cc:=oR (most:=8) (by decide) s1;obtain⟨⟨n,s2⟩,hn⟩:∃x,fq 8 s1=x:=⟨_,rfl⟩;rw[hn]at cc ⊢;dsimp only at cc ⊢;obtain⟨all,aq⟩:=zzy (fB n s2);rw[aq];obtain⟨cf,HA⟩:=zz2 aq HA;have HB:=Hd (fun V (hV:cX V Q R g s1)=>by have:=kt hV 8;rw[hn]at this;exact this);obtain⟨c7,ch,ck,c8,H⟩:=zz5 bm ca af b7 h;have hQ:=h.lt;have e7:=h.r.lt;have e8:=h.r.lt2;have ar:Hid (W1.heap.size=W.heap.size+1):=by show _=_;rw[af];simp
 obtain⟨ti,dd,dg,dn,ds⟩:=info_parts BN;clear h ha hn b7 ca cb af aq bm
 go_enter Tryz.func34,Tryz.ntmps34
 go_upto_region 1 with fail
 change Code.wp _ _ _ _ (W.alloc (r9 #[I U 0,O Y 0 0] 50));rw[←ck.o];clear ck;go_wp2_with fail
 refine HA.o.mono ?_;rintro e C ⟨rfl,E⟩;obtain⟨w3,bn⟩:=zzx (C.alloc (r9 #[I U a,O Y 0 0] 50));have bq:Gl C w3:=by rw[bn];exact (Fz _ C).alloc (Fy _) _
 have a1:w3.heap[C.heap.size]?=A (r9 #[I U a,O Y 0 0] 50 (0,0)):=by rw[bn];exact oA C _
 have e9:=E.1.u;have fm:=bq.size;have cl:C.heap.size<w3.heap.size:=(Fx.1 a1).1;have dt:W.heap.size<C.heap.size:=by have:=ar.o;omega
 have b8:∀b,b≠Q→b≠R→¬ql Q R b:=fun b z h2 h=>h.elim z h2
 have a6:cH W1 Q R g s1 w3:=E.C bq;have cm:w3.heap[W.heap.size]?=A (r9 #[I U 0,O Y 0 0] 50 (0,0)):=(bq.block _ dt).trans ((E.1.q _ (by have:=ar.o;omega) (b8 _ (by omega) (by omega))).trans ch.o);obtain⟨b0,cn,cp,cq,cr,K⟩:=zz6 a6 a1 cm bn (HB.o w3 a6.2) b8;clear E bq a1 a6 cm bn HA HB b8;go_upto_region 2 with fail
 change Code.wp _ _ _ _ (C.alloc (r9 #[I U a,O Y 0 0] 50));rw[←cq.o];clear cq;go_wp2_with fail
 refine cr.o.mono ?_;rintro e w4 ⟨rfl,T⟩;obtain⟨ct,cu,b1⟩:=zz3 ((T.1.q _ cl (K.o _ (by omega) (by omega))).trans cn.o) ((T.1.q _ (by omega) (K.o _ (by omega) (by omega))).trans cp.o) (b0.o.h T);clear T cr;go_wp2_with fail
 go_loopw [9] (DK W1 Q R g C.heap.size W.heap.size n a all) (fun i _=>n-(intOf i).toNat)
 case atStart=>exact⟨_,0,[],s2,_,Z,Z,FR _,by rw[←cf.o];rfl,Z,fun x hx=>(by cases hx),b1.o,ct.o,cu.o,World.ownsRow_nil _ _ _ _⟩
 case round =>
  clear ct cu b1 cn cp b0 ch;obtain⟨V,k,ids,st,v,rfl,rfl,hk,heq,hlen,hI,E,hx,hz,ba⟩:=hrel;obtain⟨HEq,b2,HI,L,HX,HZ,f⟩:=zz7 heq hlen hI E hx hz ba;have fr:=E.1.u;have bb:C.heap.size<V.heap.size:=(Fx.1 hx).1;obtain⟨p,c,rfl⟩:∃p c,v=O p k c:=by
   rcases ba.2 with ⟨z,h2⟩|⟨g',cap,cur,z,_⟩
   ·exact⟨Y,0,by rw[z,h2]⟩
   ·exact⟨_,_,z⟩
  clear heq hlen hI E hx hz ba
  by_cases fs:k<n
  ·have e6:(k:Int)<n:=by omega
   have hN:=eC L.o.2;have bt:∀t,t=V.drew→wg vo 30 #[vv (A ⟨Q,0,Y⟩)] t fun e W'=>e=wj (I U (bT st).1)∧cH t Q R g (bT st).2 W':=fun t hU=>eC (by rw[hU];exact⟨L.o.2.q,L.o.2.r.t Z Z (Fy _),L.o.2.neR,L.o.2.neg⟩)
   have bB:I64 (bT st).1:=gk (aT 8 st.1).1;have X:(ids++(bT st).1::(fB (n-(k+1)) (bT st).2).1,(fB (n-(k+1)) (bT st).2).2)=all:=by rw[←HEq.o,show n-k=(n-(k+1))+1 by omega];rfl
   obtain⟨⟨x,G⟩,hx⟩:∃y,bT st=y:=⟨_,rfl⟩;rw[hx]at bt X bB;dsimp only at bt X bB;obtain⟨dv,cv,eg⟩:=zz3 bt X bB;obtain⟨d0,d1,_,f1⟩:=bP HX.o;have D1:=fun x:Ks V (fun b=>b=C.heap.size)=>x.h Z d1
   have cy:∀(n s:Nat) (t:J),s≤n→(if s=0 then t=V.drew else cH V Q R g G t)→∃x:Ks V (fun b=>b=C.heap.size),t=x.1:=fun n s t _ h=>by
    split at h
    ·exact⟨⟨t,fun b _=>by rw[h];rfl⟩,Z⟩
    ·exact⟨⟨t,fun b l=>by rw[l];exact h.1.q _ bb (K.o _ (by omega) (by omega))⟩,Z⟩
   have cA:=Hd cy;clear cy hN bt X bB hx d0 d1;go_upto_region 4 with fail
   refine RE.u (by kernel_rfl) 5 [3,4] [3,4] (fun s t=>if s=0 then t=V.drew else cH V Q R g G t) (ApR V) (fun _ xs=>xs.getD 0 wF)
    (fun i t xs=>if i=3 then xs.getD 0 wF=I U x else One 3 V.heap.size [I U x] t (xs.getD 0 wF)) (by kernel_rfl) (fun i z h2=>by rw[z]at h2;cases h2) ?_ Z ?_
   ·intro k t U' xs h _ hg
    split at h
    ·rw[oE (by assumption)];exact h
    ·rw[oB (by assumption)];exact h.t hg
   simp only[FO,FY,FQ,FX]
   repeat (refine RE.q (fun t=>∃x:Ks V (fun b=>b=C.heap.size),t=x.1) (cA.o _) Z Z Z Z ?_;go_big_quiet_step (fail);refine wpQuiet_nil ?_)
   refine RE.h Z Z ?_ (fun b9=>?_)
   ·intro t _ hS _;obtain rfl:t=V.drew:=hS Z;refine RE.z 30 _ _ Z (enters_of Tryz.func30 (by kernel_rfl) Z) #[vv (A ⟨Q,0,Y⟩)] (by simp[Act.eval]) ((dv.o _ Z).mono ?_);rintro e W' ⟨rfl,hT⟩;have en:cH V Q R g G W':=⟨⟨hT.1.os,hT.1.a,hT.1.c,hT.1.u,hT.1.q⟩,hT.2⟩;exact⟨_,Z,[I U x],Z,en,fun b z h2=>hT.1.q b h2 (K.o b (by omega) (by omega)),Z⟩
   simp only[Act.put,FA,FM,FK];refine RE.h Z Z ?_ (fun cC=>?_)
   ·intro t _ hS eo;have hT:cH V Q R g G t:=hS Z;have a1:b9.getD 0 wF=I U x:=eo 3 b9 (by kernel_rfl) Z;exact dU Ab (vs:=[I U x]) (.tmp 14) Z (by show (b9.getD 0 wF).cells=_;rw[a1];rfl) Z hT.1.u (fun v' U' l ho=>⟨[v'],Z,hT.C l,ApR.t l,ho⟩)
   simp only[Act.put,FA,FM,FK];refine RE.t ?_;intro V3 hS hE;have d:cH V Q R g G V3:=hS;obtain⟨gg,cR,er,cT⟩:=(show One 3 V.heap.size [I U x] V3 (cC.getD 0 wF) from hE 4 cC Z);have et:=d.1.u;have bd:=cO f.o fun b l=>d.1.q b (aL f.o b l).2 (K.o b (by have:=(aL f.o b l).1;omega) (by have:=(aL f.o b l).1;omega))
   have b3:=(d.1.q _ bb (K.o _ (by omega) (by omega))).trans HX.o;have b4:=(d.1.q _ (by omega) (K.o _ (by omega) (by omega))).trans HZ.o;rw[cR];clear hS hE D1 cA;refine cj V3 Z (.tmp 12) (.tmp 15) 48 Z (C.heap.size+1) 3 ti _ 1 8 Tryz.underlying48 dd dg dn ds Z (by decide) (O p k c) k (iG ids) Z bd ⟨gg,0,Y⟩ 1 1 [I U x] Z Z
    (fun j u hu=>by rw[Addr.add_mid,Gk _ _ _ _ _ _ cT,Nat.zero_add];simpa using hu) (by simp[Value.oneCell']) (by unfold maxLen;omega) (by omega) (by omega) (by decide) ?_
   intro v9 V4 M N;have P:=aL f.o;have m:Chg (fun b=>(O p k c).ownBlock=A b) V3 V4:=by
    rcases N with ⟨g1,cap,e,_,hg⟩|⟨cap,_,hg⟩
    ·exact⟨hg.os,hg.tape,hg.output,hg.size,fun b l S=>hg.block b l (fun e2=>S (by injection e2 with e2;rw[e,←e2];rfl))⟩
    ·exact Chg.t hg
   obtain⟨p9,c9,rfl⟩:∃p9 c9,v9=O p9 (k+1) c9:=by
    rcases N with ⟨g1,cap,_,e,_⟩|⟨cap,e,_⟩
    ·exact⟨_,_,e⟩
    ·exact⟨_,_,e⟩
   have bk:=(m.q _ (by omega) (fun e=>by have:=(P _ e).1;omega)).trans b3;have b5:=(m.q _ (by omega) (fun e=>by have:=(P _ e).1;omega)).trans b4;have cV:cX V4 Q R g G:=⟨(m.q Q (by have:=d.2.lt;omega) (fun e=>by have:=(P _ e).1;omega)).trans d.2.q,d.2.r.t (m.q R d.2.r.lt (fun e=>by have:=(P _ e).1;omega)) (m.q g d.2.r.lt2 (fun e=>by have:=(P _ e).1;omega)) m.u,d.2.neR,d.2.neg⟩;have ad:Chg (ql Q R) W1 V4:=by
    have z:=L.o.1.h d.1;have cW:=ar.o;exact⟨m.os.trans z.os,m.a.trans z.a,m.c.trans z.c,FH z.u m.u,fun b l S=>(m.q b (FG l z.u) (fun e=>by have:=(P _ e).1;omega)).trans (z.q b l S)⟩
   obtain⟨e0,e1,_,g1⟩:=bP bk;obtain⟨V5,D⟩:=zzx (V4.setCell ⟨C.heap.size,1,Y⟩ (O p9 (k+1) c9));have bR:∀b,b≠C.heap.size→V5.heap[b]?=V4.heap[b]?:=fun b l=>by rw[D,oF _ _ _ _ l]
   have c0:V5.heap.size=V4.heap.size:=by rw[D];simp[AJ]
   have c1:V5.heap[C.heap.size]?=A (r9 #[I U a,O p9 (k+1) c9] 50 (0,0)):=by rw[D,heap_set bk 1];rfl
   have c3:cX V5 Q R g G:=by rw[D];exact cV.set (by omega) (by omega) (by omega) 1 _
   have c5:Chg (ql Q R) W1 V5:=by
    have cW:=ar.o;exact⟨by rw[D];exact ad.os,by rw[D];exact ad.a,by rw[D];exact ad.c,by rw[c0];exact ad.u,fun b l S=>by rw[bR b (by omega)];exact ad.q b l S⟩
   have bl:V5.ownsRow (C.heap.size+1) 3 1 (O p9 (k+1) c9) (k+1) (iG (ids++[x])):=by
    have:iG (ids++[x])=iG ids++[I U x]:=by simp[iG]
    rw[this];exact cO M fun b l=>bR b (by have:=(aL M b l).1;omega)
   have e3:Hid (DK W1 Q R g C.heap.size W.heap.size n a all (I U ((k+1:Nat):Int)) V5):=
    ⟨V5,k+1,ids++[x],G,_,Z,Z,by omega,by rw[←cv.o];simp,by rw[FT,b2.o];rfl,fun y hy=>by
     rcases List.mem_append.1 hy with hy|hy
     ·exact HI.o y hy
     ·rw[List.mem_singleton.1 hy];exact eg.o,⟨c5,c3⟩,c1,(bR _ (by omega)).trans b5,bl⟩
   have e4:=Hd D;clear M N P m bk b5 cV ad bR c0 c1 c3 c5 bl D bd b3 b4 d cR er cT et e0;go_wp2_with fail
   have c6:=e3.o;rw[e4.o]at c6;refine⟨c6,by simp[intOf];omega⟩
  ·obtain rfl:k=n:=by omega
   have hend:(ids,st)=all:=by rw[←HEq.o,Nat.sub_self];simp[fB]
   have b6:=Hd hend;obtain⟨d0,d1,_,_⟩:=bP HX.o;obtain⟨z0,z1,f0,f1⟩:=bP HZ.o;have e5:=Hd (set2 HZ.o);clear hend;go_wp2_with fail
   refine BA Tryz.results34 (by simp[go_sem]) (by simp[go_sem]) Z (e5.o _ _) ⟨_,_,Z,by simp[Value.oneCell'],?_,?_⟩
   ·rw[←b6.o];have ht:=L.o;have cW:=ar.o;refine⟨?_,(ht.2.set (by omega) (by omega) (by omega) 0 _).set (by omega) (by omega) (by omega) 1 _⟩;have z:=(Chg.t (F:=ql Q R) c8.o).h ht.1;refine⟨z.os,z.a,z.c,by simpa [AJ]using z.u,fun b l S=>?_⟩;rw[oF _ _ _ _ (by show b≠W.heap.size;omega),oF _ _ _ _ (by show b≠W.heap.size;omega)];exact z.q b l S
   ·rw[←b6.o];refine hH.2 ⟨c7.o,_,Z,Co (B:=C.heap.size+1) (cO f.o fun b l=>?_) b2.o HI.o (fun b l=>?_)⟩
    ·have:=(aL f.o b l).1;rw[oF _ _ _ _ (by show b≠W.heap.size;omega),oF _ _ _ _ (by show b≠W.heap.size;omega)]
    ·have:=aL f.o b l;exact⟨by omega,by simp[AJ];omega⟩
end
