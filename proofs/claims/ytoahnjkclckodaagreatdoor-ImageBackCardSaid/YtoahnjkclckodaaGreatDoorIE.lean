/- Parts of one proof, joined; conditions stand in each theorem. -/
import Derived.Test.YtoahnjkclckodaaGreatDoorID
import Derived.Test.YtoahnjkclckodaaGreatDoorMT
import Derived.Test.YtoahnjkclckodaaGreatDoorNB
open Go renaming World→J,Value→tS,Calls→vv,undef→xk
open Option renaming some→A,none→Y
open Go.Obj renaming cells→r7
open Go.Value renaming pointer→vo,bool→xt,int→I,agg→wP,slice→O
open Go.World renaming cell?→At,setCell→AF
open Go.Proofs.Tryz renaming prog→va
open Go.Ending renaming returned→wg
open Go.IntKind renaming i64→U
namespace Go.Proofs.YtoahnjkclckodaaGreatDoor
set_option maxHeartbeats 2000000
set_option maxRecDepth 100000
open Go.RowKit
structure dq (W:J) (Q R g:Nat) (s:ISt):Prop where
 q:W.heap[Q]?=A (r7 #[vo (A ⟨R,0,Y⟩),xt s.2] 75 (0,0))
 r:bF W R g s.1
 neR:Q≠R
 neg:Q≠g
def sg(Q R b:Nat):Prop:=b=Q∨b=R
def cZ(W:J) (Q R g:Nat) (s:ISt) (W':J):Prop:=Chg (sg Q R) W W'∧dq W' Q R g s
section
variable {W W':J} {Q R g:Nat} {s s':ISt}
theorem dq.lt(h:dq W Q R g s):Q<W.heap.size:=(JL.1 h.q).1
theorem dq.z(h:dq W Q R g s):W.cell? ⟨Q,0,Y⟩=A (vo (A ⟨R,0,Y⟩))∧W.cell? ⟨Q,1,Y⟩=A (xt s.2)∧W.frozen? ⟨Q,1,Y⟩=false:=by
 have a:=h.q;exact⟨by simp[At,a],by simp[At,a],aB a 1⟩
theorem dq.C(h:dq W Q R g s)(a:Kr W W'):dq W' Q R g s:=⟨(a.block Q h.lt).trans h.q,h.r.C a,h.neR,h.neg⟩
theorem dq.set(h:dq W Q R g s){b:Nat}(a:b≠Q)(c:b≠R)(d:b≠g)(i:Nat)(u:tS):dq (W.setCell ⟨b,i,Y⟩ u) Q R g s:=
 ⟨(oA _ _ _ _ (fun e=>a e.symm)).trans h.q,h.r.set c d i u,h.neR,h.neg⟩
theorem cZ.h{W2:J}(h:cZ W Q R g s W')(k:cZ W' Q R g s' W2):cZ W Q R g s' W2:=⟨h.1.h k.1,k.2⟩
theorem cZ.C(h:cZ W Q R g s W'){W2:J}(a:Kr W' W2):cZ W Q R g s W2:=⟨h.1.h (Chg.u a),h.2.C a⟩
theorem dq.rd(h:dq W Q R g s){t:WSt}(k:bv W R g t W'):cZ W Q R g (t,s.2) W':=
 ⟨⟨k.1.os,k.1.tape,k.1.output,k.1.size,fun b a c=>k.1.block b a (fun e=>c (Or.inr (by injection e)))⟩,
  (k.1.block Q h.lt (fun e=>h.neR (by injection e))).trans h.q,k.2,h.neR,h.neg⟩
theorem dq.bad(h:dq W Q R g s)(b:Bool):cZ W Q R g (s.1,b) (W.setCell ⟨Q,1,Y⟩ (xt b)):=by
 refine⟨⟨Z,Z,Z,by simp[AF],fun x c a=>oA _ _ _ _ (fun e=>a (Or.inl e))⟩,?_,h.r.set h.neR h.neg 1 _,h.neR,h.neg⟩;rw[heap_set h.q 1];rfl
theorem eV(h:dq W Q R g s):vv va 30 #[vo (A ⟨Q,0,Y⟩)] W fun e W'=>e=wg (I U (bL s).1)∧cZ W Q R g (bL s).2 W':=by
 have c:=Hd (lT h.r);obtain⟨d,_,_⟩:=h.z;have H:=Hd h;unfold bL;clear h
 go_enter Tryz.func30,Tryz.ntmps30
 go_wp2_with fail
 refine c.o.mono ?_;rintro e f ⟨rfl,a⟩;have b:=Hd (H.o.rd a);clear a c;go_wp2_with fail
 go_ret;exact⟨Z,b.o⟩
theorem qK{most:Int}(a:0≤most)(s:ISt):((eE most s).1:Int)≤most:=by
 unfold eE;dsimp only
 split
 ·exact a
 ·rename_i h
  have:=not_or.1 h
  show (((aw 8 s.1).1.toNat:Nat):Int)≤most
  omega
theorem lc(h:dq W Q R g s)(most:Int):vv va 57 #[vo (A ⟨Q,0,Y⟩),I U most] W fun e W'=>e=wg (I U ((eE most s).1:Nat))∧cZ W Q R g (eE most s).2 W':=by
 have c:=Hd (eV h);unfold bL at c;unfold eE;dsimp only;obtain⟨⟨n,s1⟩,k⟩:∃x,aw 8 s.1=x:=⟨_,rfl⟩;rw[k]at c ⊢;dsimp only at c ⊢;have H:=Hd h;clear h k
 by_cases d:n<0∨most<n
 ·rw[oj d];rcases Int.lt_or_le n 0 with i|i
  ·clear d
   go_enter Tryz.func57,Tryz.ntmps57
   go_wp2_with fail
   refine c.o.mono ?_;rintro e l ⟨rfl,a⟩;obtain⟨_,m,f1⟩:=a.2.z;have b:=Hd (a.h (a.2.bad true));clear a c;go_wp2_with fail
   go_ret;exact⟨Z,b.o⟩
  ·have p:most<n:=by omega
   clear d
   go_enter Tryz.func57,Tryz.ntmps57
   go_wp2_with fail
   refine c.o.mono ?_;rintro e l ⟨rfl,a⟩;obtain⟨_,m,f1⟩:=a.2.z;have b:=Hd (a.h (a.2.bad true));clear a c;go_wp2_with fail
   go_ret;exact⟨Z,b.o⟩
 ·rw[oe d];have i:0≤n:=by have:=not_or.1 d;omega
  have p:n≤most:=by have:=not_or.1 d;omega
  have f:((n.toNat:Nat):Int)=n:=Int.toNat_of_nonneg i;have j:=Hd f;clear d f
  go_enter Tryz.func57,Tryz.ntmps57
  go_wp2_with fail
  refine c.o.mono ?_;rintro e l ⟨rfl,a⟩;have b:=Hd a;clear a c;go_wp2_with fail
  go_ret;exact⟨by rw[j.o];rfl,b.o⟩
end
theorem Dg:Elem 3 48 1 8:=Elem.of (z:=I U 0) Tryz.underlying48 (by kernel_rfl) Z (by decide) (by decide)
theorem Fp:(Tryz.prog.info? 3).map (fun i=>(i.zero,i.size,i.bytes))=A (A (I U 0),1,8):=by kernel_rfl
theorem cj{W:J}{b:Nat}{a c:tS}{t:TypeId}(h:W.heap[b]?=A (r7 #[a,c] t (0,0))):W.cell? ⟨b,0,Y⟩=A a∧W.cell? ⟨b,1,Y⟩=A c∧W.frozen? ⟨b,0,Y⟩=false∧W.frozen? ⟨b,1,Y⟩=false:=
 ⟨by simp[At,h],by simp[At,h],aB h 0,aB h 1⟩
theorem set2{W:J}{b:Nat}{a c:tS}{t:TypeId}(h:W.heap[b]?=A (r7 #[a,c] t (0,0)))(x y:tS):((W.setCell ⟨b,0,Y⟩ x).setCell ⟨b,1,Y⟩ y).heap[b]?=A (r7 #[x,y] t (0,0)):=by rw[heap_set (heap_set h 0 x) 1 y];rfl
theorem EV{W:J}{f:Func}{t b:Nat}{ty:TypeId}{x y:tS}{tmps:Array tS}{R:Ending→J→Prop}(e:f.results=#[.cell t ty])(a:(isAgg ty).run va W=.ok true W)(c:(Go.sizeOf ty).run va W=.ok 2 W)(i:tmps.getD t xk=vo (A ⟨b,0,Y⟩))
  (h:W.heap[b]?=A (r7 #[x,y] ty (0,0))) (j:R (wg (wP #[x,y])) W):bodyPost va f R .ret ⟨tmps,[]⟩ W:=by
 obtain⟨k,l,_⟩:=cj h;have d:tmps[t]?.getD xk=vo (A ⟨b,0,Y⟩):=by simpa using i
 refine bodyPost_ret (v:=wP #[x,y]) ?_ Z j;simp[results,e,go_sem,d,a,c,k,l]
def ja(l:List Int):List Value:=l.map (I .i64 ·)
section
variable {w:J} {F:Nat→Prop} {vs:List tS}
theorem gz{t:io}:dx.at_ w F t vs↔I64 t.a∧∃a,vs=[I U t.a,a]∧Rd.int.h w F t.b a:=by
 constructor
 ·rintro ⟨d,e,rfl,⟨rfl,b⟩,a,rfl,c⟩;exact⟨b,a,Z,c⟩
 ·rintro ⟨b,a,rfl,c⟩;exact⟨[_],[a],Z,⟨Z,b⟩,a,Z,c⟩
theorem F8{B n:Nat}{v:tS}{l:List Int}(h:w.ownsRow B 3 1 v n (ja l))(c:l.length=n)(d:∀x∈l,I64 x)(hF:∀b,v.ownBlock=A b→F b):Rd.int.h w F l v:=by
 subst c;refine Rd.row_own (r:=Rd.int) (e:=3) (us:=ja l) (show w.ownsRow 0 3 Rd.int.n v l.length (ja l) from ownsRow_base h (J0 _)) ⟨by show (ja l).length=l.length*1;simp[ja],fun i x a=>?_⟩ hF;refine⟨[I U x],⟨Z,d x (J8 a)⟩,fun m u hu=>?_⟩;have hm:m=0:=by
  have:=(J3.1 hu).1
  simpa using this
 subst hm;obtain rfl:I U x=u:=by simpa using hu
 show (ja l)[i*1+0]?=_
 rw[Nat.mul_one,Nat.add_zero,ja,List.getElem?_map,a];rfl
end
section
variable {W:J} {Q R g:Nat} {s:ISt}
def H8(W0:J) (Q R g c d n:Nat) (a:Int) (all:List Int×ISt) (i:tS) (W:J):Prop:=
 ∃(b:J) (k:Nat) (ids:List Int) (st:ISt) (v:tS),b=W∧i=I U k∧k≤n∧(ids++(eG (n-k) st).1,(eG (n-k) st).2)=all∧ids.length=k∧(∀x∈ids,I64 x)∧cZ W0 Q R g st b∧
  b.heap[c]?=A (r7 #[I U a,v] 50 (0,0))∧b.heap[d]?=A (r7 #[I U 0,O Y 0 0] 50 (0,0))∧b.ownsRow (c+1) 3 1 v k (ja ids)
theorem wY(h:dq W Q R g s):vv va 34 #[vo (A ⟨Q,0,Y⟩)] W fun e W'=>∃y0 y1,e=wg (wP #[y0,y1])∧(∀u∈[y0,y1],u.oneCell'=true)∧cZ W Q R g (eD s).2 W'∧dx.at_ W' (aW W W') (eD s).1 [y0,y1]:=by
 obtain⟨W1,af⟩:=zzx (W.alloc (r7 #[I U 0,O Y 0 0] 50));have b6:Kr W W1:=by rw[af];exact (JO _ W).alloc (JM _) _
 have b9:W1.heap[W.heap.size]?=A (r7 #[I U 0,O Y 0 0] 50 (0,0)):=by rw[af];exact oc W _
 have ca:=h.C b6;have HA:=eV ca;unfold eD;have bl:I64 (bL s).1:=gu (aT 8 s.1).1;obtain⟨⟨a,s1⟩,ha⟩:∃x,bL s=x:=⟨_,rfl⟩;rw[ha]at HA bl ⊢;dsimp only at HA bl ⊢;have cb:=qK (most:=8) (by decide) s1;obtain⟨⟨n,s2⟩,hn⟩:∃x,eE 8 s1=x:=⟨_,rfl⟩;rw[hn]at cb ⊢;dsimp only at cb ⊢;obtain⟨all,aq⟩:=zzy (eG n s2);rw[aq];obtain⟨cc,HA⟩:=zz2 aq HA;have HB:=Hd (fun V (hV:dq V Q R g s1)=>by have:=lc hV 8;rw[hn]at this;exact this);obtain⟨c6,cf,ch,c7,H⟩:=zz5 bl b9 af b6 h;have hQ:=h.lt;have e5:=h.r.lt;have e6:=h.r.lt2;have ar:Hid (W1.heap.size=W.heap.size+1):=by show _=_;rw[af];simp
 obtain⟨ti,c8,dd,dg,dn⟩:=info_parts Fp;clear h ha hn b6 b9 ca af aq bl
 go_enter Tryz.func34,Tryz.ntmps34
 go_upto_region 1 with fail
 change Code.wp _ _ _ _ (W.alloc (r7 #[I U 0,O Y 0 0] 50));rw[←ch.o];clear ch;go_wp2_with fail
 refine HA.o.mono ?_;rintro e C ⟨rfl,E⟩;obtain⟨w3,bm⟩:=zzx (C.alloc (r7 #[I U a,O Y 0 0] 50));have bn:Kr C w3:=by rw[bm];exact (JO _ C).alloc (JM _) _
 have a1:w3.heap[C.heap.size]?=A (r7 #[I U a,O Y 0 0] 50 (0,0)):=by rw[bm];exact oc C _
 have e7:=E.1.z;have e8:=bn.size;have ck:C.heap.size<w3.heap.size:=(JL.1 a1).1;have ds:W.heap.size<C.heap.size:=by have:=ar.o;omega
 have b7:∀b,b≠Q→b≠R→¬sg Q R b:=fun b z h2 h=>h.elim z h2
 have a6:cZ W1 Q R g s1 w3:=E.C bn;have cl:w3.heap[W.heap.size]?=A (r7 #[I U 0,O Y 0 0] 50 (0,0)):=(bn.block _ ds).trans ((E.1.q _ (by have:=ar.o;omega) (b7 _ (by omega) (by omega))).trans cf.o);obtain⟨bR,cm,cn,cp,cq,K⟩:=zz6 a6 a1 cl bm (HB.o w3 a6.2) b7;clear E bn a1 a6 cl bm HA HB b7;go_upto_region 2 with fail
 change Code.wp _ _ _ _ (C.alloc (r7 #[I U a,O Y 0 0] 50));rw[←cp.o];clear cp;go_wp2_with fail
 refine cq.o.mono ?_;rintro e w4 ⟨rfl,T⟩;obtain⟨cr,ct,b0⟩:=zz3 ((T.1.q _ ck (K.o _ (by omega) (by omega))).trans cm.o) ((T.1.q _ (by omega) (K.o _ (by omega) (by omega))).trans cn.o) (bR.o.h T);clear T cq;go_wp2_with fail
 go_loopw [9] (H8 W1 Q R g C.heap.size W.heap.size n a all) (fun i _=>n-(intOf i).toNat)
 case atStart=>exact⟨_,0,[],s2,_,Z,Z,J0 _,by rw[←cc.o];rfl,Z,fun x hx=>(by cases hx),b0.o,cr.o,ct.o,World.ownsRow_nil _ _ _ _⟩
 case round =>
  clear cr ct b0 cm cn bR cf;obtain⟨V,k,ids,st,v,rfl,rfl,hk,heq,hlen,hI,E,hx,hz,ba⟩:=hrel;obtain⟨HEq,b1,HI,L,HX,HZ,f⟩:=zz7 heq hlen hI E hx hz ba;have e9:=E.1.z;have bb:C.heap.size<V.heap.size:=(JL.1 hx).1;obtain⟨p,c,rfl⟩:∃p c,v=O p k c:=by
   rcases ba.2 with ⟨z,h2⟩|⟨g',cap,cur,z,_⟩
   ·exact⟨Y,0,by rw[z,h2]⟩
   ·exact⟨_,_,z⟩
  clear heq hlen hI E hx hz ba
  by_cases fm:k<n
  ·have e4:(k:Int)<n:=by omega
   have hN:=eV L.o.2;have bq:∀t,t=V.drew→vv va 30 #[vo (A ⟨Q,0,Y⟩)] t fun e W'=>e=wg (I U (bL st).1)∧cZ t Q R g (bL st).2 W':=fun t hU=>eV (by rw[hU];exact⟨L.o.2.q,L.o.2.r.K Z Z (JM _),L.o.2.neR,L.o.2.neg⟩)
   have bt:I64 (bL st).1:=gu (aT 8 st.1).1;have X:(ids++(bL st).1::(eG (n-(k+1)) (bL st).2).1,(eG (n-(k+1)) (bL st).2).2)=all:=by rw[←HEq.o,show n-k=(n-(k+1))+1 by omega];rfl
   obtain⟨⟨x,G⟩,hx⟩:∃y,bL st=y:=⟨_,rfl⟩;rw[hx]at bq X bt;dsimp only at bq X bt;obtain⟨dt,cu,dv⟩:=zz3 bq X bt;obtain⟨d0,d1,_,f1⟩:=cj HX.o;have D1:=fun x:Ks V (fun b=>b=C.heap.size)=>x.h Z d1
   have cv:∀(n s:Nat) (t:J),s≤n→(if s=0 then t=V.drew else cZ V Q R g G t)→∃x:Ks V (fun b=>b=C.heap.size),t=x.1:=fun n s t _ h=>by
    split at h
    ·exact⟨⟨t,fun b _=>by rw[h];rfl⟩,Z⟩
    ·exact⟨⟨t,fun b l=>by rw[l];exact h.1.q _ bb (K.o _ (by omega) (by omega))⟩,Z⟩
   have cy:=Hd cv;clear cv hN bq X bt hx d0 d1;go_upto_region 4 with fail
   refine RE.z (by kernel_rfl) 5 [3,4] [3,4] (fun s t=>if s=0 then t=V.drew else cZ V Q R g G t) (ApR V) (fun _ xs=>xs.getD 0 xk)
    (fun i t xs=>if i=3 then xs.getD 0 xk=I U x else One 3 V.heap.size [I U x] t (xs.getD 0 xk)) (by kernel_rfl) (fun i z h2=>by rw[z]at h2;cases h2) ?_ Z ?_
   ·intro k t U' xs h _ hg
    split at h
    ·rw[oj (by assumption)];exact h
    ·rw[oe (by assumption)];exact h.K hg
   simp only[JY,J7,JZ,J6]
   repeat (refine RE.q (fun t=>∃x:Ks V (fun b=>b=C.heap.size),t=x.1) (cy.o _) Z Z Z Z ?_;go_big_quiet_step (fail);refine wpQuiet_nil ?_)
   refine RE.h Z Z ?_ (fun b8=>?_)
   ·intro t _ hS _;obtain rfl:t=V.drew:=hS Z;refine RE.C 30 _ _ Z (enters_of Tryz.func30 (by kernel_rfl) Z) #[vo (A ⟨Q,0,Y⟩)] (by simp[Act.eval]) ((dt.o _ Z).mono ?_);rintro e W' ⟨rfl,hT⟩;have ef:cZ V Q R g G W':=⟨⟨hT.1.os,hT.1.a,hT.1.c,hT.1.z,hT.1.q⟩,hT.2⟩;exact⟨_,Z,[I U x],Z,ef,fun b z h2=>hT.1.q b h2 (K.o b (by omega) (by omega)),Z⟩
   simp only[Act.put,JP,JW,JV];refine RE.h Z Z ?_ (fun cA=>?_)
   ·intro t _ hS eg;have hT:cZ V Q R g G t:=hS Z;have a1:b8.getD 0 xk=I U x:=eg 3 b8 (by kernel_rfl) Z;exact ek Dg (vs:=[I U x]) (.tmp 14) Z (by show (b8.getD 0 xk).cells=_;rw[a1];rfl) Z hT.1.z (fun v' U' l ho=>⟨[v'],Z,hT.C l,ApR.u l,ho⟩)
   simp only[Act.put,JP,JW,JV];refine RE.u ?_;intro V3 hS hE;have d:cZ V Q R g G V3:=hS;obtain⟨gg,cC,en,cR⟩:=(show One 3 V.heap.size [I U x] V3 (cA.getD 0 xk) from hE 4 cA Z);have eo:=d.1.z;have bd:=dj f.o fun b l=>d.1.q b (aP f.o b l).2 (K.o b (by have:=(aP f.o b l).1;omega) (by have:=(aP f.o b l).1;omega))
   have b2:=(d.1.q _ bb (K.o _ (by omega) (by omega))).trans HX.o;have b3:=(d.1.q _ (by omega) (K.o _ (by omega) (by omega))).trans HZ.o;rw[cC];clear hS hE D1 cy;refine bS V3 Z (.tmp 12) (.tmp 15) 48 Z (C.heap.size+1) 3 ti _ 1 8 Tryz.underlying48 c8 dd dg dn Z (by decide) (O p k c) k (ja ids) Z bd ⟨gg,0,Y⟩ 1 1 [I U x] Z Z
    (fun j u hu=>by rw[Addr.add_mid,Kq _ _ _ _ _ _ cR,Nat.zero_add];simpa using hu) (by simp[Value.oneCell']) (by unfold maxLen;omega) (by omega) (by omega) (by decide) ?_
   intro v9 V4 M N;have P:=aP f.o;have m:Chg (fun b=>(O p k c).ownBlock=A b) V3 V4:=by
    rcases N with ⟨g1,cap,e,_,hg⟩|⟨cap,_,hg⟩
    ·exact⟨hg.os,hg.tape,hg.output,hg.size,fun b l S=>hg.block b l (fun e2=>S (by injection e2 with e2;rw[e,←e2];rfl))⟩
    ·exact Chg.u hg
   obtain⟨p9,c9,rfl⟩:∃p9 c9,v9=O p9 (k+1) c9:=by
    rcases N with ⟨g1,cap,_,e,_⟩|⟨cap,e,_⟩
    ·exact⟨_,_,e⟩
    ·exact⟨_,_,e⟩
   have bg:=(m.q _ (by omega) (fun e=>by have:=(P _ e).1;omega)).trans b2;have b4:=(m.q _ (by omega) (fun e=>by have:=(P _ e).1;omega)).trans b3;have cT:dq V4 Q R g G:=⟨(m.q Q (by have:=d.2.lt;omega) (fun e=>by have:=(P _ e).1;omega)).trans d.2.q,d.2.r.K (m.q R d.2.r.lt (fun e=>by have:=(P _ e).1;omega)) (m.q g d.2.r.lt2 (fun e=>by have:=(P _ e).1;omega)) m.z,d.2.neR,d.2.neg⟩;have ad:Chg (sg Q R) W1 V4:=by
    have z:=L.o.1.h d.1;have cV:=ar.o;exact⟨m.os.trans z.os,m.a.trans z.a,m.c.trans z.c,JU z.z m.z,fun b l S=>(m.q b (JS l z.z) (fun e=>by have:=(P _ e).1;omega)).trans (z.q b l S)⟩
   obtain⟨e0,e1,_,g1⟩:=cj bg;obtain⟨V5,D⟩:=zzx (V4.setCell ⟨C.heap.size,1,Y⟩ (O p9 (k+1) c9));have bB:∀b,b≠C.heap.size→V5.heap[b]?=V4.heap[b]?:=fun b l=>by rw[D,oA _ _ _ _ l]
   have cW:V5.heap.size=V4.heap.size:=by rw[D];simp[AF]
   have c0:V5.heap[C.heap.size]?=A (r7 #[I U a,O p9 (k+1) c9] 50 (0,0)):=by rw[D,heap_set bg 1];rfl
   have c1:dq V5 Q R g G:=by rw[D];exact cT.set (by omega) (by omega) (by omega) 1 _
   have c3:Chg (sg Q R) W1 V5:=by
    have cV:=ar.o;exact⟨by rw[D];exact ad.os,by rw[D];exact ad.a,by rw[D];exact ad.c,by rw[cW];exact ad.z,fun b l S=>by rw[bB b (by omega)];exact ad.q b l S⟩
   have bk:V5.ownsRow (C.heap.size+1) 3 1 (O p9 (k+1) c9) (k+1) (ja (ids++[x])):=by
    have:ja (ids++[x])=ja ids++[I U x]:=by simp[ja]
    rw[this];exact dj M fun b l=>bB b (by have:=(aP M b l).1;omega)
   have er:Hid (H8 W1 Q R g C.heap.size W.heap.size n a all (I U ((k+1:Nat):Int)) V5):=
    ⟨V5,k+1,ids++[x],G,_,Z,Z,by omega,by rw[←cu.o];simp,by rw[J2,b1.o];rfl,fun y hy=>by
     rcases List.mem_append.1 hy with hy|hy
     ·exact HI.o y hy
     ·rw[List.mem_singleton.1 hy];exact dv.o,⟨c3,c1⟩,c0,(bB _ (by omega)).trans b4,bk⟩
   have et:=Hd D;clear M N P m bg b4 cT ad bB cW c0 c1 c3 bk D bd b2 b3 d cC en cR eo e0;go_wp2_with fail
   have c5:=er.o;rw[et.o]at c5;refine⟨c5,by simp[intOf];omega⟩
  ·obtain rfl:k=n:=by omega
   have hend:(ids,st)=all:=by rw[←HEq.o,Nat.sub_self];simp[eG]
   have b5:=Hd hend;obtain⟨d0,d1,_,_⟩:=cj HX.o;obtain⟨z0,z1,f0,f1⟩:=cj HZ.o;have e3:=Hd (set2 HZ.o);clear hend;go_wp2_with fail
   refine EV Tryz.results34 (by simp[go_sem]) (by simp[go_sem]) Z (e3.o _ _) ⟨_,_,Z,by simp[Value.oneCell'],?_,?_⟩
   ·rw[←b5.o];have ht:=L.o;have cV:=ar.o;refine⟨?_,(ht.2.set (by omega) (by omega) (by omega) 0 _).set (by omega) (by omega) (by omega) 1 _⟩;have z:=(Chg.u (F:=sg Q R) c7.o).h ht.1;refine⟨z.os,z.a,z.c,by simpa [AF]using z.z,fun b l S=>?_⟩;rw[oA _ _ _ _ (by show b≠W.heap.size;omega),oA _ _ _ _ (by show b≠W.heap.size;omega)];exact z.q b l S
   ·rw[←b5.o];refine gz.2 ⟨c6.o,_,Z,F8 (B:=C.heap.size+1) (dj f.o fun b l=>?_) b1.o HI.o (fun b l=>?_)⟩
    ·have:=(aP f.o b l).1;rw[oA _ _ _ _ (by show b≠W.heap.size;omega),oA _ _ _ _ (by show b≠W.heap.size;omega)]
    ·have:=aP f.o b l;exact⟨by omega,by simp[AF];omega⟩
end
