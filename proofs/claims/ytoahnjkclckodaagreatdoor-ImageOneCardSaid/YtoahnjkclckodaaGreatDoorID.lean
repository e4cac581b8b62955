/- Parts of one proof, joined; conditions stand in each theorem. -/
import Derived.Test.YtoahnjkclckodaaGreatDoorIC
open Go renaming World→J,Value→tT,Calls→wg
open Go.Value renaming int→I,pointer→vv,agg→xk,slice→O
open Go.IntKind renaming i64→U
open Go.Proofs.Tryz renaming prog→vo
open Option renaming some→A,none→Y
open Go.Ending renaming returned→wj
open Bool renaming true→ur,false→va
open Go.Obj renaming cells→r9
open Go.Code renaming wp→xD
open Go.World renaming setCell→AJ,cell?→AF
namespace Go.Proofs.YtoahnjkclckodaaGreatDoor
set_option maxHeartbeats 2000000
set_option maxRecDepth 100000
open Go.RowKit
section
variable {w w':J} {F:Nat→Prop} {vs:List tT}
theorem bY{f:am}:aC.at_ w F f vs↔I64 f.id∧I64 f.u∧∃a,vs=[I U f.id,I U f.u,a]∧bL.h w F f.a a:=by
 constructor
 ·rintro ⟨e,h,rfl,⟨rfl,b⟩,v1,v2,rfl,⟨rfl,c⟩,a,rfl,d⟩;exact⟨b,c,a,Z,d⟩
 ·rintro ⟨b,c,a,rfl,d⟩;exact⟨[_],_,Z,⟨Z,b⟩,[_],[a],Z,⟨Z,c⟩,a,Z,d⟩
end
section
variable {W:J} {R g:Nat} {s:WSt}
theorem nL(h:bv W R g s):wg vo 60 #[vv (A ⟨R,0,Y⟩)] W (sq W R g 88 bL (gr s)):=by
 obtain⟨b,d⟩:=zz2 (eX h) (sn h);unfold gr;generalize eE cE s=res at *;clear h
 go_enter Tryz.func60,Tryz.ntmps60
 go_wp2_with fail
 refine b.o.mono ?_;rintro e w1 ⟨rfl,rfl⟩;go_wp2_with fail
 refine d.o.mono ?_;rintro e l ⟨v,rfl,f,a,i⟩;obtain⟨H1,j,k⟩:=zz3 f a i;obtain⟨p,c,rfl⟩:=a.q;generalize res.1.length=m at *;clear f a i d b;go_wp2_with fail
 go_ret;exact⟨_,Z,H1.o,j.o,k.o⟩
theorem rT(h:bv W R g s)(k n:Int)(p:Option Addr)(m c:Nat):wg vo 61 #[vv (A ⟨R,0,Y⟩),xk #[I U k,I U n,O p m c]] W fun e W'=>e=wj (xk (if s.2=ur then #[I U 0,I U 0,O Y 0 0] else #[I U k,I U n,O p m c]))∧Gl W W':=by
 have z:=h.lt;obtain⟨l,b⟩:=s;obtain⟨w1,a⟩:=zzx (((W.alloc (r9 #[I U k,I U n,O p m c] 47)).alloc (r9 #[I U 0,I U 0,O Y 0 0] 47)).alloc (r9 #[I U 0,I U 0,O Y 0 0] 47));obtain⟨d,q,i,r⟩:=lP W (r9 #[I U k,I U n,O p m c] 47) (r9 #[I U 0,I U 0,O Y 0 0] 47) (r9 #[I U 0,I U 0,O Y 0 0] 47);rw[←a]at d q i r;obtain⟨_,_,_,y,_⟩:=(h.C d).z;obtain⟨B,C,x2,_⟩:=aE q;obtain⟨D,E,G,f0,f1,f2⟩:=aE i;obtain⟨z0,H,z2,_⟩:=aE r;obtain⟨t,K,j⟩:=zz3 (nP i) d a;have f:Hid (∀u v x,Gl W (((w1.setCell ⟨W.heap.size+1,0,Y⟩ u).setCell ⟨W.heap.size+1,1,Y⟩ v).setCell ⟨W.heap.size+1,2,Y⟩ x)):=fun u v x=>((d.setCell (p:=⟨W.heap.size+1,0,Y⟩) (F3 _) _).setCell (p:=⟨W.heap.size+1,1,Y⟩) (F3 _) _).setCell (p:=⟨W.heap.size+1,2,Y⟩) (F3 _) _
 dsimp only at y;clear h q i r d a
 cases b with
 | true =>
  simp only[o4]
  go_enter Tryz.func61,Tryz.ntmps61
  go_upto_region 2 with fail
  change xD _ _ _ _ (((W.alloc (r9 #[I U k,I U n,O p m c] 47)).alloc (r9 #[I U 0,I U 0,O Y 0 0] 47)).alloc (r9 #[I U 0,I U 0,O Y 0 0] 47));rw[←j.o];clear j;go_wp2_with fail
  exact eU Tryz.results61 (by simp[go_sem]) (by simp[go_sem]) Z (t.o _ _ _) ⟨Z,f.o _ _ _⟩
 | false =>
  simp only[F4,o1]
  go_enter Tryz.func61,Tryz.ntmps61
  go_upto_region 2 with fail
  change xD _ _ _ _ (((W.alloc (r9 #[I U k,I U n,O p m c] 47)).alloc (r9 #[I U 0,I U 0,O Y 0 0] 47)).alloc (r9 #[I U 0,I U 0,O Y 0 0] 47));rw[←j.o];clear j;go_wp2_with fail
  exact eU Tryz.results61 (by simp[go_sem]) (by simp[go_sem]) Z (t.o _ _ _) ⟨Z,f.o _ _ _⟩
theorem pq(h:bv W R g s):wg vo 32 #[vv (A ⟨R,0,Y⟩)] W fun e W'=>∃y0 y1 y2,e=wj (xk #[y0,y1,y2])∧(∀u∈[y0,y1,y2],u.oneCell'=ur)∧bg W R g (cI s).2 W'∧aC.at_ W' (aP W W') (cI s).1 [y0,y1,y2]:=by
 obtain⟨W1,E⟩:=zzx (W.alloc (r9 #[I U 0,I U 0,O Y 0 0] 47));have af:Gl W W1:=by rw[E];exact (Fz _ W).alloc (Fy _) _
 have bq:W1.heap[W.heap.size]?=A (r9 #[I U 0,I U 0,O Y 0 0] 47 (0,0)):=by rw[E];exact oA W _
 have aq:=h.C af;have HK:=Hd (eX aq);have HA:=lY aq;unfold cI;have B:=gk (aT 8 s).1;have B:I64 (aD 8 s).1:=B;obtain⟨⟨a,s1⟩,ha⟩:∃x,aD 8 s=x:=⟨_,rfl⟩;rw[ha]at HA B ⊢;dsimp only at HA B ⊢;have L:I64 (aD 8 s1).1:=gk (aT 8 s1).1;obtain⟨⟨b,s2⟩,hb⟩:∃x,aD 8 s1=x:=⟨_,rfl⟩;rw[hb]at L ⊢;dsimp only at L ⊢;obtain⟨⟨xs,s3⟩,hc⟩:∃x,gr s2=x:=⟨_,rfl⟩;rw[hc];dsimp only;obtain⟨res,d⟩:∃x:am,(if s3.2=ur then ⟨0,0,[]⟩ else ⟨a,b,xs⟩)=x:=⟨_,rfl⟩;rw[d];obtain⟨z,HA⟩:=zz2 d HA;have HB:=Hd (fun V (hV:bv V R g s1)=>by have:=lY hV;rw[hb]at this;exact this);have HC:=Hd (fun V (hV:bv V R g s2)=>by have:=nL hV;rw[hc]at this;exact this);obtain⟨ck,cl,bt,cm,bB,H⟩:=zz6 B L af bq E h;have cT:=h.lt;have cA:=h.lt2;have bR:W1.heap.size=W.heap.size+1:=by rw[E];simp
 clear h ha hb hc af bq aq E d B L
 go_enter Tryz.func32,Tryz.ntmps32
 go_upto_region 1 with fail
 change xD _ _ _ _ (W.alloc (r9 #[I U 0,I U 0,O Y 0 0] 47));rw[←bB.o];clear bB;have ar:=Hd bR;clear bR;go_wp2_with fail
 refine HK.o.mono ?_;rintro e w1 ⟨rfl,rfl⟩;go_wp2_with fail
 refine HA.o.mono ?_;rintro e D ⟨rfl,M⟩;obtain⟨T,N⟩:=zzx (D.alloc (r9 #[I U a,I U 0,O Y 0 0] 47));have P:Gl D T:=by rw[N];exact (Fz _ D).alloc (Fy _) _
 have a1:T.heap[D.heap.size]?=A (r9 #[I U a,I U 0,O Y 0 0] 47 (0,0)):=by rw[N];exact oA D _
 have cV:=M.1.size;have cW:=P.size;have cC:D.heap.size<T.heap.size:=(Fx.1 a1).1;have cn:W.heap.size<D.heap.size:=by have:=ar.o;omega
 have G:bg W1 R g s1 T:=M.C P;have b0:T.heap[W.heap.size]?=A (r9 #[I U 0,I U 0,O Y 0 0] 47 (0,0)):=(P.block _ cn).trans (an M.1 cm.o (by intro e;injection e with e;omega))
 obtain⟨b1,cp,cq,b2,b3⟩:=zz5 G a1 b0 N (HB.o T G.2);clear M P a1 G b0 N HK HA HB;go_upto_region 4 with fail
 change xD _ _ _ _ (D.alloc (r9 #[I U a,I U 0,O Y 0 0] 47));rw[←b2.o];clear b2;go_wp2_with fail
 refine b3.o.mono ?_;rintro e w4 ⟨rfl,f⟩;have b4:=Hd (HC.o w4 f.2);have b5:=an f.1 cp.o (by intro e;injection e with e;omega)
 have b6:=an f.1 cq.o (by intro e;injection e with e;omega)
 have c0:=f.1.size;obtain⟨b7,cr,ct⟩:=zz3 (b1.o.h f) b5 b6;clear f b5 b6 b3 HC;go_wp2_with fail
 refine b4.o.mono ?_;rintro e w5 ⟨v,rfl,i,l,K⟩;obtain⟨p,c,rfl⟩:=l.q;obtain⟨m,hm⟩:=zzy (xs.length);rw[hm]at l K ⊢;dsimp only at i l;have a6:=an i.1 cr.o (by intro e;injection e with e;omega)
 have b8:=an i.1 ct.o (by intro e;injection e with e;omega)
 have c1:=i.1.size;obtain⟨q0,q1,q2,f0,f1,f2⟩:=aE a6;obtain⟨w6,C⟩:=zzx ((w5.setCell ⟨D.heap.size,1,Y⟩ (I U b)).setCell ⟨D.heap.size,2,Y⟩ (O p m c));have b9:w6.heap[D.heap.size]?=A (r9 #[I U a,I U b,O p m c] 47 (0,0)):=by rw[C,heap_set (heap_set a6 1 _) 2 _];rfl
 have ba:∀x,x≠D.heap.size→w6.heap[x]?=w5.heap[x]?:=fun x k=>by rw[C,oF _ _ _ _ k,oF _ _ _ _ k]
 have bb:w6.heap.size=w5.heap.size:=by rw[C];simp[AJ]
 have bd:=b7.o.h i;have bk:bg W1 R g s3 w6:=by
  rw[C];exact⟨bo (bo bd.1 (by have:=ar.o;omega) 1 _) (by have:=ar.o;omega) 2 _,(bd.2.set (by omega) (by omega) 1 _).set (by omega) (by omega) 2 _⟩
 obtain⟨Q,ca,cu,cv,S,cb,X⟩:=zz7 (rT bk.2 a b p m c) bk ba b9 ((ba W.heap.size (by omega)).trans b8) C l;obtain⟨ad,HM,cc⟩:=zz3 K hm bb;clear bd bk ba b9 b8 C l K hm i b4 a6 bb;go_upto_region 5 with fail
 rw[←cb.o];clear cb q0 q1 q2 f0 f1 f2;obtain⟨q0,q1,q2,f0,f1,f2⟩:=aE cv.o
 cases n:s3.2 with
 | true =>
  have j:=Q.o;rw[n]at j;simp only[o4]at j;have q:=Hd j;have d:=z.o;rw[n]at d;simp only[o4]at d;obtain⟨t,cy⟩:=zz2 d n;clear j d Q z n;go_wp2_with fail
  refine q.o.mono ?_;rintro e w7 ⟨rfl,r⟩;have y:=aa r S.o (Fx.1 S.o).1;obtain⟨y0,y1,y2,g0,g1,g2⟩:=aE y;obtain⟨bl,bm⟩:=zz2 (nP y) (bg.ahead bt.o (ca.o.C r));clear r y q;go_wp2_with fail
  refine eU Tryz.results32 (by simp[go_sem]) (by simp[go_sem]) Z (bl.o _ _ _) ⟨_,_,_,Z,by simp[Value.oneCell'],((bm.o.far H.o (Fy _) 0 _).far H.o (Fy _) 1 _).far H.o (Fy _) 2 _,?_⟩;rw[←t.o];exact bY.2 ⟨(by decide:(-9223372036854775808:Int)≤0∧(0:Int)<9223372036854775808),(by decide:(-9223372036854775808:Int)≤0∧(0:Int)<9223372036854775808),_,Z,Rd.th⟩
 | false =>
  have j:=Q.o;rw[n]at j;simp only[F4,o1]at j;have q:=Hd j;have d:=z.o;rw[n]at d;simp only[F4,o1]at d;obtain⟨t,cy⟩:=zz2 d n;clear j d Q z n;go_wp2_with fail
  refine q.o.mono ?_;rintro e w7 ⟨rfl,r⟩;have y:=aa r S.o (Fx.1 S.o).1;obtain⟨y0,y1,y2,g0,g1,g2⟩:=aE y;obtain⟨bl,bm,cf⟩:=zz3 (nP y) (bg.ahead bt.o (ca.o.C r)) r;clear r y q;go_wp2_with fail
  refine eU Tryz.results32 (by simp[go_sem]) (by simp[go_sem]) Z (bl.o _ _ _) ⟨_,_,_,Z,by simp[Value.oneCell'],((bm.o.far H.o (Fy _) 0 _).far H.o (Fy _) 1 _).far H.o (Fy _) 2 _,?_⟩;rw[←t.o];have cR:=cf.o.size;have hk:∀x,w4.heap.size≤x→x<w5.heap.size→(((w7.setCell ⟨W.heap.size,0,Y⟩ (I U a)).setCell ⟨W.heap.size,1,Y⟩ (I U b)).setCell ⟨W.heap.size,2,Y⟩ (O p m c)).heap[x]?=w5.heap[x]?:=fun x h1 h2=>by
   have bn:x≠W.heap.size:=by omega
   rw[oF _ _ _ _ bn,oF _ _ _ _ bn,oF _ _ _ _ bn,cf.o.block x (by have:=cc.o;omega),cu.o x (by omega)]
  have ch:=fun x k=>X.o.lt (g:=x) k
  have bb:=cc.o;refine bY.2 ⟨ck.o,cl.o,_,Z,(X.o.t (F':=fun x=>aP w4 w5 x) (fun x k=>hk x (ad.o x k) (ch x k)) (fun x k o ho=>(hk x k.1.1 k.1.2).trans ho) (fun x k=>k.1)).h (fun x k=>?_) (fun x k=>?_)⟩
  ·refine⟨by have:=k.1;omega,?_⟩;have:=k.2;simp[AJ];omega
  ·refine⟨by have:=ad.o x k;omega,?_⟩;have:=ch x k;simp[AJ];omega
end
theorem zp:(Tryz.prog.info? 47).map (fun i=>(i.zero,i.size,i.bytes))=A (A (xk #[I U 0,I U 0,O Y 0 0]),3,40):=by kernel_rfl
section
variable {W:J} {R g:Nat} {s:WSt}
theorem rj(h:bv W R g s)(p:Option Addr)(n c:Nat):wg vo 111 #[vv (A ⟨R,0,Y⟩),O p n c] W fun e W'=>e=wj (if s.2 then O Y 0 0 else O p n c)∧W=W':=by
 obtain⟨_,_,_,a,_⟩:=h.z;obtain⟨l,b⟩:=s;dsimp only at a ⊢;clear h
 cases b with
 | true =>
  go_enter Tryz.func111,Tryz.ntmps111
  go_wp2_with fail
  go_ret;exact⟨Z,Z⟩
 | false =>
  go_enter Tryz.func111,Tryz.ntmps111
  go_wp2_with fail
  go_ret;exact⟨Z,Z⟩
def Ci(w:J) (R g:Nat) (all:List am×WSt) (v i:tT) (W:J):Prop:=
 ∃(a:J) (k:Nat) (xs:List am) (st:WSt),a=W∧i=I U k∧(xs++(cK cI k st).1,(cK cI k st).2)=all∧xs.length+k≤65536∧bg w R g st a∧aw a (fun b=>aP w a b∧v.ownBlock≠A b) 47 aC xs v∧∀b,v.ownBlock=A b→w.heap.size≤b
theorem tN(h:bv W R g s):wg vo 82 #[vv (A ⟨R,0,Y⟩),Value.func (.func 32) #[vv (A ⟨R,0,Y⟩)] #[]] W (sq W R g 47 aC (eE cI s)):=by
 have HC:=lM h;have hn:(bp s).1≤65536:=count_le s;unfold eE;obtain⟨⟨n,s1⟩,Q⟩:∃x,bp s=x:=⟨_,rfl⟩;rw[Q]at HC hn ⊢;dsimp only at HC hn ⊢;obtain⟨all,z⟩:=zzy (cK cI n s1);rw[z];obtain⟨res,d⟩:∃x:List am×WSt,(if all.2.2=ur then [] else all.1,all.2)=x:=⟨_,rfl⟩;rw[d];obtain⟨af,HC,aq,HR⟩:=zz4 d HC z h;have hR:=h.lt;obtain⟨ti,bt,bB,bR,b0⟩:=info_parts zp;clear h Q z d
 go_enter Tryz.func82,Tryz.ntmps82
 go_wp2_with fail
 refine HC.o.mono ?_;rintro e w2 ⟨rfl,q⟩;have b1:=Hd q;clear q HC;go_wp2_with fail
 go_loopw [5,6] (Ci W R g all) (fun _ i _=>(intOf i).toNat)
 case atStart=>exact⟨_,n,[],s1,Z,Z,by rw[←aq.o];rfl,by simpa using hn,b1.o,aw.nil,fun b h=>by cases h⟩
 case round =>
  obtain⟨W1,k,xs,st,rfl,rfl,heq,hle,q,t,B⟩:=hrel;obtain⟨_,_,_,c1,_⟩:=q.2.z;obtain⟨l,L⟩:=st;dsimp only at c1;obtain⟨p,c,rfl⟩:=t.q;obtain⟨m,hm⟩:=zzy (xs.length);rw[hm]at hle t B ⊢;obtain⟨HM,HEq,P,C,f⟩:=zz5 hm heq t B q;have Q:=q.1.size;clear q t B heq hm
  by_cases M:k=0∨L=ur
  ·have hend:(xs,((l,L):WSt))=all:=by
    rw[←HEq.o]
    cases k with
    | zero=>simp[cK]
    | succ k =>
     rcases M with h|rfl
     ·omega
     ·simp[cK]
   have d:((if L=ur then [] else xs),((l,L):WSt))=res:=by rw[←af.o,←hend]
   obtain⟨D,S⟩:=zz2 d (rj f.o.2 p m c);have b2:k=0∧L=va∨L=true:=by
    rcases M with h|h
    ·cases L
     ·exact Or.inl ⟨h,Z⟩
     ·exact Or.inr Z
    ·exact Or.inr h
   have ar:0<k∨k=0:=by omega
   clear hend d M;rcases b2 with ⟨rfl,rfl⟩|rfl
   ·go_wp2_with fail
    refine S.o.mono ?_;rintro e w4 ⟨rfl,rfl⟩;go_wp2_with fail
    go_ret;rw[←D.o];exact⟨_,Z,f.o,P.o,C.o⟩
   ·rcases ar with ar|rfl
    ·have a1:(0:Int)<k:=by omega
     go_wp2_with fail
     refine S.o.mono ?_;rintro e w4 ⟨rfl,rfl⟩;go_wp2_with fail
     go_ret;rw[←D.o];exact⟨_,Z,f.o,aw.nil,fun b h=>by cases h⟩
    ·go_wp2_with fail
     refine S.o.mono ?_;rintro e w4 ⟨rfl,rfl⟩;go_wp2_with fail
     go_ret;rw[←D.o];exact⟨_,Z,f.o,aw.nil,fun b h=>by cases h⟩
  ·obtain⟨k',rfl⟩:∃k',k=k'+1:=⟨k-1,by omega⟩;obtain rfl:L=false:=by cases L<;>simp_all
   have a1:(0:Int)<((k'+1:Nat):Int):=by omega
   have E:=pq f.o.2;have G:(xs++(cI (l,va)).1::(cK cI k' (cI (l,va)).2).1,(cK cI k' (cI (l,va)).2).2)=all:=by rw[←HEq.o];simp[cK]
   obtain⟨⟨x,b3⟩,hx⟩:∃y,cI (l,va)=y:=⟨_,rfl⟩;rw[hx]at E G;obtain⟨a6,ba⟩:=zz2 E G;clear E G hx M;go_wp2_with fail
   refine a6.o.mono ?_;rintro e w4 ⟨y0,y1,y2,rfl,bb,u,bk⟩;obtain⟨bl,b4⟩:=zz2 u bk;obtain⟨us,a,bm⟩:=P.o;rw[HM.o]at a;have H:w4.ownsRow 0 47 3 (O p m c) m us:=cO a fun b hb=>u.1.block b (aL a b hb).2 (fun e=>by injection e with e;have:=C.o b hb;omega)
   obtain⟨b5,b6,T⟩:=zz3 bm (fun b hb=>(aL a b hb).2) H;have ca:=u.1.size;have K:=i5 w4 [y0,y1,y2] 47;obtain⟨b7,b8⟩:=zz2 K bb;clear u bk a bm H K c1 bb;go_wp2_with (at_builtin;go_must (refine cj _ Z (.tmp 23) (.tmp 26) 22 Z 0 47 ti _ 3 40 Tryz.underlying22 bt bB bR b0 Z (by decide) (O p m c) m us Z (T.o.alloc _) ⟨w4.heap.size,0,Y⟩ 1 1 [y0,y1,y2] Z Z b7.o b8.o (by unfold maxLen;omega) (by omega) (by omega) (by decide) ?_);intro v9 W2 j v;obtain⟨V,N⟩:=zz2 j v;clear j v)
   obtain⟨w5,bn⟩:=zzx (w4.alloc (r9 #[y0,y1,y2] 47));have b9:Gl w4 w5:=by rw[bn];exact (Fz _ w4).alloc (Fy _) _
   have X:lc w5 W2 (O p m c) v9 m:=by rw[bn];exact N.o
   obtain⟨bq,gg,cap,rfl,ad,j⟩:=qy (r:=aC) (x:=x) (vs:=[y0,y1,y2]) HM.o HR.o f.o bl.o b9 X b5.o C.o b4.o V.o b6.o;refine⟨⟨W2,k',xs++[x],b3,Z,by go_num,?_,?_,bq,ad,j⟩,by simp[intOf]⟩
   ·rw[←ba.o];simp
   ·rw[FT,HM.o,Gi];omega
end
theorem bA{W:J}{b:Nat}{a c c2 d:tT}{t:TypeId}(h:W.heap[b]?=A (r9 #[a,c,c2,d] t (0,0))):W.cell? ⟨b,0,Y⟩=A a∧W.cell? ⟨b,1,Y⟩=A c∧W.cell? ⟨b,2,Y⟩=A c2∧W.cell? ⟨b,3,Y⟩=A d∧W.frozen? ⟨b,0,Y⟩=va∧W.frozen? ⟨b,1,Y⟩=va∧W.frozen? ⟨b,2,Y⟩=va∧W.frozen? ⟨b,3,Y⟩=false:=
 ⟨by simp[AF,h],by simp[AF,h],by simp[AF,h],by simp[AF,h],ax h 0,ax h 1,ax h 2,ax h 3⟩
theorem CV{W:J}{b:Nat}{a c c2 d:tT}{t:TypeId}(h:W.heap[b]?=A (r9 #[a,c,c2,d] t (0,0)))(x y z u:tT):((((W.setCell ⟨b,0,Y⟩ x).setCell ⟨b,1,Y⟩ y).setCell ⟨b,2,Y⟩ z).setCell ⟨b,3,Y⟩ u).heap[b]?=A (r9 #[x,y,z,u] t (0,0)):=by rw[heap_set (heap_set (heap_set (heap_set h 0 x) 1 y) 2 z) 3 u];rfl
theorem ly{W:J}{f:Func}{t b:Nat}{ty:TypeId}{x y z u:tT}{tmps:Array tT}{R:Ending→J→Prop}(e:f.results=#[.cell t ty])(a:(isAgg ty).run vo W=.ok ur W)(c:(Go.sizeOf ty).run vo W=.ok 4 W)(i:tmps.getD t undef=vv (A ⟨b,0,Y⟩))
  (h:W.heap[b]?=A (r9 #[x,y,z,u] ty (0,0))) (j:R (wj (xk #[x,y,z,u])) W):bodyPost vo f R .ret ⟨tmps,[]⟩ W:=by
 obtain⟨k,l,c2,m,_⟩:=bA h;have d:tmps[t]?.getD undef=vv (A ⟨b,0,Y⟩):=by simpa using i
 refine bodyPost_ret (v:=xk #[x,y,z,u]) ?_ Z j;simp[results,e,go_sem,d,a,c,k,l,c2,m]
section
variable {w w':J} {F:Nat→Prop} {vs:List tT}
theorem db{r:fZ}:bH.at_ w F r vs↔I64 r.h∧I64 r.u∧∃sf ss,vs=[I U r.h,I U r.u,sf,ss]∧aC.h w F r.a sf∧bL.h w F r.b ss:=by
 constructor
 ·rintro ⟨e,f,rfl,⟨rfl,a⟩,v1,v2,rfl,⟨rfl,b⟩,h,x2,rfl,⟨sf,rfl,c⟩,⟨ss,rfl,d⟩⟩;exact⟨a,b,sf,ss,Z,c,d⟩
 ·rintro ⟨a,b,sf,ss,rfl,c,d⟩;exact⟨[_],_,Z,⟨Z,a⟩,[_],_,Z,⟨Z,b⟩,[sf],[ss],Z,⟨sf,Z,c⟩,⟨ss,Z,d⟩⟩
end
section
variable {W:J} {R g:Nat} {s:WSt}
theorem rn(h:bv W R g s)(k n:Int)(p q:Option Addr)(m c d c2:Nat):wg vo 83 #[vv (A ⟨R,0,Y⟩),xk #[I U k,I U n,O p m c,O q d c2]] W fun e W'=>e=wj (xk (if s.2=ur then #[I U 0,I U 0,O Y 0 0,O Y 0 0] else #[I U k,I U n,O p m c,O q d c2]))∧Gl W W':=by
 have D:=h.lt;obtain⟨l,b⟩:=s;obtain⟨w1,a⟩:=zzx (((W.alloc (r9 #[I U k,I U n,O p m c,O q d c2] 52)).alloc (r9 #[I U 0,I U 0,O Y 0 0,O Y 0 0] 52)).alloc (r9 #[I U 0,I U 0,O Y 0 0,O Y 0 0] 52));obtain⟨i,t,j,u⟩:=lP W (r9 #[I U k,I U n,O p m c,O q d c2] 52) (r9 #[I U 0,I U 0,O Y 0 0,O Y 0 0] 52) (r9 #[I U 0,I U 0,O Y 0 0,O Y 0 0] 52);rw[←a]at i t j u;obtain⟨_,_,_,C,_⟩:=(h.C i).z;obtain⟨E,G,x2,x3,_⟩:=bA t;obtain⟨H,K,L,M,f0,f1,f2,f3⟩:=bA j;obtain⟨z0,N,z2,z3,_⟩:=bA u;obtain⟨v,r⟩:=zz2 (CV j) a;have f:Hid (∀x y z B,Gl W ((((w1.setCell ⟨W.heap.size+1,0,Y⟩ x).setCell ⟨W.heap.size+1,1,Y⟩ y).setCell ⟨W.heap.size+1,2,Y⟩ z).setCell ⟨W.heap.size+1,3,Y⟩ B)):=fun x y z B=>(((i.setCell (p:=⟨W.heap.size+1,0,Y⟩) (F3 _) _).setCell (p:=⟨W.heap.size+1,1,Y⟩) (F3 _) _).setCell (p:=⟨W.heap.size+1,2,Y⟩) (F3 _) _).setCell (p:=⟨W.heap.size+1,3,Y⟩) (F3 _) _
 dsimp only at C;clear h t j u i a
 cases b with
 | true =>
  simp only[o4]
  go_enter Tryz.func83,Tryz.ntmps83
  go_upto_region 2 with fail
  change xD _ _ _ _ (((W.alloc (r9 #[I U k,I U n,O p m c,O q d c2] 52)).alloc (r9 #[I U 0,I U 0,O Y 0 0,O Y 0 0] 52)).alloc (r9 #[I U 0,I U 0,O Y 0 0,O Y 0 0] 52));rw[←r.o];clear r;go_wp2_with fail
  exact ly Tryz.results83 (by simp[go_sem]) (by simp[go_sem]) Z (v.o _ _ _ _) ⟨Z,f.o _ _ _ _⟩
 | false =>
  simp only[F4,o1]
  go_enter Tryz.func83,Tryz.ntmps83
  go_upto_region 2 with fail
  change xD _ _ _ _ (((W.alloc (r9 #[I U k,I U n,O p m c,O q d c2] 52)).alloc (r9 #[I U 0,I U 0,O Y 0 0,O Y 0 0] 52)).alloc (r9 #[I U 0,I U 0,O Y 0 0,O Y 0 0] 52));rw[←r.o];clear r;go_wp2_with fail
  exact ly Tryz.results83 (by simp[go_sem]) (by simp[go_sem]) Z (v.o _ _ _ _) ⟨Z,f.o _ _ _ _⟩
theorem turn_kept{w w':J}{R:Nat}{b:Nat}{o:Obj}(h:w.grownBy w' (A R))(c:w.heap[b]?=A o)(a:b≠R):w'.heap[b]?=A o:=an h c (by intro e;injection e with e;exact a e)
theorem ol(h:bv W R g s):wg vo 62 #[vv (A ⟨R,0,Y⟩)] W fun e W'=>∃y0 y1 y2 y3,e=wj (xk #[y0,y1,y2,y3])∧(∀u∈[y0,y1,y2,y3],u.oneCell'=ur)∧bg W R g (eq s).2 W'∧bH.at_ W' (aP W W') (eq s).1 [y0,y1,y2,y3]:=by
 obtain⟨W1,T⟩:=zzx (W.alloc (r9 #[I U 0,I U 0,O Y 0 0,O Y 0 0] 52));have b4:Gl W W1:=by rw[T];exact (Fz _ W).alloc (Fy _) _
 have cl:W1.heap[W.heap.size]?=A (r9 #[I U 0,I U 0,O Y 0 0,O Y 0 0] 52 (0,0)):=by rw[T];exact oA W _
 have b5:=h.C b4;have HK:=Hd (eX b5);have HA:=kX b5;unfold eq;have bk:I64 (aD 8 s).1:=gk (aT 8 s).1;obtain⟨⟨a,s1⟩,ha⟩:∃x,aD 8 s=x:=⟨_,rfl⟩;rw[ha]at HA bk ⊢;dsimp only at HA bk ⊢;have bl:I64 (aD 8 s1).1:=gk (aT 8 s1).1;obtain⟨⟨b,s2⟩,hb⟩:∃x,aD 8 s1=x:=⟨_,rfl⟩;rw[hb]at bl ⊢;dsimp only at bl ⊢;obtain⟨⟨fs,s3⟩,hc⟩:∃x,eE cI s2=x:=⟨_,rfl⟩;rw[hc];dsimp only;obtain⟨⟨xs,s4⟩,hd⟩:∃x,gr s3=x:=⟨_,rfl⟩;rw[hd];dsimp only;obtain⟨res,f⟩:∃x:fZ,(if s4.2=ur then ⟨0,0,[],[]⟩ else ⟨a,b,fs,xs⟩)=x:=⟨_,rfl⟩;rw[f];obtain⟨M,HA⟩:=zz2 f HA;have HB:=Hd (fun V (hV:bv V R g s1)=>by have:=lY hV;rw[hb]at this;exact this);have HC:=Hd (fun V (hV:bv V R g s2)=>by have:=tN hV;rw[hc]at this;exact this);have HD:=Hd (fun V (hV:bv V R g s3)=>by have:=nL hV;rw[hd]at this;exact this);obtain⟨dn,ds,cm,dt,cn,H⟩:=zz6 bk bl b4 cl T h;have e9:=h.lt;have e5:=h.lt2;have cp:W1.heap.size=W.heap.size+1:=by rw[T];simp
 clear h ha hb hc hd b4 cl b5 T f bk bl
 go_enter Tryz.func62,Tryz.ntmps62
 go_upto_region 1 with fail
 change xD _ _ _ _ (W.alloc (r9 #[I U 0,I U 0,O Y 0 0,O Y 0 0] 52));rw[←cn.o];clear cn;have bm:=Hd cp;clear cp;go_wp2_with fail
 refine HK.o.mono ?_;rintro e w1 ⟨rfl,rfl⟩;go_wp2_with fail
 refine HA.o.mono ?_;rintro e t ⟨rfl,bn⟩;obtain⟨w3,bq⟩:=zzx (t.alloc (r9 #[I U a,I U 0,O Y 0 0,O Y 0 0] 52));have bt:Gl t w3:=by rw[bq];exact (Fz _ t).alloc (Fy _) _
 have b6:w3.heap[t.heap.size]?=A (r9 #[I U a,I U 0,O Y 0 0,O Y 0 0] 52 (0,0)):=by rw[bq];exact oA t _
 have fm:=bn.1.size;have fr:=bt.size;have e6:t.heap.size<w3.heap.size:=(Fx.1 b6).1;have dv:W.heap.size<t.heap.size:=by have:=bm.o;omega
 have n:t.heap.size≠R:=by omega
 have X:t.heap.size≠g:=by omega
 have N:W.heap.size≠R:=by omega
 have ad:W.heap.size≠t.heap.size:=by omega
 have af:bg W1 R g s1 w3:=bn.C bt;have cq:w3.heap[W.heap.size]?=A (r9 #[I U 0,I U 0,O Y 0 0,O Y 0 0] 52 (0,0)):=(bt.block _ dv).trans (turn_kept bn.1 dt.o N);obtain⟨cr,eg,en,ct,cu⟩:=zz5 af b6 cq bq (HB.o w3 af.2);clear bn bt b6 af cq bq HK HA HB;go_upto_region 4 with fail
 change xD _ _ _ _ (t.alloc (r9 #[I U a,I U 0,O Y 0 0,O Y 0 0] 52));rw[←ct.o];clear ct;go_wp2_with fail
 refine cu.o.mono ?_;rintro e w4 ⟨rfl,z⟩;have b7:=turn_kept z.1 eg.o n;have cv:=turn_kept z.1 en.o N;have ft:=z.1.size;obtain⟨q0,q1,q2,q3,f0,f1,f2,f3⟩:=bA b7;obtain⟨w5,P⟩:=zzx (w4.setCell ⟨t.heap.size,1,Y⟩ (I U b));have cy:w5.heap[t.heap.size]?=A (r9 #[I U a,I U b,O Y 0 0,O Y 0 0] 52 (0,0)):=by rw[P,heap_set b7 1];rfl
 have cA:w5.heap[W.heap.size]?=A (r9 #[I U 0,I U 0,O Y 0 0,O Y 0 0] 52 (0,0)):=by rw[P,oF _ _ _ _ ad];exact cv
 have fv:w5.heap.size=w4.heap.size:=by rw[P];simp[AJ]
 have aq:bg W1 R g s2 w5:=by
  rw[P];have ht:=cr.o.h z;exact⟨bo ht.1 (by have:=bm.o;omega) 1 _,ht.2.set n X 1 _⟩
 obtain⟨cC,eo,er,cR,cT⟩:=zz5 aq cy cA P (HC.o w5 aq.2);clear z b7 cv cy cA aq P cu HC;go_upto_region 5 with fail
 rw[←cR.o];clear cR q0 q1 q2 q3 f0 f1 f2 f3;go_wp2_with fail
 refine cT.o.mono ?_;rintro e w6 ⟨vf,rfl,r,j,E⟩;obtain⟨p,c,rfl⟩:=j.q;obtain⟨m,hm⟩:=zzy (fs.length);rw[hm]at j E ⊢;dsimp only at r j;have b8:=turn_kept r.1 eo.o n;have cV:=turn_kept r.1 er.o N;have fz:=r.1.size;obtain⟨q0,q1,q2,q3,f0,f1,f2,f3⟩:=bA b8;obtain⟨w7,Q⟩:=zzx (w6.setCell ⟨t.heap.size,2,Y⟩ (O p m c));have cW:w7.heap[t.heap.size]?=A (r9 #[I U a,I U b,O p m c,O Y 0 0] 52 (0,0)):=by rw[Q,heap_set b8 2];rfl
 have b9:∀x,x≠t.heap.size→w7.heap[x]?=w6.heap[x]?:=fun x i=>by rw[Q,oF _ _ _ _ i]
 have fI:w7.heap.size=w6.heap.size:=by rw[Q];simp[AJ]
 have ar:bg W1 R g s3 w7:=by
  rw[Q];have ht:=cC.o.h r;exact⟨bo ht.1 (by have:=bm.o;omega) 2 _,ht.2.set n X 2 _⟩
 obtain⟨c0,et,e0,e1,a1,a6,c1⟩:=zz7 ar cW ((b9 _ ad).trans cV) b9 j E Q;obtain⟨HM,c3⟩:=zz2 hm (HD.o w7 ar.2);clear r b8 cV cW ar Q cT HD j E b9 hm;go_upto_region 6 with fail
 rw[←c1.o];clear c1 q0 q1 q2 q3 f0 f1 f2 f3;go_wp2_with fail
 refine c3.o.mono ?_;rintro e w8 ⟨vs,rfl,k,l,G⟩;obtain⟨q,d,rfl⟩:=l.q;obtain⟨m2,ca⟩:=zzy (xs.length);rw[ca]at l G ⊢;dsimp only at k l;have cb:=turn_kept k.1 et.o n;have c5:=turn_kept k.1 e0.o N;have fT:=k.1.size;have e2:=Hd k.1;obtain⟨q0,q1,q2,q3,f0,f1,f2,f3⟩:=bA cb;obtain⟨w9,S⟩:=zzx (w8.setCell ⟨t.heap.size,3,Y⟩ (O q m2 d));have c6:w9.heap[t.heap.size]?=A (r9 #[I U a,I U b,O p m c,O q m2 d] 52 (0,0)):=by rw[S,heap_set cb 3];rfl
 have cc:∀x,x≠t.heap.size→w9.heap[x]?=w8.heap[x]?:=fun x i=>by rw[S,oF _ _ _ _ i]
 have gf:w9.heap.size=w8.heap.size:=by rw[S];simp[AJ]
 have ba:bg W1 R g s4 w9:=by
  rw[S];have ht:=c0.o.h k;exact⟨bo ht.1 (by have:=bm.o;omega) 3 _,ht.2.set n X 3 _⟩
 obtain⟨b1,e3,bB,c7,bb,bd,c8⟩:=zz7 ba c6 ((cc _ ad).trans c5) cc l G S;obtain⟨gg,bR⟩:=zz2 ca (rn ba.2 a b p q m c m2 d);clear k cb c5 c6 ba S c3 l G cc ca;go_upto_region 7 with fail
 rw[←c8.o];clear c8 q0 q1 q2 q3 f0 f1 f2 f3;obtain⟨q0,q1,q2,q3,f0,f1,f2,f3⟩:=bA e3.o;have c9:Hid (I64 0):=(by decide:(-9223372036854775808:Int)≤0∧(0:Int)<9223372036854775808)
 cases B:s4.2 with
 | true =>
  have v:=bR.o;rw[B]at v;simp only[o4]at v;have C:=Hd v;have f:=M.o;rw[B]at f;simp only[o4]at f;obtain⟨K,e4⟩:=zz2 f B;clear v f bR M B;go_wp2_with fail
  refine C.o.mono ?_;rintro e wa ⟨rfl,D⟩;have L:=aa D bB.o (Fx.1 bB.o).1;obtain⟨y0,y1,y2,y3,g0,g1,g2,g3⟩:=bA L;obtain⟨cf,ch⟩:=zz2 (CV L) (bg.ahead cm.o (b1.o.C D));clear D L C;go_wp2_with fail
  refine ly Tryz.results62 (by simp[go_sem]) (by simp[go_sem]) Z (cf.o _ _ _ _) ⟨_,_,_,_,Z,by simp[Value.oneCell'],(((ch.o.far H.o (Fy _) 0 _).far H.o (Fy _) 1 _).far H.o (Fy _) 2 _).far H.o (Fy _) 3 _,?_⟩;rw[←K.o];exact db.2 ⟨c9.o,c9.o,_,_,Z,Rd.th,Rd.th⟩
 | false =>
  have v:=bR.o;rw[B]at v;simp only[F4,o1]at v;have C:=Hd v;have f:=M.o;rw[B]at f;simp only[F4,o1]at f;obtain⟨K,e4⟩:=zz2 f B;clear v f bR M B;go_wp2_with fail
  refine C.o.mono ?_;rintro e wa ⟨rfl,D⟩;have L:=aa D bB.o (Fx.1 bB.o).1;obtain⟨y0,y1,y2,y3,g0,g1,g2,g3⟩:=bA L;obtain⟨cf,ch,ck⟩:=zz3 (CV L) (bg.ahead cm.o (b1.o.C D)) D;clear D L C;go_wp2_with fail
  refine ly Tryz.results62 (by simp[go_sem]) (by simp[go_sem]) Z (cf.o _ _ _ _) ⟨_,_,_,_,Z,by simp[Value.oneCell'],(((ch.o.far H.o (Fy _) 0 _).far H.o (Fy _) 1 _).far H.o (Fy _) 2 _).far H.o (Fy _) 3 _,?_⟩;rw[←K.o];have e7:=ck.o.size;obtain⟨wz,b0⟩:=zzx ((((wa.setCell ⟨W.heap.size,0,Y⟩ (I U a)).setCell ⟨W.heap.size,1,Y⟩ (I U b)).setCell ⟨W.heap.size,2,Y⟩ (O p m c)).setCell ⟨W.heap.size,3,Y⟩ (O q m2 d));have e8:wz.heap.size=wa.heap.size:=by rw[b0];simp[AJ]
  have dd:∀x,w7.heap.size≤x→x<w8.heap.size→wz.heap[x]?=w8.heap[x]?:=fun x h1 h2=>by
   have y:x≠W.heap.size:=by omega
   rw[b0,oF _ _ _ _ y,oF _ _ _ _ y,oF _ _ _ _ y,oF _ _ _ _ y,ck.o.block x (by omega),c7.o x (by omega)]
  have dg:∀x,w5.heap.size≤x→x<w6.heap.size→wz.heap[x]?=w6.heap[x]?:=fun x h1 h2=>by
   have y:x≠W.heap.size:=by omega
   rw[b0,oF _ _ _ _ y,oF _ _ _ _ y,oF _ _ _ _ y,oF _ _ _ _ y,ck.o.block x (by omega),c7.o x (by omega),e2.o.block x (by omega) (by intro e;injection e with e;omega),e1.o x (by omega)]
  rw[←b0];have b2:=fun x i=>bb.o.lt (g:=x) i
  have b3:=fun x i=>a1.o.lt (g:=x) i
  refine db.2 ⟨dn.o,ds.o,_,_,Z,(a1.o.t (F':=fun x=>aP w5 w6 x) (fun x i=>dg x (a6.o x i) (b3 x i)) (fun x i o ho=>(dg x i.1.1 i.1.2).trans ho) (fun x i=>i.1)).h (fun x i=>?_) (fun x i=>?_),
   (bb.o.t (F':=fun x=>aP w7 w8 x) (fun x i=>dd x (bd.o x i) (b2 x i)) (fun x i o ho=>(dd x i.1.1 i.1.2).trans ho) (fun x i=>i.1)).h (fun x i=>?_) (fun x i=>?_)⟩
  ·have h1:=i.1;have h2:=i.2;exact⟨by omega,by omega⟩
  ·have h1:=a6.o x i;have h2:=b3 x i;exact⟨by omega,by omega⟩
  ·have h1:=i.1;have h2:=i.2;exact⟨by omega,by omega⟩
  ·have h1:=bd.o x i;have h2:=b2 x i;exact⟨by omega,by omega⟩
end
