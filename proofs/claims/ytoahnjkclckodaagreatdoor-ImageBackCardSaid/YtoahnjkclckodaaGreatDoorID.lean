/- Parts of one proof, joined; conditions stand in each theorem. -/
import Derived.Test.YtoahnjkclckodaaGreatDoorIC
open Go renaming World→J,Value→tS,Calls→vv
open Go.Value renaming int→I,pointer→vo,agg→wP,slice→O
open Go.IntKind renaming i64→U
open Go.Proofs.Tryz renaming prog→va
open Option renaming some→A,none→Y
open Go.Ending renaming returned→wg
open Bool renaming true→tT,false→ur
open Go.Obj renaming cells→r7
open Go.Code renaming wp→xv
open Go.World renaming setCell→AF,cell?→At
namespace Go.Proofs.YtoahnjkclckodaaGreatDoor
set_option maxHeartbeats 2000000
set_option maxRecDepth 100000
open Go.RowKit
section
variable {w w':J} {F:Nat→Prop} {vs:List tS}
theorem bW{f:ai}:aG.at_ w F f vs↔I64 f.id∧I64 f.u∧∃a,vs=[I U f.id,I U f.u,a]∧bK.h w F f.c a:=by
 constructor
 ·rintro ⟨e,h,rfl,⟨rfl,b⟩,v1,v2,rfl,⟨rfl,c⟩,a,rfl,d⟩;exact⟨b,c,a,Z,d⟩
 ·rintro ⟨b,c,a,rfl,d⟩;exact⟨[_],_,Z,⟨Z,b⟩,[_],[a],Z,⟨Z,c⟩,a,Z,d⟩
end
section
variable {W:J} {R g:Nat} {s:WSt}
theorem pH(h:bF W R g s):vv va 60 #[vo (A ⟨R,0,Y⟩)] W (uH W R g 88 bK (eH s)):=by
 obtain⟨b,d⟩:=zz2 (fB h) (uF h);unfold eH;generalize dp bP s=res at *;clear h
 go_enter Tryz.func60,Tryz.ntmps60
 go_wp2_with fail
 refine b.o.mono ?_;rintro e w1 ⟨rfl,rfl⟩;go_wp2_with fail
 refine d.o.mono ?_;rintro e l ⟨v,rfl,f,a,i⟩;obtain⟨H1,j,k⟩:=zz3 f a i;obtain⟨p,c,rfl⟩:=a.q;generalize res.1.length=m at *;clear f a i d b;go_wp2_with fail
 go_ret;exact⟨_,Z,H1.o,j.o,k.o⟩
theorem uu(h:bF W R g s)(k n:Int)(p:Option Addr)(m c:Nat):vv va 61 #[vo (A ⟨R,0,Y⟩),wP #[I U k,I U n,O p m c]] W fun e W'=>e=wg (wP (if s.2=tT then #[I U 0,I U 0,O Y 0 0] else #[I U k,I U n,O p m c]))∧Kr W W':=by
 have z:=h.lt;obtain⟨l,b⟩:=s;obtain⟨w1,a⟩:=zzx (((W.alloc (r7 #[I U k,I U n,O p m c] 47)).alloc (r7 #[I U 0,I U 0,O Y 0 0] 47)).alloc (r7 #[I U 0,I U 0,O Y 0 0] 47));obtain⟨d,q,i,r⟩:=mJ W (r7 #[I U k,I U n,O p m c] 47) (r7 #[I U 0,I U 0,O Y 0 0] 47) (r7 #[I U 0,I U 0,O Y 0 0] 47);rw[←a]at d q i r;obtain⟨_,_,_,y,_⟩:=(h.C d).z;obtain⟨B,C,x2,_⟩:=aL q;obtain⟨D,E,G,f0,f1,f2⟩:=aL i;obtain⟨z0,H,z2,_⟩:=aL r;obtain⟨t,K,j⟩:=zz3 (pL i) d a;have f:Hid (∀u v x,Kr W (((w1.setCell ⟨W.heap.size+1,0,Y⟩ u).setCell ⟨W.heap.size+1,1,Y⟩ v).setCell ⟨W.heap.size+1,2,Y⟩ x)):=fun u v x=>((d.setCell (p:=⟨W.heap.size+1,0,Y⟩) (J9 _) _).setCell (p:=⟨W.heap.size+1,1,Y⟩) (J9 _) _).setCell (p:=⟨W.heap.size+1,2,Y⟩) (J9 _) _
 dsimp only at y;clear h q i r d a
 cases b with
 | true =>
  simp only[oX]
  go_enter Tryz.func61,Tryz.ntmps61
  go_upto_region 2 with fail
  change xv _ _ _ _ (((W.alloc (r7 #[I U k,I U n,O p m c] 47)).alloc (r7 #[I U 0,I U 0,O Y 0 0] 47)).alloc (r7 #[I U 0,I U 0,O Y 0 0] 47));rw[←j.o];clear j;go_wp2_with fail
  exact fx Tryz.results61 (by simp[go_sem]) (by simp[go_sem]) Z (t.o _ _ _) ⟨Z,f.o _ _ _⟩
 | false =>
  simp only[Ka,oF]
  go_enter Tryz.func61,Tryz.ntmps61
  go_upto_region 2 with fail
  change xv _ _ _ _ (((W.alloc (r7 #[I U k,I U n,O p m c] 47)).alloc (r7 #[I U 0,I U 0,O Y 0 0] 47)).alloc (r7 #[I U 0,I U 0,O Y 0 0] 47));rw[←j.o];clear j;go_wp2_with fail
  exact fx Tryz.results61 (by simp[go_sem]) (by simp[go_sem]) Z (t.o _ _ _) ⟨Z,f.o _ _ _⟩
theorem q9(h:bF W R g s):vv va 32 #[vo (A ⟨R,0,Y⟩)] W fun e W'=>∃y0 y1 y2,e=wg (wP #[y0,y1,y2])∧(∀u∈[y0,y1,y2],u.oneCell'=tT)∧bv W R g (bT s).2 W'∧aG.at_ W' (aW W W') (bT s).1 [y0,y1,y2]:=by
 obtain⟨W1,E⟩:=zzx (W.alloc (r7 #[I U 0,I U 0,O Y 0 0] 47));have af:Kr W W1:=by rw[E];exact (JO _ W).alloc (JM _) _
 have bn:W1.heap[W.heap.size]?=A (r7 #[I U 0,I U 0,O Y 0 0] 47 (0,0)):=by rw[E];exact oc W _
 have aq:=h.C af;have HK:=Hd (fB aq);have HA:=mV aq;unfold bT;have B:=gu (aT 8 s).1;have B:I64 (aw 8 s).1:=B;obtain⟨⟨a,s1⟩,ha⟩:∃x,aw 8 s=x:=⟨_,rfl⟩;rw[ha]at HA B ⊢;dsimp only at HA B ⊢;have L:I64 (aw 8 s1).1:=gu (aT 8 s1).1;obtain⟨⟨b,s2⟩,hb⟩:∃x,aw 8 s1=x:=⟨_,rfl⟩;rw[hb]at L ⊢;dsimp only at L ⊢;obtain⟨⟨xs,s3⟩,hc⟩:∃x,eH s2=x:=⟨_,rfl⟩;rw[hc];dsimp only;obtain⟨res,d⟩:∃x:ai,(if s3.2=tT then ⟨0,0,[]⟩ else ⟨a,b,xs⟩)=x:=⟨_,rfl⟩;rw[d];obtain⟨z,HA⟩:=zz2 d HA;have HB:=Hd (fun V (hV:bF V R g s1)=>by have:=mV hV;rw[hb]at this;exact this);have HC:=Hd (fun V (hV:bF V R g s2)=>by have:=pH hV;rw[hc]at this;exact this);obtain⟨ch,ck,bq,cl,bt,H⟩:=zz6 B L af bn E h;have cR:=h.lt;have cy:=h.lt2;have bB:W1.heap.size=W.heap.size+1:=by rw[E];simp
 clear h ha hb hc af bn aq E d B L
 go_enter Tryz.func32,Tryz.ntmps32
 go_upto_region 1 with fail
 change xv _ _ _ _ (W.alloc (r7 #[I U 0,I U 0,O Y 0 0] 47));rw[←bt.o];clear bt;have ar:=Hd bB;clear bB;go_wp2_with fail
 refine HK.o.mono ?_;rintro e w1 ⟨rfl,rfl⟩;go_wp2_with fail
 refine HA.o.mono ?_;rintro e D ⟨rfl,M⟩;obtain⟨T,N⟩:=zzx (D.alloc (r7 #[I U a,I U 0,O Y 0 0] 47));have P:Kr D T:=by rw[N];exact (JO _ D).alloc (JM _) _
 have a1:T.heap[D.heap.size]?=A (r7 #[I U a,I U 0,O Y 0 0] 47 (0,0)):=by rw[N];exact oc D _
 have cT:=M.1.size;have cV:=P.size;have cA:D.heap.size<T.heap.size:=(JL.1 a1).1;have cm:W.heap.size<D.heap.size:=by have:=ar.o;omega
 have G:bv W1 R g s1 T:=M.C P;have bR:T.heap[W.heap.size]?=A (r7 #[I U 0,I U 0,O Y 0 0] 47 (0,0)):=(P.block _ cm).trans (ap M.1 cl.o (by intro e;injection e with e;omega))
 obtain⟨b0,cn,cp,b1,b2⟩:=zz5 G a1 bR N (HB.o T G.2);clear M P a1 G bR N HK HA HB;go_upto_region 4 with fail
 change xv _ _ _ _ (D.alloc (r7 #[I U a,I U 0,O Y 0 0] 47));rw[←b1.o];clear b1;go_wp2_with fail
 refine b2.o.mono ?_;rintro e w4 ⟨rfl,f⟩;have b3:=Hd (HC.o w4 f.2);have b4:=ap f.1 cn.o (by intro e;injection e with e;omega)
 have b5:=ap f.1 cp.o (by intro e;injection e with e;omega)
 have cW:=f.1.size;obtain⟨b6,cq,cr⟩:=zz3 (b0.o.h f) b4 b5;clear f b4 b5 b2 HC;go_wp2_with fail
 refine b3.o.mono ?_;rintro e w5 ⟨v,rfl,i,l,K⟩;obtain⟨p,c,rfl⟩:=l.q;obtain⟨m,hm⟩:=zzy (xs.length);rw[hm]at l K ⊢;dsimp only at i l;have a6:=ap i.1 cq.o (by intro e;injection e with e;omega)
 have b7:=ap i.1 cr.o (by intro e;injection e with e;omega)
 have c0:=i.1.size;obtain⟨q0,q1,q2,f0,f1,f2⟩:=aL a6;obtain⟨w6,C⟩:=zzx ((w5.setCell ⟨D.heap.size,1,Y⟩ (I U b)).setCell ⟨D.heap.size,2,Y⟩ (O p m c));have b8:w6.heap[D.heap.size]?=A (r7 #[I U a,I U b,O p m c] 47 (0,0)):=by rw[C,heap_set (heap_set a6 1 _) 2 _];rfl
 have ba:∀x,x≠D.heap.size→w6.heap[x]?=w5.heap[x]?:=fun x k=>by rw[C,oA _ _ _ _ k,oA _ _ _ _ k]
 have bb:w6.heap.size=w5.heap.size:=by rw[C];simp[AF]
 have bd:=b6.o.h i;have bg:bv W1 R g s3 w6:=by
  rw[C];exact⟨bz (bz bd.1 (by have:=ar.o;omega) 1 _) (by have:=ar.o;omega) 2 _,(bd.2.set (by omega) (by omega) 1 _).set (by omega) (by omega) 2 _⟩
 obtain⟨Q,b9,ct,cu,S,ca,X⟩:=zz7 (uu bg.2 a b p m c) bg ba b8 ((ba W.heap.size (by omega)).trans b7) C l;obtain⟨ad,HM,cb⟩:=zz3 K hm bb;clear bd bg ba b8 b7 C l K hm i b3 a6 bb;go_upto_region 5 with fail
 rw[←ca.o];clear ca q0 q1 q2 f0 f1 f2;obtain⟨q0,q1,q2,f0,f1,f2⟩:=aL cu.o
 cases n:s3.2 with
 | true =>
  have j:=Q.o;rw[n]at j;simp only[oX]at j;have q:=Hd j;have d:=z.o;rw[n]at d;simp only[oX]at d;obtain⟨t,cv⟩:=zz2 d n;clear j d Q z n;go_wp2_with fail
  refine q.o.mono ?_;rintro e w7 ⟨rfl,r⟩;have y:=aa r S.o (JL.1 S.o).1;obtain⟨y0,y1,y2,g0,g1,g2⟩:=aL y;obtain⟨bk,bl⟩:=zz2 (pL y) (bv.ahead bq.o (b9.o.C r));clear r y q;go_wp2_with fail
  refine fx Tryz.results32 (by simp[go_sem]) (by simp[go_sem]) Z (bk.o _ _ _) ⟨_,_,_,Z,by simp[Value.oneCell'],((bl.o.far H.o (JM _) 0 _).far H.o (JM _) 1 _).far H.o (JM _) 2 _,?_⟩;rw[←t.o];exact bW.2 ⟨(by decide:(-9223372036854775808:Int)≤0∧(0:Int)<9223372036854775808),(by decide:(-9223372036854775808:Int)≤0∧(0:Int)<9223372036854775808),_,Z,Rd.tk⟩
 | false =>
  have j:=Q.o;rw[n]at j;simp only[Ka,oF]at j;have q:=Hd j;have d:=z.o;rw[n]at d;simp only[Ka,oF]at d;obtain⟨t,cv⟩:=zz2 d n;clear j d Q z n;go_wp2_with fail
  refine q.o.mono ?_;rintro e w7 ⟨rfl,r⟩;have y:=aa r S.o (JL.1 S.o).1;obtain⟨y0,y1,y2,g0,g1,g2⟩:=aL y;obtain⟨bk,bl,cc⟩:=zz3 (pL y) (bv.ahead bq.o (b9.o.C r)) r;clear r y q;go_wp2_with fail
  refine fx Tryz.results32 (by simp[go_sem]) (by simp[go_sem]) Z (bk.o _ _ _) ⟨_,_,_,Z,by simp[Value.oneCell'],((bl.o.far H.o (JM _) 0 _).far H.o (JM _) 1 _).far H.o (JM _) 2 _,?_⟩;rw[←t.o];have cC:=cc.o.size;have hk:∀x,w4.heap.size≤x→x<w5.heap.size→(((w7.setCell ⟨W.heap.size,0,Y⟩ (I U a)).setCell ⟨W.heap.size,1,Y⟩ (I U b)).setCell ⟨W.heap.size,2,Y⟩ (O p m c)).heap[x]?=w5.heap[x]?:=fun x h1 h2=>by
   have bm:x≠W.heap.size:=by omega
   rw[oA _ _ _ _ bm,oA _ _ _ _ bm,oA _ _ _ _ bm,cc.o.block x (by have:=cb.o;omega),ct.o x (by omega)]
  have cf:=fun x k=>X.o.lt (g:=x) k
  have bb:=cb.o;refine bW.2 ⟨ch.o,ck.o,_,Z,(X.o.K (F':=fun x=>aW w4 w5 x) (fun x k=>hk x (ad.o x k) (cf x k)) (fun x k o ho=>(hk x k.1.1 k.1.2).trans ho) (fun x k=>k.1)).h (fun x k=>?_) (fun x k=>?_)⟩
  ·refine⟨by have:=k.1;omega,?_⟩;have:=k.2;simp[AF];omega
  ·refine⟨by have:=ad.o x k;omega,?_⟩;have:=cf x k;simp[AF];omega
end
theorem Co:(Tryz.prog.info? 47).map (fun i=>(i.zero,i.size,i.bytes))=A (A (wP #[I U 0,I U 0,O Y 0 0]),3,40):=by kernel_rfl
section
variable {W:J} {R g:Nat} {s:WSt}
theorem tP(h:bF W R g s)(p:Option Addr)(n c:Nat):vv va 111 #[vo (A ⟨R,0,Y⟩),O p n c] W fun e W'=>e=wg (if s.2 then O Y 0 0 else O p n c)∧W=W':=by
 obtain⟨_,_,_,a,_⟩:=h.z;obtain⟨l,b⟩:=s;dsimp only at a ⊢;clear h
 cases b with
 | true =>
  go_enter Tryz.func111,Tryz.ntmps111
  go_wp2_with fail
  go_ret;exact⟨Z,Z⟩
 | false =>
  go_enter Tryz.func111,Tryz.ntmps111
  go_wp2_with fail
  go_ret;exact⟨Z,Z⟩
def F3(w:J) (R g:Nat) (all:List ai×WSt) (v i:tS) (W:J):Prop:=
 ∃(a:J) (k:Nat) (xs:List ai) (st:WSt),a=W∧i=I U k∧(xs++(bQ bT k st).1,(bQ bT k st).2)=all∧xs.length+k≤65536∧bv w R g st a∧aA a (fun b=>aW w a b∧v.ownBlock≠A b) 47 aG xs v∧∀b,v.ownBlock=A b→w.heap.size≤b
theorem ww(h:bF W R g s):vv va 82 #[vo (A ⟨R,0,Y⟩),Value.func (.func 32) #[vo (A ⟨R,0,Y⟩)] #[]] W (uH W R g 47 aG (dp bT s)):=by
 have HC:=mH h;have hn:(bf s).1≤65536:=count_le s;unfold dp;obtain⟨⟨n,s1⟩,Q⟩:∃x,bf s=x:=⟨_,rfl⟩;rw[Q]at HC hn ⊢;dsimp only at HC hn ⊢;obtain⟨all,z⟩:=zzy (bQ bT n s1);rw[z];obtain⟨res,d⟩:∃x:List ai×WSt,(if all.2.2=tT then [] else all.1,all.2)=x:=⟨_,rfl⟩;rw[d];obtain⟨af,HC,aq,HR⟩:=zz4 d HC z h;have hR:=h.lt;obtain⟨ti,bq,bt,bB,bR⟩:=info_parts Co;clear h Q z d
 go_enter Tryz.func82,Tryz.ntmps82
 go_wp2_with fail
 refine HC.o.mono ?_;rintro e w2 ⟨rfl,q⟩;have b0:=Hd q;clear q HC;go_wp2_with fail
 go_loopw [5,6] (F3 W R g all) (fun _ i _=>(intOf i).toNat)
 case atStart=>exact⟨_,n,[],s1,Z,Z,by rw[←aq.o];rfl,by simpa using hn,b0.o,aA.nil,fun b h=>by cases h⟩
 case round =>
  obtain⟨W1,k,xs,st,rfl,rfl,heq,hle,q,t,B⟩:=hrel;obtain⟨_,_,_,c1,_⟩:=q.2.z;obtain⟨l,L⟩:=st;dsimp only at c1;obtain⟨p,c,rfl⟩:=t.q;obtain⟨m,hm⟩:=zzy (xs.length);rw[hm]at hle t B ⊢;obtain⟨HM,HEq,P,C,f⟩:=zz5 hm heq t B q;have Q:=q.1.size;clear q t B heq hm
  by_cases M:k=0∨L=tT
  ·have hend:(xs,((l,L):WSt))=all:=by
    rw[←HEq.o]
    cases k with
    | zero=>simp[bQ]
    | succ k =>
     rcases M with h|rfl
     ·omega
     ·simp[bQ]
   have d:((if L=tT then [] else xs),((l,L):WSt))=res:=by rw[←af.o,←hend]
   obtain⟨D,S⟩:=zz2 d (tP f.o.2 p m c);have b1:k=0∧L=ur∨L=true:=by
    rcases M with h|h
    ·cases L
     ·exact Or.inl ⟨h,Z⟩
     ·exact Or.inr Z
    ·exact Or.inr h
   have ar:0<k∨k=0:=by omega
   clear hend d M;rcases b1 with ⟨rfl,rfl⟩|rfl
   ·go_wp2_with fail
    refine S.o.mono ?_;rintro e w4 ⟨rfl,rfl⟩;go_wp2_with fail
    go_ret;rw[←D.o];exact⟨_,Z,f.o,P.o,C.o⟩
   ·rcases ar with ar|rfl
    ·have a1:(0:Int)<k:=by omega
     go_wp2_with fail
     refine S.o.mono ?_;rintro e w4 ⟨rfl,rfl⟩;go_wp2_with fail
     go_ret;rw[←D.o];exact⟨_,Z,f.o,aA.nil,fun b h=>by cases h⟩
    ·go_wp2_with fail
     refine S.o.mono ?_;rintro e w4 ⟨rfl,rfl⟩;go_wp2_with fail
     go_ret;rw[←D.o];exact⟨_,Z,f.o,aA.nil,fun b h=>by cases h⟩
  ·obtain⟨k',rfl⟩:∃k',k=k'+1:=⟨k-1,by omega⟩;obtain rfl:L=false:=by cases L<;>simp_all
   have a1:(0:Int)<((k'+1:Nat):Int):=by omega
   have E:=q9 f.o.2;have G:(xs++(bT (l,ur)).1::(bQ bT k' (bT (l,ur)).2).1,(bQ bT k' (bT (l,ur)).2).2)=all:=by rw[←HEq.o];simp[bQ]
   obtain⟨⟨x,b2⟩,hx⟩:∃y,bT (l,ur)=y:=⟨_,rfl⟩;rw[hx]at E G;obtain⟨a6,ba⟩:=zz2 E G;clear E G hx M;go_wp2_with fail
   refine a6.o.mono ?_;rintro e w4 ⟨y0,y1,y2,rfl,bb,u,bg⟩;obtain⟨bk,b3⟩:=zz2 u bg;obtain⟨us,a,bl⟩:=P.o;rw[HM.o]at a;have H:w4.ownsRow 0 47 3 (O p m c) m us:=dj a fun b hb=>u.1.block b (aP a b hb).2 (fun e=>by injection e with e;have:=C.o b hb;omega)
   obtain⟨b4,b5,T⟩:=zz3 bl (fun b hb=>(aP a b hb).2) H;have b9:=u.1.size;have K:=jx w4 [y0,y1,y2] 47;obtain⟨b6,b7⟩:=zz2 K bb;clear u bg a bl H K c1 bb;go_wp2_with (at_builtin;go_must (refine bS _ Z (.tmp 23) (.tmp 26) 22 Z 0 47 ti _ 3 40 Tryz.underlying22 bq bt bB bR Z (by decide) (O p m c) m us Z (T.o.alloc _) ⟨w4.heap.size,0,Y⟩ 1 1 [y0,y1,y2] Z Z b6.o b7.o (by unfold maxLen;omega) (by omega) (by omega) (by decide) ?_);intro v9 W2 j v;obtain⟨V,N⟩:=zz2 j v;clear j v)
   obtain⟨w5,bm⟩:=zzx (w4.alloc (r7 #[y0,y1,y2] 47));have b8:Kr w4 w5:=by rw[bm];exact (JO _ w4).alloc (JM _) _
   have X:lW w5 W2 (O p m c) v9 m:=by rw[bm];exact N.o
   obtain⟨bn,gg,cap,rfl,ad,j⟩:=sB (r:=aG) (x:=x) (vs:=[y0,y1,y2]) HM.o HR.o f.o bk.o b8 X b4.o C.o b3.o V.o b5.o;refine⟨⟨W2,k',xs++[x],b2,Z,by go_num,?_,?_,bn,ad,j⟩,by simp[intOf]⟩
   ·rw[←ba.o];simp
   ·rw[J2,HM.o,Ko];omega
end
theorem bC{W:J}{b:Nat}{a c c2 d:tS}{t:TypeId}(h:W.heap[b]?=A (r7 #[a,c,c2,d] t (0,0))):W.cell? ⟨b,0,Y⟩=A a∧W.cell? ⟨b,1,Y⟩=A c∧W.cell? ⟨b,2,Y⟩=A c2∧W.cell? ⟨b,3,Y⟩=A d∧W.frozen? ⟨b,0,Y⟩=ur∧W.frozen? ⟨b,1,Y⟩=ur∧W.frozen? ⟨b,2,Y⟩=ur∧W.frozen? ⟨b,3,Y⟩=false:=
 ⟨by simp[At,h],by simp[At,h],by simp[At,h],by simp[At,h],aB h 0,aB h 1,aB h 2,aB h 3⟩
theorem GF{W:J}{b:Nat}{a c c2 d:tS}{t:TypeId}(h:W.heap[b]?=A (r7 #[a,c,c2,d] t (0,0)))(x y z u:tS):((((W.setCell ⟨b,0,Y⟩ x).setCell ⟨b,1,Y⟩ y).setCell ⟨b,2,Y⟩ z).setCell ⟨b,3,Y⟩ u).heap[b]?=A (r7 #[x,y,z,u] t (0,0)):=by rw[heap_set (heap_set (heap_set (heap_set h 0 x) 1 y) 2 z) 3 u];rfl
theorem mo{W:J}{f:Func}{t b:Nat}{ty:TypeId}{x y z u:tS}{tmps:Array tS}{R:Ending→J→Prop}(e:f.results=#[.cell t ty])(a:(isAgg ty).run va W=.ok tT W)(c:(Go.sizeOf ty).run va W=.ok 4 W)(i:tmps.getD t undef=vo (A ⟨b,0,Y⟩))
  (h:W.heap[b]?=A (r7 #[x,y,z,u] ty (0,0))) (j:R (wg (wP #[x,y,z,u])) W):bodyPost va f R .ret ⟨tmps,[]⟩ W:=by
 obtain⟨k,l,c2,m,_⟩:=bC h;have d:tmps[t]?.getD undef=vo (A ⟨b,0,Y⟩):=by simpa using i
 refine bodyPost_ret (v:=wP #[x,y,z,u]) ?_ Z j;simp[results,e,go_sem,d,a,c,k,l,c2,m]
section
variable {w w':J} {F:Nat→Prop} {vs:List tS}
theorem cY{r:eb}:bJ.at_ w F r vs↔I64 r.h∧I64 r.u∧∃sf ss,vs=[I U r.h,I U r.u,sf,ss]∧aG.h w F r.a sf∧bK.h w F r.b ss:=by
 constructor
 ·rintro ⟨e,f,rfl,⟨rfl,a⟩,v1,v2,rfl,⟨rfl,b⟩,h,x2,rfl,⟨sf,rfl,c⟩,⟨ss,rfl,d⟩⟩;exact⟨a,b,sf,ss,Z,c,d⟩
 ·rintro ⟨a,b,sf,ss,rfl,c,d⟩;exact⟨[_],_,Z,⟨Z,a⟩,[_],_,Z,⟨Z,b⟩,[sf],[ss],Z,⟨sf,Z,c⟩,⟨ss,Z,d⟩⟩
end
section
variable {W:J} {R g:Nat} {s:WSt}
theorem tW(h:bF W R g s)(k n:Int)(p q:Option Addr)(m c d c2:Nat):vv va 83 #[vo (A ⟨R,0,Y⟩),wP #[I U k,I U n,O p m c,O q d c2]] W fun e W'=>e=wg (wP (if s.2=tT then #[I U 0,I U 0,O Y 0 0,O Y 0 0] else #[I U k,I U n,O p m c,O q d c2]))∧Kr W W':=by
 have D:=h.lt;obtain⟨l,b⟩:=s;obtain⟨w1,a⟩:=zzx (((W.alloc (r7 #[I U k,I U n,O p m c,O q d c2] 52)).alloc (r7 #[I U 0,I U 0,O Y 0 0,O Y 0 0] 52)).alloc (r7 #[I U 0,I U 0,O Y 0 0,O Y 0 0] 52));obtain⟨i,t,j,u⟩:=mJ W (r7 #[I U k,I U n,O p m c,O q d c2] 52) (r7 #[I U 0,I U 0,O Y 0 0,O Y 0 0] 52) (r7 #[I U 0,I U 0,O Y 0 0,O Y 0 0] 52);rw[←a]at i t j u;obtain⟨_,_,_,C,_⟩:=(h.C i).z;obtain⟨E,G,x2,x3,_⟩:=bC t;obtain⟨H,K,L,M,f0,f1,f2,f3⟩:=bC j;obtain⟨z0,N,z2,z3,_⟩:=bC u;obtain⟨v,r⟩:=zz2 (GF j) a;have f:Hid (∀x y z B,Kr W ((((w1.setCell ⟨W.heap.size+1,0,Y⟩ x).setCell ⟨W.heap.size+1,1,Y⟩ y).setCell ⟨W.heap.size+1,2,Y⟩ z).setCell ⟨W.heap.size+1,3,Y⟩ B)):=fun x y z B=>(((i.setCell (p:=⟨W.heap.size+1,0,Y⟩) (J9 _) _).setCell (p:=⟨W.heap.size+1,1,Y⟩) (J9 _) _).setCell (p:=⟨W.heap.size+1,2,Y⟩) (J9 _) _).setCell (p:=⟨W.heap.size+1,3,Y⟩) (J9 _) _
 dsimp only at C;clear h t j u i a
 cases b with
 | true =>
  simp only[oX]
  go_enter Tryz.func83,Tryz.ntmps83
  go_upto_region 2 with fail
  change xv _ _ _ _ (((W.alloc (r7 #[I U k,I U n,O p m c,O q d c2] 52)).alloc (r7 #[I U 0,I U 0,O Y 0 0,O Y 0 0] 52)).alloc (r7 #[I U 0,I U 0,O Y 0 0,O Y 0 0] 52));rw[←r.o];clear r;go_wp2_with fail
  exact mo Tryz.results83 (by simp[go_sem]) (by simp[go_sem]) Z (v.o _ _ _ _) ⟨Z,f.o _ _ _ _⟩
 | false =>
  simp only[Ka,oF]
  go_enter Tryz.func83,Tryz.ntmps83
  go_upto_region 2 with fail
  change xv _ _ _ _ (((W.alloc (r7 #[I U k,I U n,O p m c,O q d c2] 52)).alloc (r7 #[I U 0,I U 0,O Y 0 0,O Y 0 0] 52)).alloc (r7 #[I U 0,I U 0,O Y 0 0,O Y 0 0] 52));rw[←r.o];clear r;go_wp2_with fail
  exact mo Tryz.results83 (by simp[go_sem]) (by simp[go_sem]) Z (v.o _ _ _ _) ⟨Z,f.o _ _ _ _⟩
theorem turn_kept{w w':J}{R:Nat}{b:Nat}{o:Obj}(h:w.grownBy w' (A R))(c:w.heap[b]?=A o)(a:b≠R):w'.heap[b]?=A o:=ap h c (by intro e;injection e with e;exact a e)
theorem qb(h:bF W R g s):vv va 62 #[vo (A ⟨R,0,Y⟩)] W fun e W'=>∃y0 y1 y2 y3,e=wg (wP #[y0,y1,y2,y3])∧(∀u∈[y0,y1,y2,y3],u.oneCell'=tT)∧bv W R g (dh s).2 W'∧bJ.at_ W' (aW W W') (dh s).1 [y0,y1,y2,y3]:=by
 obtain⟨W1,T⟩:=zzx (W.alloc (r7 #[I U 0,I U 0,O Y 0 0,O Y 0 0] 52));have b3:Kr W W1:=by rw[T];exact (JO _ W).alloc (JM _) _
 have ck:W1.heap[W.heap.size]?=A (r7 #[I U 0,I U 0,O Y 0 0,O Y 0 0] 52 (0,0)):=by rw[T];exact oc W _
 have b4:=h.C b3;have HK:=Hd (fB b4);have HA:=lT b4;unfold dh;have bg:I64 (aw 8 s).1:=gu (aT 8 s).1;obtain⟨⟨a,s1⟩,ha⟩:∃x,aw 8 s=x:=⟨_,rfl⟩;rw[ha]at HA bg ⊢;dsimp only at HA bg ⊢;have bk:I64 (aw 8 s1).1:=gu (aT 8 s1).1;obtain⟨⟨b,s2⟩,hb⟩:∃x,aw 8 s1=x:=⟨_,rfl⟩;rw[hb]at bk ⊢;dsimp only at bk ⊢;obtain⟨⟨fs,s3⟩,hc⟩:∃x,dp bT s2=x:=⟨_,rfl⟩;rw[hc];dsimp only;obtain⟨⟨xs,s4⟩,hd⟩:∃x,eH s3=x:=⟨_,rfl⟩;rw[hd];dsimp only;obtain⟨res,f⟩:∃x:eb,(if s4.2=tT then ⟨0,0,[],[]⟩ else ⟨a,b,fs,xs⟩)=x:=⟨_,rfl⟩;rw[f];obtain⟨M,HA⟩:=zz2 f HA;have HB:=Hd (fun V (hV:bF V R g s1)=>by have:=mV hV;rw[hb]at this;exact this);have HC:=Hd (fun V (hV:bF V R g s2)=>by have:=ww hV;rw[hc]at this;exact this);have HD:=Hd (fun V (hV:bF V R g s3)=>by have:=pH hV;rw[hd]at this;exact this);obtain⟨dg,dn,cl,ds,cm,H⟩:=zz6 bg bk b3 ck T h;have e7:=h.lt;have e3:=h.lt2;have cn:W1.heap.size=W.heap.size+1:=by rw[T];simp
 clear h ha hb hc hd b3 ck b4 T f bg bk
 go_enter Tryz.func62,Tryz.ntmps62
 go_upto_region 1 with fail
 change xv _ _ _ _ (W.alloc (r7 #[I U 0,I U 0,O Y 0 0,O Y 0 0] 52));rw[←cm.o];clear cm;have bl:=Hd cn;clear cn;go_wp2_with fail
 refine HK.o.mono ?_;rintro e w1 ⟨rfl,rfl⟩;go_wp2_with fail
 refine HA.o.mono ?_;rintro e t ⟨rfl,bm⟩;obtain⟨w3,bn⟩:=zzx (t.alloc (r7 #[I U a,I U 0,O Y 0 0,O Y 0 0] 52));have bq:Kr t w3:=by rw[bn];exact (JO _ t).alloc (JM _) _
 have b5:w3.heap[t.heap.size]?=A (r7 #[I U a,I U 0,O Y 0 0,O Y 0 0] 52 (0,0)):=by rw[bn];exact oc t _
 have e8:=bm.1.size;have e9:=bq.size;have e4:t.heap.size<w3.heap.size:=(JL.1 b5).1;have dt:W.heap.size<t.heap.size:=by have:=bl.o;omega
 have n:t.heap.size≠R:=by omega
 have X:t.heap.size≠g:=by omega
 have N:W.heap.size≠R:=by omega
 have ad:W.heap.size≠t.heap.size:=by omega
 have af:bv W1 R g s1 w3:=bm.C bq;have cp:w3.heap[W.heap.size]?=A (r7 #[I U 0,I U 0,O Y 0 0,O Y 0 0] 52 (0,0)):=(bq.block _ dt).trans (turn_kept bm.1 ds.o N);obtain⟨cq,dv,ef,cr,ct⟩:=zz5 af b5 cp bn (HB.o w3 af.2);clear bm bq b5 af cp bn HK HA HB;go_upto_region 4 with fail
 change xv _ _ _ _ (t.alloc (r7 #[I U a,I U 0,O Y 0 0,O Y 0 0] 52));rw[←cr.o];clear cr;go_wp2_with fail
 refine ct.o.mono ?_;rintro e w4 ⟨rfl,z⟩;have b6:=turn_kept z.1 dv.o n;have cu:=turn_kept z.1 ef.o N;have fm:=z.1.size;obtain⟨q0,q1,q2,q3,f0,f1,f2,f3⟩:=bC b6;obtain⟨w5,P⟩:=zzx (w4.setCell ⟨t.heap.size,1,Y⟩ (I U b));have cv:w5.heap[t.heap.size]?=A (r7 #[I U a,I U b,O Y 0 0,O Y 0 0] 52 (0,0)):=by rw[P,heap_set b6 1];rfl
 have cy:w5.heap[W.heap.size]?=A (r7 #[I U 0,I U 0,O Y 0 0,O Y 0 0] 52 (0,0)):=by rw[P,oA _ _ _ _ ad];exact cu
 have fr:w5.heap.size=w4.heap.size:=by rw[P];simp[AF]
 have aq:bv W1 R g s2 w5:=by
  rw[P];have ht:=cq.o.h z;exact⟨bz ht.1 (by have:=bl.o;omega) 1 _,ht.2.set n X 1 _⟩
 obtain⟨cA,eg,en,cC,cR⟩:=zz5 aq cv cy P (HC.o w5 aq.2);clear z b6 cu cv cy aq P ct HC;go_upto_region 5 with fail
 rw[←cC.o];clear cC q0 q1 q2 q3 f0 f1 f2 f3;go_wp2_with fail
 refine cR.o.mono ?_;rintro e w6 ⟨vf,rfl,r,j,E⟩;obtain⟨p,c,rfl⟩:=j.q;obtain⟨m,hm⟩:=zzy (fs.length);rw[hm]at j E ⊢;dsimp only at r j;have b7:=turn_kept r.1 eg.o n;have cT:=turn_kept r.1 en.o N;have ft:=r.1.size;obtain⟨q0,q1,q2,q3,f0,f1,f2,f3⟩:=bC b7;obtain⟨w7,Q⟩:=zzx (w6.setCell ⟨t.heap.size,2,Y⟩ (O p m c));have cV:w7.heap[t.heap.size]?=A (r7 #[I U a,I U b,O p m c,O Y 0 0] 52 (0,0)):=by rw[Q,heap_set b7 2];rfl
 have b8:∀x,x≠t.heap.size→w7.heap[x]?=w6.heap[x]?:=fun x i=>by rw[Q,oA _ _ _ _ i]
 have fv:w7.heap.size=w6.heap.size:=by rw[Q];simp[AF]
 have ar:bv W1 R g s3 w7:=by
  rw[Q];have ht:=cA.o.h r;exact⟨bz ht.1 (by have:=bl.o;omega) 2 _,ht.2.set n X 2 _⟩
 obtain⟨cW,eo,er,et,a1,a6,c0⟩:=zz7 ar cV ((b8 _ ad).trans cT) b8 j E Q;obtain⟨HM,c1⟩:=zz2 hm (HD.o w7 ar.2);clear r b7 cT cV ar Q cR HD j E b8 hm;go_upto_region 6 with fail
 rw[←c0.o];clear c0 q0 q1 q2 q3 f0 f1 f2 f3;go_wp2_with fail
 refine c1.o.mono ?_;rintro e w8 ⟨vs,rfl,k,l,G⟩;obtain⟨q,d,rfl⟩:=l.q;obtain⟨m2,b9⟩:=zzy (xs.length);rw[b9]at l G ⊢;dsimp only at k l;have ca:=turn_kept k.1 eo.o n;have c3:=turn_kept k.1 er.o N;have fz:=k.1.size;have e0:=Hd k.1;obtain⟨q0,q1,q2,q3,f0,f1,f2,f3⟩:=bC ca;obtain⟨w9,S⟩:=zzx (w8.setCell ⟨t.heap.size,3,Y⟩ (O q m2 d));have c5:w9.heap[t.heap.size]?=A (r7 #[I U a,I U b,O p m c,O q m2 d] 52 (0,0)):=by rw[S,heap_set ca 3];rfl
 have cb:∀x,x≠t.heap.size→w9.heap[x]?=w8.heap[x]?:=fun x i=>by rw[S,oA _ _ _ _ i]
 have fI:w9.heap.size=w8.heap.size:=by rw[S];simp[AF]
 have ba:bv W1 R g s4 w9:=by
  rw[S];have ht:=cW.o.h k;exact⟨bz ht.1 (by have:=bl.o;omega) 3 _,ht.2.set n X 3 _⟩
 obtain⟨b0,e1,bt,c6,bb,bd,c7⟩:=zz7 ba c5 ((cb _ ad).trans c3) cb l G S;obtain⟨fT,bB⟩:=zz2 b9 (tW ba.2 a b p q m c m2 d);clear k ca c3 c5 ba S c1 l G cb b9;go_upto_region 7 with fail
 rw[←c7.o];clear c7 q0 q1 q2 q3 f0 f1 f2 f3;obtain⟨q0,q1,q2,q3,f0,f1,f2,f3⟩:=bC e1.o;have c8:Hid (I64 0):=(by decide:(-9223372036854775808:Int)≤0∧(0:Int)<9223372036854775808)
 cases B:s4.2 with
 | true =>
  have v:=bB.o;rw[B]at v;simp only[oX]at v;have C:=Hd v;have f:=M.o;rw[B]at f;simp only[oX]at f;obtain⟨K,e2⟩:=zz2 f B;clear v f bB M B;go_wp2_with fail
  refine C.o.mono ?_;rintro e wa ⟨rfl,D⟩;have L:=aa D bt.o (JL.1 bt.o).1;obtain⟨y0,y1,y2,y3,g0,g1,g2,g3⟩:=bC L;obtain⟨cc,cf⟩:=zz2 (GF L) (bv.ahead cl.o (b0.o.C D));clear D L C;go_wp2_with fail
  refine mo Tryz.results62 (by simp[go_sem]) (by simp[go_sem]) Z (cc.o _ _ _ _) ⟨_,_,_,_,Z,by simp[Value.oneCell'],(((cf.o.far H.o (JM _) 0 _).far H.o (JM _) 1 _).far H.o (JM _) 2 _).far H.o (JM _) 3 _,?_⟩;rw[←K.o];exact cY.2 ⟨c8.o,c8.o,_,_,Z,Rd.tk,Rd.tk⟩
 | false =>
  have v:=bB.o;rw[B]at v;simp only[Ka,oF]at v;have C:=Hd v;have f:=M.o;rw[B]at f;simp only[Ka,oF]at f;obtain⟨K,e2⟩:=zz2 f B;clear v f bB M B;go_wp2_with fail
  refine C.o.mono ?_;rintro e wa ⟨rfl,D⟩;have L:=aa D bt.o (JL.1 bt.o).1;obtain⟨y0,y1,y2,y3,g0,g1,g2,g3⟩:=bC L;obtain⟨cc,cf,ch⟩:=zz3 (GF L) (bv.ahead cl.o (b0.o.C D)) D;clear D L C;go_wp2_with fail
  refine mo Tryz.results62 (by simp[go_sem]) (by simp[go_sem]) Z (cc.o _ _ _ _) ⟨_,_,_,_,Z,by simp[Value.oneCell'],(((cf.o.far H.o (JM _) 0 _).far H.o (JM _) 1 _).far H.o (JM _) 2 _).far H.o (JM _) 3 _,?_⟩;rw[←K.o];have e5:=ch.o.size;obtain⟨wz,bR⟩:=zzx ((((wa.setCell ⟨W.heap.size,0,Y⟩ (I U a)).setCell ⟨W.heap.size,1,Y⟩ (I U b)).setCell ⟨W.heap.size,2,Y⟩ (O p m c)).setCell ⟨W.heap.size,3,Y⟩ (O q m2 d));have e6:wz.heap.size=wa.heap.size:=by rw[bR];simp[AF]
  have c9:∀x,w7.heap.size≤x→x<w8.heap.size→wz.heap[x]?=w8.heap[x]?:=fun x h1 h2=>by
   have y:x≠W.heap.size:=by omega
   rw[bR,oA _ _ _ _ y,oA _ _ _ _ y,oA _ _ _ _ y,oA _ _ _ _ y,ch.o.block x (by omega),c6.o x (by omega)]
  have dd:∀x,w5.heap.size≤x→x<w6.heap.size→wz.heap[x]?=w6.heap[x]?:=fun x h1 h2=>by
   have y:x≠W.heap.size:=by omega
   rw[bR,oA _ _ _ _ y,oA _ _ _ _ y,oA _ _ _ _ y,oA _ _ _ _ y,ch.o.block x (by omega),c6.o x (by omega),e0.o.block x (by omega) (by intro e;injection e with e;omega),et.o x (by omega)]
  rw[←bR];have b1:=fun x i=>bb.o.lt (g:=x) i
  have b2:=fun x i=>a1.o.lt (g:=x) i
  refine cY.2 ⟨dg.o,dn.o,_,_,Z,(a1.o.K (F':=fun x=>aW w5 w6 x) (fun x i=>dd x (a6.o x i) (b2 x i)) (fun x i o ho=>(dd x i.1.1 i.1.2).trans ho) (fun x i=>i.1)).h (fun x i=>?_) (fun x i=>?_),
   (bb.o.K (F':=fun x=>aW w7 w8 x) (fun x i=>c9 x (bd.o x i) (b1 x i)) (fun x i o ho=>(c9 x i.1.1 i.1.2).trans ho) (fun x i=>i.1)).h (fun x i=>?_) (fun x i=>?_)⟩
  ·have h1:=i.1;have h2:=i.2;exact⟨by omega,by omega⟩
  ·have h1:=a6.o x i;have h2:=b2 x i;exact⟨by omega,by omega⟩
  ·have h1:=i.1;have h2:=i.2;exact⟨by omega,by omega⟩
  ·have h1:=bd.o x i;have h2:=b1 x i;exact⟨by omega,by omega⟩
end
