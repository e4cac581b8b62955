/- The rule checker: a condition that asks for a fact, or for none; by contract. Condition: as an expression's. Printed by tools/genCond.py. -/
import Derived.Test.YtoonjedifockoaaGreatDoorNH
import Derived.Test.YtoonjedifockoaaGreatDoorNB
namespace Go.Proofs.YtoonjedifockoaaGreatDoor
open Go.IntKind(i64)
open Go.Value(int string slice)
set_option maxHeartbeats 8000000
set_option maxRecDepth 100000
open Go.RowKit
def cf(binds:Bool) (kd:Int) (a:Except Flt Nat) (vars:List ByteArray) (Ts:List ac):Except Flt (List ByteArray×aC):=match a with
 | .error e=>.error e
 | .ok k=>match bG (cX binds) (vars,[]) Ts with
  | .error e=>.error e
  | .ok r=>.ok (r.1,⟨kd,k,r.2,.zero⟩)
theorem nr:Elem 55 42 5 48:=Elem.of (z:=.agg #[int .u8 0,int i64 0,int .u8 0,int i64 0,.string ByteArray.empty]) Tryz.underlying42 (by kernel_rfl) (by kernel_rfl) (by decide) (by decide)
theorem rY{w:World}{F:Nat→Prop}{d:Nat}:cu w F d [] (slice none 0 0):=by
 cases d with
 | zero=>exact⟨rfl,none,0,rfl⟩
 | succ d=>exact Rd.row_nil
def CO:Except Flt (List ByteArray×cg)→cg
 | .ok x=>x.2
 | .error _=>⟨0,0,.zero⟩
theorem A7(x:ByteArray)(l:List ByteArray)(k:Nat)(h:idxOf x l=some k):k<l.length:=by
 have:=(kl x l 0 k h).2;omega
theorem ou{b:Bool}{vars:List ByteArray}{T:ac}{x:List ByteArray×cg}(d:T.text.size≤72007)(a:vars.length≤16)(h:bI b vars T=.ok x):wW x.2∧x.1.length≤16:=by
 have z:kX gY.zero:=⟨⟨by decide,by decide⟩,⟨by decide,by decide⟩,by decide⟩;unfold bI at h
 split at h
 ·injection h with h;subst h;exact⟨⟨show U8 1 from ⟨by decide,by decide⟩,show I64 0 from ⟨by decide,by decide⟩,z⟩,a⟩
 ·split at h
  ·cases c:idxOf T.text vars with
   | some k =>
    rw[c]at h;injection h with h;subst h
    have:=A7 _ _ _ c;exact⟨⟨show U8 3 from ⟨by decide,by decide⟩,⟨by show (-9223372036854775808:Int)≤(k:Int);omega,by show (k:Int)<9223372036854775808;omega⟩,z⟩,a⟩
   | none =>
    rw[c]at h;dsimp only at h
    split at h
    ·cases h
    ·split at h
     ·cases h
     ·injection h with h;subst h
      refine⟨⟨show U8 2 from ⟨by decide,by decide⟩,⟨by show (-9223372036854775808:Int)≤(vars.length:Int);omega,by show (vars.length:Int)<9223372036854775808;omega⟩,z⟩,?_⟩
      show (vars++[T.text]).length≤16
      rw[EO];simp;omega
  ·injection h with h;subst h;exact⟨⟨show U8 4 from ⟨by decide,by decide⟩,show I64 0 from ⟨by decide,by decide⟩,qo T d⟩,a⟩
theorem eH{M:Nat}{vT vR a vC vA:Value}{b:Nat}(vV:Value)(h:aL M [vT,vR,a,vC,vA] b):aL M [vT,vR,vV,vC,vA] b∨a.ownBlock=some b:=by
 rcases h with rfl|⟨v,d,c⟩
 ·exact Or.inl (Or.inl rfl)
 ·simp only[Fh,Ff,oB]at d;rcases d with rfl|rfl|rfl|rfl|rfl
  ·exact Or.inl (Or.inr ⟨_,by simp,c⟩)
  ·exact Or.inl (Or.inr ⟨_,by simp,c⟩)
  ·exact Or.inr c
  ·exact Or.inl (Or.inr ⟨_,by simp,c⟩)
  ·exact Or.inl (Or.inr ⟨_,by simp,c⟩)
def oM(F:Nat→Prop) (d M:Nat) (ts:List ai) (rs:List aj) (vars:List ByteArray) (nm:ByteArray) (sal nv:Int) (cs:List aC) (acs:List aT) (vT vR vV vC vA:Value) (b:Bool) (K:ac) (c W:World):Prop:=
 Chg (aL M [vT,vR,vV,vC,vA]) c W∧∃x a,bI b vars K=.ok x∧MkW F d M ts rs x.1 nm sal nv cs acs vT vR a vC vA W∧Grew vV a c.heap.size
theorem oM.below{F:Nat→Prop}{d M:Nat}{ts:List ai}{rs:List aj}{vars:List ByteArray}{nm:ByteArray}{sal nv:Int}{cs:List aC}{acs:List aT}{vT vR vV vC vA:Value}{b:Bool}{K:ac}{c W W':World}(h:oM F d M ts rs vars nm sal nv cs acs vT vR vV vC vA b K c W)(e:Ft W W'):oM F d M ts rs vars nm sal nv cs acs vT vR vV vC vA b K c W':=by
 obtain⟨f,x,a,g,i,j⟩:=h;exact⟨f.trans (Chg.of_below e),x,a,g,i.below e,j⟩
def nH(F:Nat→Prop) (d M:Nat) (ts:List ai) (rs:List aj) (vars:List ByteArray) (nm:ByteArray) (sal nv:Int) (cs:List aC) (acs:List aT) (vT vR vV vC vA:Value) (T:ac) (k:Int) (w:World) (binds:Bool) (kd:Int) (b:Nat) (Ts:List ac) (n:Nat) (c i:Value) (W:World):Prop:=
 ∃(j:Nat) (vs:List ByteArray) (args:List cg) (v a:Value),j≤n∧i=int i64 (j:Int)∧bG (cX binds) (vars,[]) (Ts.take j)=.ok (vs,args)∧args.length=j∧vs.length≤16∧
  W.heap[w.heap.size+1]?=some (.cells #[int .u8 kd,int i64 b,v,int .u8 0,int .u8 0,int i64 0,string ⟨#[]⟩,int i64 0,int .u8 0,slice none 0 0] 52 (0,0))∧W.heap[w.heap.size]?=some (.cells #[int .u8 k,.string T.text,int i64 T.num,int i64 T.place,c] 76 (0,0))∧
  aX W (fun _=>False) 55 dm args v∧(∀g,v.ownBlock=some g→w.heap.size+2≤g)∧MkW F d M ts rs vs nm sal nv cs acs vT vR a vC vA W∧Grew vV a w.heap.size∧Chg (aL M [vT,vR,vV,vC,vA]) w W
theorem yC(F:Nat→Prop)(d M:Nat)(ts:List ai)(rs:List aj)(vars:List ByteArray)(nm:ByteArray)(sal nv:Int)(cs:List aC)(acs:List aT)(vT vR vV vC vA:Value)(T:ac)(Ts:List ac)(p:Option Addr)(n c B0 dd:Nat)(tr:Except Flt Nat)(w:World)
  (hw:MkW F d M ts rs vars nm sal nv cs acs vT vR vV vC vA w) (hk:T.kind=5) (ks:cs.length≤10000) (kv:vars.length≤16) (ht:Ts.length=n) (hn:n≤10000) (ak:∀k,tr=.ok k→k≤10000)
  (da:aD w B0 (dd+1) Ts (.slice p n c)) (kI:B0≤w.heap.size) (hO:∀b,aL M [vT,vR,vV,vC,vA] b→B0≤b) (br:∀K∈Ts,(K.kind=12∨K.kind=13∨K.kind=14∨K.kind=15)∧K.text.size≤72007)
  (fI:∀W,Ft w W→Calls Tryz.prog 111 #[.pointer (some ⟨M,0,none⟩),.agg #[int .u8 5,.string T.text,int i64 T.num,int i64 T.place,.slice p n c]] W (kY tr kG W)) :
  Calls Tryz.prog 82 #[.pointer (some ⟨M,0,none⟩),.agg #[int .u8 T.kind,.string T.text,int i64 T.num,int i64 T.place,.slice p n c]] w (io F d M ts rs nm sal nv cs acs vT vR vV vC vA (cf true 1 tr vars Ts) w):=by
 rw[hk];obtain⟨C,D,k5⟩:=hw.c.shape;subst k5;obtain⟨nC,fT⟩:=zzy (cs.length);have HN:=Hd fT;rw[fT]at ks;obtain⟨w1,dc⟩:=zzx ((w.alloc (.cells #[int .u8 5,.string T.text,int i64 T.num,int i64 T.place,.slice p n c] 76)).alloc (.cells #[int .u8 0,int i64 0,slice none 0 0,int .u8 0,int .u8 0,int i64 0,string ⟨#[]⟩,int i64 0,int .u8 0,slice none 0 0] 52));obtain⟨bt,bc,_⟩:=am w (.cells #[int .u8 5,.string T.text,int i64 T.num,int i64 T.place,.slice p n c] 76) (.cells #[int .u8 0,int i64 0,slice none 0 0,int .u8 0,int .u8 0,int i64 0,string ⟨#[]⟩,int i64 0,int .u8 0,slice none 0 0] 52);have R:Ft w w1:=by rw[dc];exact ((EB _ w).alloc (EA _) _).alloc (by simp) _
 rw[←dc]at bt bc;have hv:=Hd (fun g S=>hw.c.lt (g:=g) S);have bB:=Hd (fun b u=>hw.own_lt (b:=b) u);have bR:=Hd (fun b (u:F b)=>(hw.f b u).1);have mv:=Hd bt;have k6:=Hd bc;have mA:=Hd R;have mB:=Hd (hw.below R);have mC:Hid (w.heap.size+2≤w1.heap.size):=by
  have h:=(Ez.1 k6.o).1
  show _≤_
  omega
 have gf:=Hd da;have HO:=Hd hO;have gg:=Hd br;have gD:=Hd ht;have mD:=Hd (fun (W:World) (h:Ft w1 W)=>fI W (R.trans (h.mono R.size)));obtain⟨w2,ca⟩:=zzx ((w1.setCell ⟨w.heap.size+1,0,none⟩ (int .u8 1)));have gE:w2.heap[w.heap.size+1]?=some (.cells #[int .u8 1,int i64 0,slice none 0 0,int .u8 0,int .u8 0,int i64 0,string ⟨#[]⟩,int i64 0,int .u8 0,slice none 0 0] 52 (0,0)):=by rw[ca];exact heap_set bc 0 _
 have cc:Ft w w2:=by rw[ca];exact R.setCell (p:=⟨w.heap.size+1,0,none⟩) (EV _) _
 have hy:w2.heap[w.heap.size]?=some (.cells #[int .u8 5,string T.text,int i64 T.num,int i64 T.place,slice p n c] 76 (0,0)):=by rw[ca];rw[ED _ _ _ _ (show w.heap.size≠w.heap.size+1 by omega)];exact bt
 have hz:=Hd gE;have dg:=Hd cc;have gF:=Hd hy;have na:Hid (w.heap.size+2≤w2.heap.size):=by show _≤_;have h:=(Ez.1 gE).1;omega
 have hD:=Hd (fI w2 cc);obtain⟨N,gH⟩:∃N:Nat,N=okN tr:=⟨_,rfl⟩;have k7:Hid (∀k,tr=.ok k→N=k):=fun k h=>by rw[gH,h];rfl
 have nc:N≤10000:=by
  rw[gH]
  cases tr with
  | ok k=>exact ak k rfl
  | error e=>exact EM _
 have k8:=Hd (Chg.of_below (F:=aL M [vT,vR,vV,.slice C cs.length D,vA]) cc);have k9:=Hd (hw.below cc);have nd:=Hd (fun g S=>hw.v.lt (g:=g) S);obtain⟨e0,e1,e2,e3,e4⟩:=cells5 bt;obtain⟨b0,b1,b2,b3,b4,b5,b6,b7,b8,b9⟩:=bw bc;have fz:=bT bc;clear bt bc R hw hk fT da hO fI ak ht gH br gE cc hy
 go_enter Tryz.func82,Tryz.ntmps82
 go_upto_region 6 with fail
 change Code.wp _ _ _ _ ((w.alloc (.cells #[int .u8 5,.string T.text,int i64 T.num,int i64 T.place,.slice p n c] 76)).alloc (.cells #[int .u8 0,int i64 0,slice none 0 0,int .u8 0,int .u8 0,int i64 0,string ⟨#[]⟩,int i64 0,int .u8 0,slice none 0 0] 52));rw[←dc];clear dc;go_upto_region 9 with fail
 change Code.wp _ _ _ _ (w1.setCell ⟨w.heap.size+1,0,none⟩ (int .u8 1));rw[←ca];clear ca e0 e1 e2 e3 e4 b0 b1 b2 b3 b4 b5 b6 b7 b8 b9 fz;obtain⟨e0,e1,e2,e3,e4⟩:=cells5 gF.o;go_wp2_with fail
 refine hD.o.mono ?_;rintro e W3 ⟨bd,he⟩
 cases ak:tr with
 | error er =>
  rw[ak]at he;have he:e=aJ er.1 er.2:=he;subst he;exact⟨rfl,Chg.of_below (dg.o.trans (bd.mono dg.o.size)),rfl⟩
 | ok k =>
 rw[ak]at he;obtain rfl:=k7.o k ak;have he:e=.returned (int i64 (N:Int)):=he;subst he;have hG:=Hd ak;clear he ak;have la:=Hd (dg.o.trans (bd.mono dg.o.size));have dv:=aa bd hz.o (Ez.1 hz.o).1;have hI:=aa bd gF.o (Ez.1 gF.o).1;obtain⟨W4,bk⟩:=zzx (W3.setCell ⟨w.heap.size+1,1,none⟩ (int i64 (N:Int)));have lb:Hid (W4.heap[w.heap.size+1]?=some (.cells #[int .u8 1,int i64 (N:Int),slice none 0 0,int .u8 0,int .u8 0,int i64 0,string ⟨#[]⟩,int i64 0,int .u8 0,slice none 0 0] 52 (0,0))):=by show _=_;rw[bk];exact heap_set dv 1 _
 have hJ:Hid (W4.heap[w.heap.size]?=some (.cells #[int .u8 5,string T.text,int i64 T.num,int i64 T.place,slice p n c] 76 (0,0))):=by show _=_;rw[bk,ED _ _ _ _ (show w.heap.size≠w.heap.size+1 by omega)];exact hI
 have bl:¬aL M [vT,vR,vV,.slice C cs.length D,vA] (w.heap.size+1):=fun ho=>by have:=bB.o _ ho;omega
 have ld:Hid (MkW F d M ts rs vars nm sal nv cs acs vT vR vV (.slice C cs.length D) vA W4):=by
  show MkW _ _ _ _ _ _ _ _ _ _ _ _ _ _ _ _ _
  rw[bk];refine ((k9.o).below bd).upd (by simp[World.setCell]) (fun x hx=>ED _ _ _ _ ?_);rcases hx with hx|hx
  ·have:=bR.o x hx;intro e;simp only at e;omega
  ·intro e;simp only at e;exact bl (e ▸ hx)
 have lf:Hid (Chg (aL M [vT,vR,vV,.slice C cs.length D,vA]) w W4):=by show Chg _ _ _;rw[bk];exact (Chg.of_below la.o).setCell (p:=⟨w.heap.size+1,1,none⟩) (Or.inr (EV _)) _
 obtain⟨b0,b1,b2,b3,b4,b5,b6,b7,b8,b9⟩:=bw dv;have fz:=bT dv;clear e0 e1 e2 e3 e4 bd hI dv bl;go_upto_region 10 with fail
 change Code.wp _ _ _ _ (W3.setCell ⟨w.heap.size+1,1,none⟩ (int i64 (N:Int)));rw[←bk];clear bk b0 b1 b2 b3 b4 b5 b6 b7 b8 b9 fz;obtain⟨e0,e1,e2,e3,e4⟩:=cells5 hJ.o;go_wp2_with fail
 go_loopw [25] (nH F d M ts rs vars nm sal nv cs acs vT vR vV (.slice C cs.length D) vA T 5 w true 1 N Ts n (.slice p n c)) (fun i _=>n-(intOf i).toNat)
 case atStart=>exact⟨0,vars,[],slice none 0 0,vV,EM _,rfl,rfl,rfl,kv,lb.o,hJ.o,aX.nil,(fun g h=>by cases h),ld.o,fun b u=>Or.inl u,lf.o⟩
 case round =>
  obtain⟨j,vs,args,v,U,hj,rfl,ck,hlen,hL,et,cl,I,hM,hN,hP,cq⟩:=hrel;obtain⟨z,B,hQ⟩:=I.shape;rw[hlen]at hQ;subst hQ;have ng:(0:Int)≤j:=by omega
  have t:=Hd et;have a6:=Hd cl;have P:=Hd I;have cr:=Hd hM;have Y:=Hd hN;have ct:=Hd hP;have a7:=Hd cq;have cx:=Hd ck;have cA:=Hd hlen;have ev:Hid (Below B0 w wr):=Chg.to_below (EB B0 w) cq HO.o kI;clear et cl I hM hN hP cq ck hlen e0 e1 e2 e3 e4;obtain⟨e0,e1,e2,e3,e4⟩:=cells5 a6.o
  by_cases lg:j<n
  ·have nn:(j:Int)<n:=by omega
   obtain⟨K,hK⟩:∃K,Ts[j]?=some K:=⟨_,EE (by rw[gD.o];exact lg)⟩;have da:=gf.o.below ev.o;rcases da with ⟨rfl,_⟩|⟨b,off,cap,h1,h2,h3,h4,he,h6⟩
   ·simp at hK
   rw[gD.o]at he;injection he with lo _ l0
   subst lo;subst l0;obtain⟨an,s,c0,c1,c2,c3,c4,br⟩:=h6 j K hK;obtain⟨ps,cR,rfl⟩:=br.slice;obtain⟨nk,hT⟩:=zzy (K.kids.length);rw[hT]at c4;have hX:=Hd ((fL (f:=cX true) hK cx.o).trans (ol true (vs,args) K))
   have l4:=Hd (fun er (h:bI true vs K=.error er)=>gJ (f:=cX true) (l:=Ts) (k:=j+1) (s:=(vars,[])) (e:=er) (by
    rw[hX.o]
    show (match bI true vs K with | .ok r=>_ | .error e=>_)=_
    rw[h]))
   obtain⟨A,hA⟩:=zzx (CO (bI true vs K));have HA:Hid (∀x,bI true vs K=.ok x→x.2=A):=fun x h=>by rw[hA,h];rfl
   have gL:=Hd (fun x (h:bI true vs K=.ok x)=>ou (b:=true) (vars:=vs) (T:=K) (gg.o K (EU hK)).2 hL h);obtain⟨G,ec⟩:=zzx (wr.alloc (.cells #[int .u8 K.kind,.string K.text,int i64 K.num,int i64 K.place,.slice ps nk cR] 76));have V:Ft wr G:=by rw[ec];exact (EB _ wr).alloc (EA _) _
   have cT:G.heap[wr.heap.size]?=some (.cells #[int .u8 K.kind,.string K.text,int i64 K.num,int i64 K.place,.slice ps nk cR] 76 (0,0)):=by rw[ec];exact n7 wr _
   have bn:=Hd V;have nu:=Hd cT;have hY:=Hd (fun (W:World) (hW:Ft G W)=>wI F d M ts rs vs nm sal nv cs acs vT vR U (.slice C cs.length D) vA K ps nk cR true W ((Y.o.below V).below hW) (gg.o K (EU hK)).1 (gg.o K (EU hK)).2 hL);have Q:=aa V t.o (Ez.1 t.o).1;have J:=aa V a6.o (Ez.1 a6.o).1;have gM:=Hd Q;have a8:=Hd J;have gN:=Hd (fun b u=>(Y.o.below V).own_lt (b:=b) u);have bl:¬aL M [vT,vR,U,.slice C cs.length D,vA] (w.heap.size+1):=fun ho=>by
    rcases eH vV ho with h|h
    ·have:=bB.o _ h;omega
    ·exact row_ne Q (Y.o.below V).v (by decide) h
   have gO:¬aL M [vT,vR,U,.slice C cs.length D,vA] w.heap.size:=(Y.o.below V).not_own J (by kernel_rfl);have hZ:¬aL M [vT,vR,U,.slice C cs.length D,vA] wr.heap.size:=(Y.o.below V).not_own cT (by kernel_rfl);have h7:∀g,(slice z j B).ownBlock=some g→¬aL M [vT,vR,U,.slice C cs.length D,vA] g:=fun g S=>by
    obtain⟨ds,h⟩:=P.o.type S;exact Y.o.not_own h (by kernel_rfl)
   have ma:=Hd bl;have h8:=Hd gO;have ih:=Hd h7;have cV:∀g,(slice z j B).ownBlock=some g→g<wr.heap.size:=fun g S=>P.o.lt S
   have ba:=Hd cV;have aq:∀g,(slice z j B).ownBlock=some g→g≠w.heap.size+1∧g≠w.heap.size∧g≠wr.heap.size:=fun g S=>by
    have h1:=cr.o g S;have h2:=cV g S;exact⟨by omega,by omega,by omega⟩
   have bb:=Hd aq;obtain⟨us,y,cW⟩:=P.o;rw[cA.o]at y;have y:wr.ownsRow 0 55 5 (.slice z j B) j us:=y;have gS:=Hd cW;have c5:=Hd (iT y V)
   let AS:World→Prop:=oM F d M ts rs vs nm sal nv cs acs vT vR U (.slice C cs.length D) vA true K G
   let SS:Nat→World→Prop:=fun s W=>if s=0 then (∃x:Wb G,W=x.1) else if s=1 then AS W else ∃O,AS O∧ApS 55 5 O z j B (us++cU A) W
   have ek:SS 0 G.drew:=⟨⟨G.drew,(EB _ _).drew⟩,rfl⟩;have ix:∀(m s:Nat) (W:World),s≤m→SS s W→∃x:Ks G (fun b=>b=w.heap.size+1∨b=w.heap.size∨b=wr.heap.size),W=x.1:=fun m s W _ h=>by
    have l1:=(Ez.1 Q).1;have l2:=(Ez.1 J).1;have l3:=(Ez.1 cT).1;have h0:∀b,(b=w.heap.size+1∨b=w.heap.size∨b=wr.heap.size)→b<G.heap.size∧¬aL M [vT,vR,U,.slice C cs.length D,vA] b∧(slice z j B).ownBlock≠some b:=by
     rintro b (rfl|rfl|rfl)
     ·exact⟨l1,bl,fun e=>(aq _ e).1 rfl⟩
     ·exact⟨l2,gO,fun e=>(aq _ e).2.1 rfl⟩
     ·exact⟨l3,hZ,fun e=>(aq _ e).2.2 rfl⟩
    refine⟨⟨W,fun b u=>?_⟩,rfl⟩;obtain⟨q1,q2,q3⟩:=h0 b u
    by_cases Z:s=0
    ·subst Z;obtain⟨x,rfl⟩:∃x:Wb G,W=x.1:=h;exact x.2.block b q1
    ·by_cases ad:s=1
     ·subst ad;have h:AS W:=h;exact h.1.block b q1 q2
     ·have h:∃O,AS O∧ApS 55 5 O z j B (us++cU A) W:=by
       have h':SS s W:=h
       show ∃O,AS O∧_
       simpa only [SS,n8 Z,n8 ad]using h'
      obtain⟨O,g1,g2⟩:=h;exact (g2.chg.block b (EF q1 g1.1.size) q3).trans (g1.1.block b q1 q2)
   have c6:=Hd ix;obtain⟨k0,k1,k2,k3,k4⟩:=cells5 cT;obtain⟨n0,n1,n2,n3,n4⟩:=cells5 J;obtain⟨x0,x1,x2,x3,x4,x5,x6,x7,x8,x9⟩:=bw Q;have B2:=fun x:Ks G (fun b=>b=w.heap.size+1∨b=w.heap.size∨b=wr.heap.size)=>x.cell (Or.inl rfl) x2
   have N0:=fun x:Ks G (fun b=>b=w.heap.size+1∨b=w.heap.size∨b=wr.heap.size)=>x.cell (Or.inr (Or.inl rfl)) n0
   have K0:=fun x:Ks G (fun b=>b=w.heap.size+1∨b=w.heap.size∨b=wr.heap.size)=>x.cell (Or.inr (Or.inr rfl)) k0
   have K1:=fun x:Ks G (fun b=>b=w.heap.size+1∨b=w.heap.size∨b=wr.heap.size)=>x.cell (Or.inr (Or.inr rfl)) k1
   have K2:=fun x:Ks G (fun b=>b=w.heap.size+1∨b=w.heap.size∨b=wr.heap.size)=>x.cell (Or.inr (Or.inr rfl)) k2
   have K3:=fun x:Ks G (fun b=>b=w.heap.size+1∨b=w.heap.size∨b=wr.heap.size)=>x.cell (Or.inr (Or.inr rfl)) k3
   have K4:=fun x:Ks G (fun b=>b=w.heap.size+1∨b=w.heap.size∨b=wr.heap.size)=>x.cell (Or.inr (Or.inr rfl)) k4
   clear hA V cT Q J bl gO hZ h7 cV aq y cW ix k0 k1 k2 k3 k4 n0 n1 n2 n3 n4 x0 x1 x2 x3 x4 x5 x6 x7 x8 x9 an br h6 h1 h2 h3 h4 hT hK;go_upto_region 13 with fail
   change Code.wp _ _ _ _ (wr.alloc (.cells #[int .u8 K.kind,.string K.text,int i64 K.num,int i64 K.place,.slice ps nk cR] 76));rw[←ec];clear ec c0 c1 c2 c3 c4 e0 e1 e2 e3 e4;refine RP.wp_region_effP (by kernel_rfl) 11 [7,8,9] [7,9] SS (ApR G) (fun i ys=>if i=7 then .agg #[int .u8 A.kind,int i64 A.var,int .u8 A.val.kind,int i64 A.val.num,.string A.val.text] else ys.getD 0 undef)
    (fun i W ys=>if i=7 then (∃x,bI true vs K=.ok x) else if i=8 then One 55 G.heap.size (cU A) W (ys.getD 0 undef) else if i=9 then ApV 55 5 G z j B (us++cU A) W (ys.getD 0 undef) else True)
    (fun ch W=>Chg (aL M [vT,vR,U,.slice C cs.length D,vA]) G W∧∃er,bI true vs K=.error er∧Ending.panicked ch=aJ er.1 er.2) ?_ (by kernel_rfl) ?_ ?_ ek ?_
   ·rintro a ch W hd ⟨hc,er,h1,h2⟩;refine⟨hd,cp (a7.o.trans (Chg.of_below bn.o)) hc (fun x hx=>?_),?_⟩
    ·rcases eH vV hx with h|h
     ·exact Or.inl h
     ·exact (ct.o _ h).imp (fun h=>Or.inr ⟨_,by simp,h⟩) id
    ·show match cf true 1 tr vars Ts with | .ok x=>_ | .error er=>_
     rw[hG.o]
     show match cf true 1 (.ok N) vars Ts with | .ok x=>_ | .error er=>_
     unfold cf;dsimp only;rw[l4.o er h1];exact h2
   ·intro i he hc s W W' h u
    by_cases Z:s=0
    ·subst Z;exact ci h u
    ·by_cases ad:s=1
     ·subst ad;have h:AS W:=h;exact oM.below h u
     ·have h:∃O,AS O∧ApS 55 5 O z j B (us++cU A) W:=by simpa only [SS,n8 Z,n8 ad]using h
      obtain⟨O,g1,g2⟩:=h;have h':∃O,AS O∧ApS 55 5 O z j B (us++cU A) W':=⟨O,g1,g2.below u⟩
      simpa only [SS,n8 Z,n8 ad]using h'
   ·intro k W W' ys h _ hR
    split at h
    ·rw[n9 (by assumption)];exact h
    ·rw[n8 (by assumption)]
     split at h
     ·rw[n9 (by assumption)];exact h.keep hR
     ·rw[n8 (by assumption)]
      split at h
      ·rw[n9 (by assumption)];exact h.keep hR
      ·rw[n8 (by assumption)];trivial
   simp only[EK,ET,EL,ES]
   repeat (refine RP.wpE_read (fun W=>∃x:Ks G (fun b=>b=w.heap.size+1∨b=w.heap.size∨b=wr.heap.size),W=x.1) (c6.o _) rfl rfl rfl ek ?_;go_big_quiet_step (fail);refine wpQuiet_nil ?_)
   refine RP.wpE_turn rfl rfl ?_ (fun iA=>?_)
   ·intro W hC hS hE;obtain⟨x,rfl⟩:∃x:Wb G,W=x.1:=hS rfl;refine RP.uponP_call 112 _ _ rfl (enters_of Tryz.func112 (by kernel_rfl) rfl) #[.pointer (some ⟨M,0,none⟩),.agg #[int .u8 K.kind,.string K.text,int i64 K.num,int i64 K.place,.slice ps nk cR],.bool true] (by simp[Act.eval]) ((hY.o x.1 x.2).mono ?_);rintro e W' ⟨u,he⟩
    cases hr:bI true vs K with
    | error er =>
     rw[hr]at he;have he:e=aJ er.1 er.2:=he;subst he;exact Or.inr ⟨_,rfl,(Chg.of_below x.2).trans u,er,rfl,rfl⟩
    | ok xa =>
     rw[hr]at he;obtain⟨rfl,bq,g1,g2⟩:=he;have mc:=x.2.size;refine Or.inl ⟨_,rfl,[],?_,?_,?_,xa,rfl⟩
     ·show Value.agg (cU xa.2).toArray=.agg (cU A).toArray
      rw[HA.o xa hr]
     ·exact⟨(Chg.of_below x.2).trans u,xa,bq,hr,g1,fun b u=>(g2 b u).imp id (fun h=>EG mc h)⟩
     ·exact ApR.of_chg u gN.o
   simp only[Act.put,EC,EI,EH,Nat.reduceAdd,↓reduceIte];refine RP.wpE_turn rfl rfl ?_ (fun el=>?_)
   ·intro W hC hS hE;have me:G.heap.size≤W.heap.size:=by
     obtain⟨s,_,h⟩:=hC;have h:SS s W:=h
     by_cases Z:s=0
     ·subst Z;obtain⟨x,rfl⟩:∃x:Wb G,W=x.1:=h;exact x.2.size
     ·by_cases ad:s=1
      ·subst ad;have h:AS W:=h;exact h.1.size
      ·have h:∃O,AS O∧ApS 55 5 O z j B (us++cU A) W:=by simpa only [SS,n8 Z,n8 ad]using h
       obtain⟨O,g1,g2⟩:=h;exact EG g1.1.size g2.chg.size
    exact RP.UponP.of (dB nr (vs:=cU A) _ rfl rfl rfl me (fun v W' u ho=>⟨[v],rfl,u,ApR.of_below u,ho⟩))
   simp only[Act.put,EC,EI,EH,Nat.reduceAdd,Nat.reduceEqDiff,↓reduceIte];refine RP.wpE_turn rfl rfl ?_ (fun iB=>?_)
   ·intro W hC hS hE;have hS:AS W:=hS rfl;have y:W.ownsRow 0 55 5 (.slice z j B) j us:=fH c5.o (fun g S=>hS.1.block g (EF (ba.o g S) bn.o.size) (ih.o g S))
    exact RP.UponP.of (uO nr (p:=z) (n:=j) (c:=B) (L:=G.heap.size) (vs:=cU A) (xs:=us) _ _ rfl rfl (hE 8 el (by kernel_rfl) rfl) rfl (by simp[Value.oneCell',cU]) y (by omega) (fun v' W' h1 h2 =>
     ⟨[v'],rfl,⟨W,hS,h1⟩,ApR.of_chg h1.chg (fun b u=>EF (ba.o b u) bn.o.size),h2.from hS.1.size⟩))
   simp only[Act.put,EC,EI,EH,Nat.reduceAdd,Nat.reduceEqDiff,↓reduceIte]
   repeat (refine RP.wpE_read (fun W=>∃x:Ks G (fun b=>b=w.heap.size+1∨b=w.heap.size∨b=wr.heap.size),W=x.1) (c6.o _) rfl rfl rfl ek ?_;go_big_quiet_step (fail);refine wpQuiet_nil ?_)
   refine RP.wpE_nil ?_;intro W hS hE;obtain⟨O,mg,iX⟩:∃O,AS O∧ApS 55 5 O z j B (us++cU A) W:=hS;have hV:ApV 55 5 G z j B (us++cU A) W (iB.getD 0 undef):=hE 9 iB rfl;obtain⟨g',c7,eg,S,hC,I⟩:=wM iX hV;rw[eg];obtain⟨ar,x,bq,en,av,fm⟩:=mg;have gT:=HA.o x en;have an:=gL.o x en;have fr:=bn.o.size;have ha:=gM.o;have i1:w.heap.size+2≤wr.heap.size:=by have:=(Ez.1 t.o).1;omega
   have jj:∀g,(slice z j B).ownBlock=some g→¬aL M [vT,vR,bq,.slice C cs.length D,vA] g:=fun g X=>by
    obtain⟨ds,h⟩:=P.o.type X;have h5:=aa bn.o h (ba.o g X);have h1:=(ar.block g (EF (ba.o g X) fr) (ih.o g X)).trans h5;exact av.not_own h1 (by kernel_rfl)
   have R:O.heap[w.heap.size+1]?=some (.cells #[int .u8 1,int i64 (N:Int),slice z j B,int .u8 0,int .u8 0,int i64 0,string ⟨#[]⟩,int i64 0,int .u8 0,slice none 0 0] 52 (0,0)):=(ar.block _ (Ez.1 ha).1 ma.o).trans ha;have hf:O.heap[w.heap.size]?=some (.cells #[int .u8 5,string T.text,int i64 T.num,int i64 T.place,slice (some ⟨b,off,none⟩) n c] 76 (0,0)):=(ar.block _ (Ez.1 a8.o).1 h8.o).trans a8.o;have c8:W.heap[w.heap.size+1]?=some (.cells #[int .u8 1,int i64 (N:Int),slice z j B,int .u8 0,int .u8 0,int i64 0,string ⟨#[]⟩,int i64 0,int .u8 0,slice none 0 0] 52 (0,0)):=(hC.block _ (Ez.1 R).1 (fun e=>(bb.o _ e).1 rfl)).trans R;have j2:=(hC.block _ (Ez.1 hf).1 (fun e=>(bb.o _ e).2.1 rfl)).trans hf
   have c9:MkW F d M ts rs x.1 nm sal nv cs acs vT vR bq (.slice C cs.length D) vA W:=av.upd hC.size (fun q H=>by
    rcases H with H|H
    ·exact hC.block q (av.f q H).1 (fun e=>by have:=cr.o q e;have:=bR.o q H;omega)
    ·exact hC.block q (av.own_lt H) (fun e=>jj q e H))
   have hh:g'≠w.heap.size+1∧g'≠w.heap.size∧w.heap.size+2≤g':=by
    rcases S with h|h
    ·exact⟨(bb.o g' h).1,(bb.o g' h).2.1,cr.o g' h⟩
    ·exact⟨by omega,by omega,by omega⟩
   have fs:¬aL M [vT,vR,bq,.slice C cs.length D,vA] (w.heap.size+1):=fun ho=>by
    rcases eH vV ho with h|h
    ·have:=bB.o _ h;omega
    ·exact row_ne c8 c9.v (by decide) h
   obtain⟨W6,af⟩:=zzx (W.setCell ⟨w.heap.size+1,2,none⟩ (slice (some ⟨g',0,none⟩) (j+1) c7));have eo:∀q,q≠w.heap.size+1→W6.heap[q]?=W.heap[q]?:=fun q H=>by rw[af];exact ED W ⟨w.heap.size+1,2,none⟩ _ q H
   have fv:W6.heap.size=W.heap.size:=by rw[af];simp[World.setCell]
   have HR:Hid (nH F d M ts rs vars nm sal nv cs acs vT vR vV (.slice C cs.length D) vA T 5 w true 1 N Ts n (slice (some ⟨b,off,none⟩) n c) (int i64 ((j+1:Nat):Int)) W6):=by
    refine⟨j+1,x.1,args++[x.2],slice (some ⟨g',0,none⟩) (j+1) c7,bq,by omega,rfl,?_,by rw[EO,cA.o];rfl,an.2,?_,(eo _ (by omega)).trans j2,?_,?_,?_,?_,?_⟩
    ·rw[hX.o]
     show (match bI true vs K with | .ok r=>_ | .error e=>_)=_
     rw[en]
    ·rw[af];exact heap_set c8 2 _
    ·refine⟨us++cU A,?_,?_⟩
     ·rw[EO,cA.o];exact fH I (fun q H=>by injection H with H;have H:g'=q:=H;subst H;exact eo g' hh.1)
     ·exact Rd.cells_snoc (Rd.cells_keep (fun _ u=>u.elim) gS.o) (by rw[gT];exact eP.2 ⟨rfl,by rw[←gT];exact an.1⟩)
    ·intro g X;injection X with X
     have X:g'=g:=X;subst X;exact hh.2.2
    ·refine c9.upd (by rw[fv];exact EA _) (fun q H=>eo q ?_);rcases H with H|H
     ·have:=bR.o q H;omega
     ·exact fun e=>fs (e ▸ H)
    ·intro q H;rcases fm q H with h|h
     ·exact ct.o q h
     ·exact Or.inr (by omega)
    ·have h1:Chg (aL M [vT,vR,vV,.slice C cs.length D,vA]) w O:=cp (a7.o.trans (Chg.of_below bn.o)) ar (fun x hx=>by
      rcases eH vV hx with h|h
      ·exact Or.inl h
      ·exact (ct.o _ h).imp (fun h=>Or.inr ⟨_,by simp,h⟩) id)
     have h2:Chg (aL M [vT,vR,vV,.slice C cs.length D,vA]) w W:=cp h1 hC (fun x hx=>Or.inr (by have:=cr.o x hx;omega));rw[af];exact h2.setCell (p:=⟨w.heap.size+1,2,none⟩) (Or.inr (EV _)) _
   obtain⟨x0,x1,x2,x3,x4,x5,x6,x7,x8,x9⟩:=bw c8;have fz:=bT c8;clear hE hV eg S hC I ar en av fm gT an fr ha i1 jj R hf c8 j2 c9 hh fs eo fv iX ek B2 N0 K0 K1 K2 K3 K4 x0 x1 x3 x4 x5 x6 x7 x8 x9;go_upto_region 14 with fail
   change Code.wp _ _ _ _ (W.setCell ⟨w.heap.size+1,2,none⟩ (slice (some ⟨g',0,none⟩) (j+1) c7));rw[←af];clear af x2 fz;go_wp2_with fail
   refine⟨HR.o,?_⟩;simp[intOf];omega
  ·have HX:Hid (bG (cX true) (vars,[]) Ts=.ok (vs,args)):=by
    show _=_
    rw[←cx.o,ER (by rw[gD.o];omega)]
   have kc:Hid (cf true 1 tr vars Ts=.ok (vs,⟨1,(N:Int),args,.zero⟩)):=by
    show _=_
    rw[hG.o];unfold cf;dsimp only;rw[HX.o]
   have mu:Hid (w.heap.size≤wr.heap.size):=a7.o.size;have a1:Hid (MkW (fun q=>F q∨(slice z j B).ownBlock=some q) d M ts rs vs nm sal nv cs acs vT vR U (.slice C cs.length D) vA wr):=by
    refine Y.o.grow (fun _ h=>Or.inl h) (fun q H=>?_);rcases H with H|H
    ·exact Y.o.f q H
    ·obtain⟨ds,h⟩:=P.o.type H;exact⟨P.o.lt H,Y.o.not_own h (by kernel_rfl)⟩
   have hi:Hid (dm.row wr (fun q=>F q∨(slice z j B).ownBlock=some q) args (.slice z j B)):=P.o.row (fun _ h=>h.elim) (fun g S=>Or.inr S);clear e0 e1 e2 e3 e4 ev;go_upto_region 17 with fail
   obtain⟨us,y,cW⟩:=a1.o.c;rw[HN.o,dL]at y;have c5:=Hd y;have gS:=Hd cW;have e0:wr.cell? ⟨w.heap.size+1,0,none⟩=some (int .u8 1):=by rw[Fq _ _ _ _ _ _ t.o];rfl
   have e1:wr.cell? ⟨w.heap.size+1,1,none⟩=some (int i64 (N:Int)):=by rw[Fq _ _ _ _ _ _ t.o];rfl
   have e2:wr.cell? ⟨w.heap.size+1,2,none⟩=some (slice z j B):=by rw[Fq _ _ _ _ _ _ t.o];rfl
   have e3:wr.cell? ⟨w.heap.size+1,3,none⟩=some (int .u8 0):=by rw[Fq _ _ _ _ _ _ t.o];rfl
   have e4:wr.cell? ⟨w.heap.size+1,4,none⟩=some (int .u8 0):=by rw[Fq _ _ _ _ _ _ t.o];rfl
   have e5:wr.cell? ⟨w.heap.size+1,5,none⟩=some (int i64 0):=by rw[Fq _ _ _ _ _ _ t.o];rfl
   have e6:wr.cell? ⟨w.heap.size+1,6,none⟩=some (string ⟨#[]⟩):=by rw[Fq _ _ _ _ _ _ t.o];rfl
   have e7:wr.cell? ⟨w.heap.size+1,7,none⟩=some (int i64 0):=by rw[Fq _ _ _ _ _ _ t.o];rfl
   have e8:wr.cell? ⟨w.heap.size+1,8,none⟩=some (int .u8 0):=by rw[Fq _ _ _ _ _ _ t.o];rfl
   have e9:wr.cell? ⟨w.heap.size+1,9,none⟩=some (slice none 0 0):=by rw[Fq _ _ _ _ _ _ t.o];rfl
   have hl:wr.cell? ⟨M,6,none⟩=some (.slice C nC D):=by rw[Fq _ _ _ _ _ _ a1.o.m,←HN.o];rfl
   have hK:∀b,(b=M∨b=w.heap.size+1)→b<wr.heap.size∧(slice C nC D).ownBlock≠some b:=fun b u=>by
    rw[←HN.o];rcases u with rfl|rfl
    ·exact⟨a1.o.lt,row_ne a1.o.m a1.o.c (by decide)⟩
    ·exact⟨(Ez.1 t.o).1,fun e=>by have:=hv.o _ e;omega⟩
   have c6:=Hd (jh (E:=52) (sz:=10) (row:=us++[int .u8 1,int i64 (N:Int),slice z j B,int .u8 0,int .u8 0,int i64 0,string ⟨#[]⟩,int i64 0,int .u8 0,slice none 0 0]) (K:=(fun b=>b=M∨b=w.heap.size+1)) hK);have E0:=fun x:Ks wr (fun b=>b=M∨b=w.heap.size+1)=>x.cell (Or.inr rfl) e0
   have E1:=fun x:Ks wr (fun b=>b=M∨b=w.heap.size+1)=>x.cell (Or.inr rfl) e1
   have E2:=fun x:Ks wr (fun b=>b=M∨b=w.heap.size+1)=>x.cell (Or.inr rfl) e2
   have E3:=fun x:Ks wr (fun b=>b=M∨b=w.heap.size+1)=>x.cell (Or.inr rfl) e3
   have E4:=fun x:Ks wr (fun b=>b=M∨b=w.heap.size+1)=>x.cell (Or.inr rfl) e4
   have E5:=fun x:Ks wr (fun b=>b=M∨b=w.heap.size+1)=>x.cell (Or.inr rfl) e5
   have E6:=fun x:Ks wr (fun b=>b=M∨b=w.heap.size+1)=>x.cell (Or.inr rfl) e6
   have E7:=fun x:Ks wr (fun b=>b=M∨b=w.heap.size+1)=>x.cell (Or.inr rfl) e7
   have E8:=fun x:Ks wr (fun b=>b=M∨b=w.heap.size+1)=>x.cell (Or.inr rfl) e8
   have E9:=fun x:Ks wr (fun b=>b=M∨b=w.heap.size+1)=>x.cell (Or.inr rfl) e9
   have M2:=fun x:Ks wr (fun b=>b=M∨b=w.heap.size+1)=>x.cell (Or.inl rfl) hl
   clear y cW e0 e1 e2 e3 e4 e5 e6 e7 e8 e9 hl hK;refine RE.wp_region_eff (by kernel_rfl) 9 [7,8] [8] (stA 52 10 wr C nC D (us++[int .u8 1,int i64 (N:Int),slice z j B,int .u8 0,int .u8 0,int i64 0,string ⟨#[]⟩,int i64 0,int .u8 0,slice none 0 0])) (ApR wr) (fun _ ys=>ys.getD 0 undef) (phA 52 10 wr C nC D [int .u8 1,int i64 (N:Int),slice z j B,int .u8 0,int .u8 0,int i64 0,string ⟨#[]⟩,int i64 0,int .u8 0,slice none 0 0] (us++[int .u8 1,int i64 (N:Int),slice z j B,int .u8 0,int .u8 0,int i64 0,string ⟨#[]⟩,int i64 0,int .u8 0,slice none 0 0]) 7 8) (by kernel_rfl) (fun _ _ _ _ _ _ h u=>h.below u) (fun _ _ _ _ h _ hR=>h.keep hR) stA.zero ?_;simp only[EK,ET,EL,ES]
   repeat (refine RE.wpE_read (fun W=>∃x:Ks wr (fun b=>b=M∨b=w.heap.size+1),W=x.1) (c6.o _) rfl rfl rfl stA.zero ?_;go_big_quiet_step (fail);refine wpQuiet_nil ?_)
   refine RE.wpE_turn rfl rfl ?_ (fun iA=>?_)
   ·intro W hC hS hE;obtain⟨s9,_,h9⟩:=hC;exact dB iU (vs:=[int .u8 1,int i64 (N:Int),slice z j B,int .u8 0,int .u8 0,int i64 0,string ⟨#[]⟩,int i64 0,int .u8 0,slice none 0 0]) _ rfl rfl rfl h9.size (fun v W' u ho=>⟨[v],rfl,u,ApR.of_below u,ho⟩)
   simp only[Act.put,EC,EI,EH];refine RE.wpE_turn rfl rfl ?_ (fun el=>?_)
   ·intro W hC hS hE;obtain⟨x,rfl⟩:∃x:Wb wr,W=x.1:=hS rfl;exact fZ iU (p:=C) (n:=nC) (c:=D) (w4:=wr) (vs:=[int .u8 1,int i64 (N:Int),slice z j B,int .u8 0,int .u8 0,int i64 0,string ⟨#[]⟩,int i64 0,int .u8 0,slice none 0 0]) (xs:=us) _ _ rfl rfl (hE 7 iA (by kernel_rfl) rfl) rfl (by simp[Value.oneCell']) x.2 c5.o (by omega) (fun v' W' h1 h2 h3=>⟨[v'],rfl,h1,h2,h3⟩)
   simp only[Act.put,EC,EI,EH];refine RE.wpE_nil ?_;intro W hS hE;have hS:ApS 52 10 wr C nC D (us++[int .u8 1,int i64 (N:Int),slice z j B,int .u8 0,int .u8 0,int i64 0,string ⟨#[]⟩,int i64 0,int .u8 0,slice none 0 0]) W:=hS;have hV:ApV 52 10 wr C nC D (us++[int .u8 1,int i64 (N:Int),slice z j B,int .u8 0,int .u8 0,int i64 0,string ⟨#[]⟩,int i64 0,int .u8 0,slice none 0 0]) W (el.getD 0 undef):=hE 8 el rfl;obtain⟨g',cap,eg,S,hC,I⟩:=hU hS hV;rw[eg];have ar:Chg (fun b=>(slice C cs.length D).ownBlock=some b) wr W:=by rw[HN.o];exact hC
   have hp:(slice C cs.length D).ownBlock=some g'∨wr.heap.size≤g':=by rw[HN.o];exact S
   have kn:(bp d).at_ wr (fun q=>F q∨(slice z j B).ownBlock=some q) ⟨1,(N:Int),args,.zero⟩ [int .u8 1,int i64 (N:Int),slice z j B,int .u8 0,int .u8 0,int i64 0,string ⟨#[]⟩,int i64 0,int .u8 0,slice none 0 0]:=dq.2 ⟨show U8 1 from ⟨by decide,by decide⟩,⟨by show (-9223372036854775808:Int)≤(N:Int);omega,by show (N:Int)<9223372036854775808;omega⟩,⟨show U8 0 from ⟨by decide,by decide⟩,⟨show U8 0 from ⟨by decide,by decide⟩,show I64 0 from ⟨by decide,by decide⟩,(show (⟨#[]⟩:ByteArray).size≤maxLen by decide)⟩,show I64 0 from ⟨by decide,by decide⟩,show U8 0 from ⟨by decide,by decide⟩⟩,.slice z j B,slice none 0 0,rfl,hi.o,rY⟩;obtain⟨af,kr,hs⟩:=a1.o.pushC HN.o gS.o kn hp ar (by rw[dL];exact I);have hl:W.cell? ⟨M,6,none⟩=some (.slice C nC D):=by rw[Fq _ _ _ _ _ _ (hs.trans a1.o.m),←HN.o];rfl
   have nx:=ao (hs.trans a1.o.m) 6;have HP:Hid (io F d M ts rs nm sal nv cs acs vT vR vV (.slice C cs.length D) vA (.ok (vs,⟨1,(N:Int),args,.zero⟩)) w (.returned (.bool true)) (W.setCell ⟨M,6,none⟩ (slice (some ⟨g',0,none⟩) (nC+1) cap))):=by
    refine⟨cp a7.o kr (fun x hx=>by rcases eH vV hx with h|h;exact Or.inl h;exact (ct.o _ h).imp (fun h=>Or.inr ⟨_,by simp,h⟩) id),rfl,(fun q=>F q∨(slice z j B).ownBlock=some q),U,_,af,ct.o,fun b u=>?_,fun _ h=>Or.inl h,fun b h=>h.imp id (fun h=>by have:=cr.o b h;omega)⟩
    injection u with u
    have u:g'=b:=u;subst u;rcases hp with h|h
    ·exact Or.inl h
    ·have:=mu.o;exact Or.inr (by omega)
   clear hS hV hE eg S hC I ar hp af kr hs E0 E1 E2 E3 E4 E5 E6 E7 E8 E9 M2 c6 kn;go_wp2_with fail
   go_ret;rw[kc.o];exact HP.o
theorem xW(F:Nat→Prop)(d M:Nat)(ts:List ai)(rs:List aj)(vars:List ByteArray)(nm:ByteArray)(sal nv:Int)(cs:List aC)(acs:List aT)(vT vR vV vC vA:Value)(T:ac)(Ts:List ac)(p:Option Addr)(n c B0 dd:Nat)(tr:Except Flt Nat)(w:World)
  (hw:MkW F d M ts rs vars nm sal nv cs acs vT vR vV vC vA w) (hk:T.kind=6) (ks:cs.length≤10000) (kv:vars.length≤16) (ht:Ts.length=n) (hn:n≤10000) (ak:∀k,tr=.ok k→k≤10000)
  (da:aD w B0 (dd+1) Ts (.slice p n c)) (kI:B0≤w.heap.size) (hO:∀b,aL M [vT,vR,vV,vC,vA] b→B0≤b) (br:∀K∈Ts,(K.kind=12∨K.kind=13∨K.kind=14∨K.kind=15)∧K.text.size≤72007)
  (fI:∀W,Ft w W→Calls Tryz.prog 111 #[.pointer (some ⟨M,0,none⟩),.agg #[int .u8 6,.string T.text,int i64 T.num,int i64 T.place,.slice p n c]] W (kY tr kG W)) :
  Calls Tryz.prog 82 #[.pointer (some ⟨M,0,none⟩),.agg #[int .u8 T.kind,.string T.text,int i64 T.num,int i64 T.place,.slice p n c]] w (io F d M ts rs nm sal nv cs acs vT vR vV vC vA (cf false 2 tr vars Ts) w):=by
 rw[hk];obtain⟨C,D,k5⟩:=hw.c.shape;subst k5;obtain⟨nC,fT⟩:=zzy (cs.length);have HN:=Hd fT;rw[fT]at ks;obtain⟨w1,dc⟩:=zzx ((w.alloc (.cells #[int .u8 6,.string T.text,int i64 T.num,int i64 T.place,.slice p n c] 76)).alloc (.cells #[int .u8 0,int i64 0,slice none 0 0,int .u8 0,int .u8 0,int i64 0,string ⟨#[]⟩,int i64 0,int .u8 0,slice none 0 0] 52));obtain⟨bt,bc,_⟩:=am w (.cells #[int .u8 6,.string T.text,int i64 T.num,int i64 T.place,.slice p n c] 76) (.cells #[int .u8 0,int i64 0,slice none 0 0,int .u8 0,int .u8 0,int i64 0,string ⟨#[]⟩,int i64 0,int .u8 0,slice none 0 0] 52);have R:Ft w w1:=by rw[dc];exact ((EB _ w).alloc (EA _) _).alloc (by simp) _
 rw[←dc]at bt bc;have hv:=Hd (fun g S=>hw.c.lt (g:=g) S);have bB:=Hd (fun b u=>hw.own_lt (b:=b) u);have bR:=Hd (fun b (u:F b)=>(hw.f b u).1);have mv:=Hd bt;have k6:=Hd bc;have mA:=Hd R;have mB:=Hd (hw.below R);have mC:Hid (w.heap.size+2≤w1.heap.size):=by
  have h:=(Ez.1 k6.o).1
  show _≤_
  omega
 have gf:=Hd da;have HO:=Hd hO;have gg:=Hd br;have gD:=Hd ht;have mD:=Hd (fun (W:World) (h:Ft w1 W)=>fI W (R.trans (h.mono R.size)));obtain⟨w2,ca⟩:=zzx (((w1.setCell ⟨w.heap.size+1,0,none⟩ (int .u8 1)).setCell ⟨w.heap.size+1,0,none⟩ (int .u8 2)));have gE:w2.heap[w.heap.size+1]?=some (.cells #[int .u8 2,int i64 0,slice none 0 0,int .u8 0,int .u8 0,int i64 0,string ⟨#[]⟩,int i64 0,int .u8 0,slice none 0 0] 52 (0,0)):=by rw[ca];exact heap_set (heap_set bc 0 _) 0 _
 have cc:Ft w w2:=by rw[ca];exact (R.setCell (p:=⟨w.heap.size+1,0,none⟩) (EV _) _).setCell (p:=⟨w.heap.size+1,0,none⟩) (EV _) _
 have hy:w2.heap[w.heap.size]?=some (.cells #[int .u8 6,string T.text,int i64 T.num,int i64 T.place,slice p n c] 76 (0,0)):=by rw[ca];rw[ED _ _ _ _ (show w.heap.size≠w.heap.size+1 by omega),ED _ _ _ _ (show w.heap.size≠w.heap.size+1 by omega)];exact bt
 have hz:=Hd gE;have dg:=Hd cc;have gF:=Hd hy;have na:Hid (w.heap.size+2≤w2.heap.size):=by show _≤_;have h:=(Ez.1 gE).1;omega
 have hD:=Hd (fI w2 cc);obtain⟨N,gH⟩:∃N:Nat,N=okN tr:=⟨_,rfl⟩;have k7:Hid (∀k,tr=.ok k→N=k):=fun k h=>by rw[gH,h];rfl
 have nc:N≤10000:=by
  rw[gH]
  cases tr with
  | ok k=>exact ak k rfl
  | error e=>exact EM _
 have k8:=Hd (Chg.of_below (F:=aL M [vT,vR,vV,.slice C cs.length D,vA]) cc);have k9:=Hd (hw.below cc);have nd:=Hd (fun g S=>hw.v.lt (g:=g) S);obtain⟨e0,e1,e2,e3,e4⟩:=cells5 bt;obtain⟨b0,b1,b2,b3,b4,b5,b6,b7,b8,b9⟩:=bw bc;have fz:=bT bc;clear bt bc R hw hk fT da hO fI ak ht gH br gE cc hy
 go_enter Tryz.func82,Tryz.ntmps82
 go_upto_region 6 with fail
 change Code.wp _ _ _ _ ((w.alloc (.cells #[int .u8 6,.string T.text,int i64 T.num,int i64 T.place,.slice p n c] 76)).alloc (.cells #[int .u8 0,int i64 0,slice none 0 0,int .u8 0,int .u8 0,int i64 0,string ⟨#[]⟩,int i64 0,int .u8 0,slice none 0 0] 52));rw[←dc];clear dc;go_upto_region 9 with fail
 change Code.wp _ _ _ _ ((w1.setCell ⟨w.heap.size+1,0,none⟩ (int .u8 1)).setCell ⟨w.heap.size+1,0,none⟩ (int .u8 2));rw[←ca];clear ca e0 e1 e2 e3 e4 b0 b1 b2 b3 b4 b5 b6 b7 b8 b9 fz;obtain⟨e0,e1,e2,e3,e4⟩:=cells5 gF.o;go_wp2_with fail
 refine hD.o.mono ?_;rintro e W3 ⟨bd,he⟩
 cases ak:tr with
 | error er =>
  rw[ak]at he;have he:e=aJ er.1 er.2:=he;subst he;exact⟨rfl,Chg.of_below (dg.o.trans (bd.mono dg.o.size)),rfl⟩
 | ok k =>
 rw[ak]at he;obtain rfl:=k7.o k ak;have he:e=.returned (int i64 (N:Int)):=he;subst he;have hG:=Hd ak;clear he ak;have la:=Hd (dg.o.trans (bd.mono dg.o.size));have dv:=aa bd hz.o (Ez.1 hz.o).1;have hI:=aa bd gF.o (Ez.1 gF.o).1;obtain⟨W4,bk⟩:=zzx (W3.setCell ⟨w.heap.size+1,1,none⟩ (int i64 (N:Int)));have lb:Hid (W4.heap[w.heap.size+1]?=some (.cells #[int .u8 2,int i64 (N:Int),slice none 0 0,int .u8 0,int .u8 0,int i64 0,string ⟨#[]⟩,int i64 0,int .u8 0,slice none 0 0] 52 (0,0))):=by show _=_;rw[bk];exact heap_set dv 1 _
 have hJ:Hid (W4.heap[w.heap.size]?=some (.cells #[int .u8 6,string T.text,int i64 T.num,int i64 T.place,slice p n c] 76 (0,0))):=by show _=_;rw[bk,ED _ _ _ _ (show w.heap.size≠w.heap.size+1 by omega)];exact hI
 have bl:¬aL M [vT,vR,vV,.slice C cs.length D,vA] (w.heap.size+1):=fun ho=>by have:=bB.o _ ho;omega
 have ld:Hid (MkW F d M ts rs vars nm sal nv cs acs vT vR vV (.slice C cs.length D) vA W4):=by
  show MkW _ _ _ _ _ _ _ _ _ _ _ _ _ _ _ _ _
  rw[bk];refine ((k9.o).below bd).upd (by simp[World.setCell]) (fun x hx=>ED _ _ _ _ ?_);rcases hx with hx|hx
  ·have:=bR.o x hx;intro e;simp only at e;omega
  ·intro e;simp only at e;exact bl (e ▸ hx)
 have lf:Hid (Chg (aL M [vT,vR,vV,.slice C cs.length D,vA]) w W4):=by show Chg _ _ _;rw[bk];exact (Chg.of_below la.o).setCell (p:=⟨w.heap.size+1,1,none⟩) (Or.inr (EV _)) _
 obtain⟨b0,b1,b2,b3,b4,b5,b6,b7,b8,b9⟩:=bw dv;have fz:=bT dv;clear e0 e1 e2 e3 e4 bd hI dv bl;go_upto_region 10 with fail
 change Code.wp _ _ _ _ (W3.setCell ⟨w.heap.size+1,1,none⟩ (int i64 (N:Int)));rw[←bk];clear bk b0 b1 b2 b3 b4 b5 b6 b7 b8 b9 fz;obtain⟨e0,e1,e2,e3,e4⟩:=cells5 hJ.o;go_wp2_with fail
 go_loopw [25] (nH F d M ts rs vars nm sal nv cs acs vT vR vV (.slice C cs.length D) vA T 6 w false 2 N Ts n (.slice p n c)) (fun i _=>n-(intOf i).toNat)
 case atStart=>exact⟨0,vars,[],slice none 0 0,vV,EM _,rfl,rfl,rfl,kv,lb.o,hJ.o,aX.nil,(fun g h=>by cases h),ld.o,fun b u=>Or.inl u,lf.o⟩
 case round =>
  obtain⟨j,vs,args,v,U,hj,rfl,ck,hlen,hL,et,cl,I,hM,hN,hP,cq⟩:=hrel;obtain⟨z,B,hQ⟩:=I.shape;rw[hlen]at hQ;subst hQ;have ng:(0:Int)≤j:=by omega
  have t:=Hd et;have a6:=Hd cl;have P:=Hd I;have cr:=Hd hM;have Y:=Hd hN;have ct:=Hd hP;have a7:=Hd cq;have cx:=Hd ck;have cA:=Hd hlen;have ev:Hid (Below B0 w wr):=Chg.to_below (EB B0 w) cq HO.o kI;clear et cl I hM hN hP cq ck hlen e0 e1 e2 e3 e4;obtain⟨e0,e1,e2,e3,e4⟩:=cells5 a6.o
  by_cases lg:j<n
  ·have nn:(j:Int)<n:=by omega
   obtain⟨K,hK⟩:∃K,Ts[j]?=some K:=⟨_,EE (by rw[gD.o];exact lg)⟩;have da:=gf.o.below ev.o;rcases da with ⟨rfl,_⟩|⟨b,off,cap,h1,h2,h3,h4,he,h6⟩
   ·simp at hK
   rw[gD.o]at he;injection he with lo _ l0
   subst lo;subst l0;obtain⟨an,s,c0,c1,c2,c3,c4,br⟩:=h6 j K hK;obtain⟨ps,cR,rfl⟩:=br.slice;obtain⟨nk,hT⟩:=zzy (K.kids.length);rw[hT]at c4;have hX:=Hd ((fL (f:=cX false) hK cx.o).trans (ol false (vs,args) K))
   have l4:=Hd (fun er (h:bI false vs K=.error er)=>gJ (f:=cX false) (l:=Ts) (k:=j+1) (s:=(vars,[])) (e:=er) (by
    rw[hX.o]
    show (match bI false vs K with | .ok r=>_ | .error e=>_)=_
    rw[h]))
   obtain⟨A,hA⟩:=zzx (CO (bI false vs K));have HA:Hid (∀x,bI false vs K=.ok x→x.2=A):=fun x h=>by rw[hA,h];rfl
   have gL:=Hd (fun x (h:bI false vs K=.ok x)=>ou (b:=false) (vars:=vs) (T:=K) (gg.o K (EU hK)).2 hL h);obtain⟨G,ec⟩:=zzx (wr.alloc (.cells #[int .u8 K.kind,.string K.text,int i64 K.num,int i64 K.place,.slice ps nk cR] 76));have V:Ft wr G:=by rw[ec];exact (EB _ wr).alloc (EA _) _
   have cT:G.heap[wr.heap.size]?=some (.cells #[int .u8 K.kind,.string K.text,int i64 K.num,int i64 K.place,.slice ps nk cR] 76 (0,0)):=by rw[ec];exact n7 wr _
   have bn:=Hd V;have nu:=Hd cT;have hY:=Hd (fun (W:World) (hW:Ft G W)=>wI F d M ts rs vs nm sal nv cs acs vT vR U (.slice C cs.length D) vA K ps nk cR false W ((Y.o.below V).below hW) (gg.o K (EU hK)).1 (gg.o K (EU hK)).2 hL);have Q:=aa V t.o (Ez.1 t.o).1;have J:=aa V a6.o (Ez.1 a6.o).1;have gM:=Hd Q;have a8:=Hd J;have gN:=Hd (fun b u=>(Y.o.below V).own_lt (b:=b) u);have bl:¬aL M [vT,vR,U,.slice C cs.length D,vA] (w.heap.size+1):=fun ho=>by
    rcases eH vV ho with h|h
    ·have:=bB.o _ h;omega
    ·exact row_ne Q (Y.o.below V).v (by decide) h
   have gO:¬aL M [vT,vR,U,.slice C cs.length D,vA] w.heap.size:=(Y.o.below V).not_own J (by kernel_rfl);have hZ:¬aL M [vT,vR,U,.slice C cs.length D,vA] wr.heap.size:=(Y.o.below V).not_own cT (by kernel_rfl);have h7:∀g,(slice z j B).ownBlock=some g→¬aL M [vT,vR,U,.slice C cs.length D,vA] g:=fun g S=>by
    obtain⟨ds,h⟩:=P.o.type S;exact Y.o.not_own h (by kernel_rfl)
   have ma:=Hd bl;have h8:=Hd gO;have ih:=Hd h7;have cV:∀g,(slice z j B).ownBlock=some g→g<wr.heap.size:=fun g S=>P.o.lt S
   have ba:=Hd cV;have aq:∀g,(slice z j B).ownBlock=some g→g≠w.heap.size+1∧g≠w.heap.size∧g≠wr.heap.size:=fun g S=>by
    have h1:=cr.o g S;have h2:=cV g S;exact⟨by omega,by omega,by omega⟩
   have bb:=Hd aq;obtain⟨us,y,cW⟩:=P.o;rw[cA.o]at y;have y:wr.ownsRow 0 55 5 (.slice z j B) j us:=y;have gS:=Hd cW;have c5:=Hd (iT y V)
   let AS:World→Prop:=oM F d M ts rs vs nm sal nv cs acs vT vR U (.slice C cs.length D) vA false K G
   let SS:Nat→World→Prop:=fun s W=>if s=0 then (∃x:Wb G,W=x.1) else if s=1 then AS W else ∃O,AS O∧ApS 55 5 O z j B (us++cU A) W
   have ek:SS 0 G.drew:=⟨⟨G.drew,(EB _ _).drew⟩,rfl⟩;have ix:∀(m s:Nat) (W:World),s≤m→SS s W→∃x:Ks G (fun b=>b=w.heap.size+1∨b=w.heap.size∨b=wr.heap.size),W=x.1:=fun m s W _ h=>by
    have l1:=(Ez.1 Q).1;have l2:=(Ez.1 J).1;have l3:=(Ez.1 cT).1;have h0:∀b,(b=w.heap.size+1∨b=w.heap.size∨b=wr.heap.size)→b<G.heap.size∧¬aL M [vT,vR,U,.slice C cs.length D,vA] b∧(slice z j B).ownBlock≠some b:=by
     rintro b (rfl|rfl|rfl)
     ·exact⟨l1,bl,fun e=>(aq _ e).1 rfl⟩
     ·exact⟨l2,gO,fun e=>(aq _ e).2.1 rfl⟩
     ·exact⟨l3,hZ,fun e=>(aq _ e).2.2 rfl⟩
    refine⟨⟨W,fun b u=>?_⟩,rfl⟩;obtain⟨q1,q2,q3⟩:=h0 b u
    by_cases Z:s=0
    ·subst Z;obtain⟨x,rfl⟩:∃x:Wb G,W=x.1:=h;exact x.2.block b q1
    ·by_cases ad:s=1
     ·subst ad;have h:AS W:=h;exact h.1.block b q1 q2
     ·have h:∃O,AS O∧ApS 55 5 O z j B (us++cU A) W:=by
       have h':SS s W:=h
       show ∃O,AS O∧_
       simpa only [SS,n8 Z,n8 ad]using h'
      obtain⟨O,g1,g2⟩:=h;exact (g2.chg.block b (EF q1 g1.1.size) q3).trans (g1.1.block b q1 q2)
   have c6:=Hd ix;obtain⟨k0,k1,k2,k3,k4⟩:=cells5 cT;obtain⟨n0,n1,n2,n3,n4⟩:=cells5 J;obtain⟨x0,x1,x2,x3,x4,x5,x6,x7,x8,x9⟩:=bw Q;have B2:=fun x:Ks G (fun b=>b=w.heap.size+1∨b=w.heap.size∨b=wr.heap.size)=>x.cell (Or.inl rfl) x2
   have N0:=fun x:Ks G (fun b=>b=w.heap.size+1∨b=w.heap.size∨b=wr.heap.size)=>x.cell (Or.inr (Or.inl rfl)) n0
   have K0:=fun x:Ks G (fun b=>b=w.heap.size+1∨b=w.heap.size∨b=wr.heap.size)=>x.cell (Or.inr (Or.inr rfl)) k0
   have K1:=fun x:Ks G (fun b=>b=w.heap.size+1∨b=w.heap.size∨b=wr.heap.size)=>x.cell (Or.inr (Or.inr rfl)) k1
   have K2:=fun x:Ks G (fun b=>b=w.heap.size+1∨b=w.heap.size∨b=wr.heap.size)=>x.cell (Or.inr (Or.inr rfl)) k2
   have K3:=fun x:Ks G (fun b=>b=w.heap.size+1∨b=w.heap.size∨b=wr.heap.size)=>x.cell (Or.inr (Or.inr rfl)) k3
   have K4:=fun x:Ks G (fun b=>b=w.heap.size+1∨b=w.heap.size∨b=wr.heap.size)=>x.cell (Or.inr (Or.inr rfl)) k4
   clear hA V cT Q J bl gO hZ h7 cV aq y cW ix k0 k1 k2 k3 k4 n0 n1 n2 n3 n4 x0 x1 x2 x3 x4 x5 x6 x7 x8 x9 an br h6 h1 h2 h3 h4 hT hK;go_upto_region 13 with fail
   change Code.wp _ _ _ _ (wr.alloc (.cells #[int .u8 K.kind,.string K.text,int i64 K.num,int i64 K.place,.slice ps nk cR] 76));rw[←ec];clear ec c0 c1 c2 c3 c4 e0 e1 e2 e3 e4;refine RP.wp_region_effP (by kernel_rfl) 11 [7,8,9] [7,9] SS (ApR G) (fun i ys=>if i=7 then .agg #[int .u8 A.kind,int i64 A.var,int .u8 A.val.kind,int i64 A.val.num,.string A.val.text] else ys.getD 0 undef)
    (fun i W ys=>if i=7 then (∃x,bI false vs K=.ok x) else if i=8 then One 55 G.heap.size (cU A) W (ys.getD 0 undef) else if i=9 then ApV 55 5 G z j B (us++cU A) W (ys.getD 0 undef) else True)
    (fun ch W=>Chg (aL M [vT,vR,U,.slice C cs.length D,vA]) G W∧∃er,bI false vs K=.error er∧Ending.panicked ch=aJ er.1 er.2) ?_ (by kernel_rfl) ?_ ?_ ek ?_
   ·rintro a ch W hd ⟨hc,er,h1,h2⟩;refine⟨hd,cp (a7.o.trans (Chg.of_below bn.o)) hc (fun x hx=>?_),?_⟩
    ·rcases eH vV hx with h|h
     ·exact Or.inl h
     ·exact (ct.o _ h).imp (fun h=>Or.inr ⟨_,by simp,h⟩) id
    ·show match cf false 2 tr vars Ts with | .ok x=>_ | .error er=>_
     rw[hG.o]
     show match cf false 2 (.ok N) vars Ts with | .ok x=>_ | .error er=>_
     unfold cf;dsimp only;rw[l4.o er h1];exact h2
   ·intro i he hc s W W' h u
    by_cases Z:s=0
    ·subst Z;exact ci h u
    ·by_cases ad:s=1
     ·subst ad;have h:AS W:=h;exact oM.below h u
     ·have h:∃O,AS O∧ApS 55 5 O z j B (us++cU A) W:=by simpa only [SS,n8 Z,n8 ad]using h
      obtain⟨O,g1,g2⟩:=h;have h':∃O,AS O∧ApS 55 5 O z j B (us++cU A) W':=⟨O,g1,g2.below u⟩
      simpa only [SS,n8 Z,n8 ad]using h'
   ·intro k W W' ys h _ hR
    split at h
    ·rw[n9 (by assumption)];exact h
    ·rw[n8 (by assumption)]
     split at h
     ·rw[n9 (by assumption)];exact h.keep hR
     ·rw[n8 (by assumption)]
      split at h
      ·rw[n9 (by assumption)];exact h.keep hR
      ·rw[n8 (by assumption)];trivial
   simp only[EK,ET,EL,ES]
   repeat (refine RP.wpE_read (fun W=>∃x:Ks G (fun b=>b=w.heap.size+1∨b=w.heap.size∨b=wr.heap.size),W=x.1) (c6.o _) rfl rfl rfl ek ?_;go_big_quiet_step (fail);refine wpQuiet_nil ?_)
   refine RP.wpE_turn rfl rfl ?_ (fun iA=>?_)
   ·intro W hC hS hE;obtain⟨x,rfl⟩:∃x:Wb G,W=x.1:=hS rfl;refine RP.uponP_call 112 _ _ rfl (enters_of Tryz.func112 (by kernel_rfl) rfl) #[.pointer (some ⟨M,0,none⟩),.agg #[int .u8 K.kind,.string K.text,int i64 K.num,int i64 K.place,.slice ps nk cR],.bool false] (by simp[Act.eval]) ((hY.o x.1 x.2).mono ?_);rintro e W' ⟨u,he⟩
    cases hr:bI false vs K with
    | error er =>
     rw[hr]at he;have he:e=aJ er.1 er.2:=he;subst he;exact Or.inr ⟨_,rfl,(Chg.of_below x.2).trans u,er,rfl,rfl⟩
    | ok xa =>
     rw[hr]at he;obtain⟨rfl,bq,g1,g2⟩:=he;have mc:=x.2.size;refine Or.inl ⟨_,rfl,[],?_,?_,?_,xa,rfl⟩
     ·show Value.agg (cU xa.2).toArray=.agg (cU A).toArray
      rw[HA.o xa hr]
     ·exact⟨(Chg.of_below x.2).trans u,xa,bq,hr,g1,fun b u=>(g2 b u).imp id (fun h=>EG mc h)⟩
     ·exact ApR.of_chg u gN.o
   simp only[Act.put,EC,EI,EH,Nat.reduceAdd,↓reduceIte];refine RP.wpE_turn rfl rfl ?_ (fun el=>?_)
   ·intro W hC hS hE;have me:G.heap.size≤W.heap.size:=by
     obtain⟨s,_,h⟩:=hC;have h:SS s W:=h
     by_cases Z:s=0
     ·subst Z;obtain⟨x,rfl⟩:∃x:Wb G,W=x.1:=h;exact x.2.size
     ·by_cases ad:s=1
      ·subst ad;have h:AS W:=h;exact h.1.size
      ·have h:∃O,AS O∧ApS 55 5 O z j B (us++cU A) W:=by simpa only [SS,n8 Z,n8 ad]using h
       obtain⟨O,g1,g2⟩:=h;exact EG g1.1.size g2.chg.size
    exact RP.UponP.of (dB nr (vs:=cU A) _ rfl rfl rfl me (fun v W' u ho=>⟨[v],rfl,u,ApR.of_below u,ho⟩))
   simp only[Act.put,EC,EI,EH,Nat.reduceAdd,Nat.reduceEqDiff,↓reduceIte];refine RP.wpE_turn rfl rfl ?_ (fun iB=>?_)
   ·intro W hC hS hE;have hS:AS W:=hS rfl;have y:W.ownsRow 0 55 5 (.slice z j B) j us:=fH c5.o (fun g S=>hS.1.block g (EF (ba.o g S) bn.o.size) (ih.o g S))
    exact RP.UponP.of (uO nr (p:=z) (n:=j) (c:=B) (L:=G.heap.size) (vs:=cU A) (xs:=us) _ _ rfl rfl (hE 8 el (by kernel_rfl) rfl) rfl (by simp[Value.oneCell',cU]) y (by omega) (fun v' W' h1 h2 =>
     ⟨[v'],rfl,⟨W,hS,h1⟩,ApR.of_chg h1.chg (fun b u=>EF (ba.o b u) bn.o.size),h2.from hS.1.size⟩))
   simp only[Act.put,EC,EI,EH,Nat.reduceAdd,Nat.reduceEqDiff,↓reduceIte]
   repeat (refine RP.wpE_read (fun W=>∃x:Ks G (fun b=>b=w.heap.size+1∨b=w.heap.size∨b=wr.heap.size),W=x.1) (c6.o _) rfl rfl rfl ek ?_;go_big_quiet_step (fail);refine wpQuiet_nil ?_)
   refine RP.wpE_nil ?_;intro W hS hE;obtain⟨O,mg,iX⟩:∃O,AS O∧ApS 55 5 O z j B (us++cU A) W:=hS;have hV:ApV 55 5 G z j B (us++cU A) W (iB.getD 0 undef):=hE 9 iB rfl;obtain⟨g',c7,eg,S,hC,I⟩:=wM iX hV;rw[eg];obtain⟨ar,x,bq,en,av,fm⟩:=mg;have gT:=HA.o x en;have an:=gL.o x en;have fr:=bn.o.size;have ha:=gM.o;have i1:w.heap.size+2≤wr.heap.size:=by have:=(Ez.1 t.o).1;omega
   have jj:∀g,(slice z j B).ownBlock=some g→¬aL M [vT,vR,bq,.slice C cs.length D,vA] g:=fun g X=>by
    obtain⟨ds,h⟩:=P.o.type X;have h5:=aa bn.o h (ba.o g X);have h1:=(ar.block g (EF (ba.o g X) fr) (ih.o g X)).trans h5;exact av.not_own h1 (by kernel_rfl)
   have R:O.heap[w.heap.size+1]?=some (.cells #[int .u8 2,int i64 (N:Int),slice z j B,int .u8 0,int .u8 0,int i64 0,string ⟨#[]⟩,int i64 0,int .u8 0,slice none 0 0] 52 (0,0)):=(ar.block _ (Ez.1 ha).1 ma.o).trans ha;have hf:O.heap[w.heap.size]?=some (.cells #[int .u8 6,string T.text,int i64 T.num,int i64 T.place,slice (some ⟨b,off,none⟩) n c] 76 (0,0)):=(ar.block _ (Ez.1 a8.o).1 h8.o).trans a8.o;have c8:W.heap[w.heap.size+1]?=some (.cells #[int .u8 2,int i64 (N:Int),slice z j B,int .u8 0,int .u8 0,int i64 0,string ⟨#[]⟩,int i64 0,int .u8 0,slice none 0 0] 52 (0,0)):=(hC.block _ (Ez.1 R).1 (fun e=>(bb.o _ e).1 rfl)).trans R;have j2:=(hC.block _ (Ez.1 hf).1 (fun e=>(bb.o _ e).2.1 rfl)).trans hf
   have c9:MkW F d M ts rs x.1 nm sal nv cs acs vT vR bq (.slice C cs.length D) vA W:=av.upd hC.size (fun q H=>by
    rcases H with H|H
    ·exact hC.block q (av.f q H).1 (fun e=>by have:=cr.o q e;have:=bR.o q H;omega)
    ·exact hC.block q (av.own_lt H) (fun e=>jj q e H))
   have hh:g'≠w.heap.size+1∧g'≠w.heap.size∧w.heap.size+2≤g':=by
    rcases S with h|h
    ·exact⟨(bb.o g' h).1,(bb.o g' h).2.1,cr.o g' h⟩
    ·exact⟨by omega,by omega,by omega⟩
   have fs:¬aL M [vT,vR,bq,.slice C cs.length D,vA] (w.heap.size+1):=fun ho=>by
    rcases eH vV ho with h|h
    ·have:=bB.o _ h;omega
    ·exact row_ne c8 c9.v (by decide) h
   obtain⟨W6,af⟩:=zzx (W.setCell ⟨w.heap.size+1,2,none⟩ (slice (some ⟨g',0,none⟩) (j+1) c7));have eo:∀q,q≠w.heap.size+1→W6.heap[q]?=W.heap[q]?:=fun q H=>by rw[af];exact ED W ⟨w.heap.size+1,2,none⟩ _ q H
   have fv:W6.heap.size=W.heap.size:=by rw[af];simp[World.setCell]
   have HR:Hid (nH F d M ts rs vars nm sal nv cs acs vT vR vV (.slice C cs.length D) vA T 6 w false 2 N Ts n (slice (some ⟨b,off,none⟩) n c) (int i64 ((j+1:Nat):Int)) W6):=by
    refine⟨j+1,x.1,args++[x.2],slice (some ⟨g',0,none⟩) (j+1) c7,bq,by omega,rfl,?_,by rw[EO,cA.o];rfl,an.2,?_,(eo _ (by omega)).trans j2,?_,?_,?_,?_,?_⟩
    ·rw[hX.o]
     show (match bI false vs K with | .ok r=>_ | .error e=>_)=_
     rw[en]
    ·rw[af];exact heap_set c8 2 _
    ·refine⟨us++cU A,?_,?_⟩
     ·rw[EO,cA.o];exact fH I (fun q H=>by injection H with H;have H:g'=q:=H;subst H;exact eo g' hh.1)
     ·exact Rd.cells_snoc (Rd.cells_keep (fun _ u=>u.elim) gS.o) (by rw[gT];exact eP.2 ⟨rfl,by rw[←gT];exact an.1⟩)
    ·intro g X;injection X with X
     have X:g'=g:=X;subst X;exact hh.2.2
    ·refine c9.upd (by rw[fv];exact EA _) (fun q H=>eo q ?_);rcases H with H|H
     ·have:=bR.o q H;omega
     ·exact fun e=>fs (e ▸ H)
    ·intro q H;rcases fm q H with h|h
     ·exact ct.o q h
     ·exact Or.inr (by omega)
    ·have h1:Chg (aL M [vT,vR,vV,.slice C cs.length D,vA]) w O:=cp (a7.o.trans (Chg.of_below bn.o)) ar (fun x hx=>by
      rcases eH vV hx with h|h
      ·exact Or.inl h
      ·exact (ct.o _ h).imp (fun h=>Or.inr ⟨_,by simp,h⟩) id)
     have h2:Chg (aL M [vT,vR,vV,.slice C cs.length D,vA]) w W:=cp h1 hC (fun x hx=>Or.inr (by have:=cr.o x hx;omega));rw[af];exact h2.setCell (p:=⟨w.heap.size+1,2,none⟩) (Or.inr (EV _)) _
   obtain⟨x0,x1,x2,x3,x4,x5,x6,x7,x8,x9⟩:=bw c8;have fz:=bT c8;clear hE hV eg S hC I ar en av fm gT an fr ha i1 jj R hf c8 j2 c9 hh fs eo fv iX ek B2 N0 K0 K1 K2 K3 K4 x0 x1 x3 x4 x5 x6 x7 x8 x9;go_upto_region 14 with fail
   change Code.wp _ _ _ _ (W.setCell ⟨w.heap.size+1,2,none⟩ (slice (some ⟨g',0,none⟩) (j+1) c7));rw[←af];clear af x2 fz;go_wp2_with fail
   refine⟨HR.o,?_⟩;simp[intOf];omega
  ·have HX:Hid (bG (cX false) (vars,[]) Ts=.ok (vs,args)):=by
    show _=_
    rw[←cx.o,ER (by rw[gD.o];omega)]
   have kc:Hid (cf false 2 tr vars Ts=.ok (vs,⟨2,(N:Int),args,.zero⟩)):=by
    show _=_
    rw[hG.o];unfold cf;dsimp only;rw[HX.o]
   have mu:Hid (w.heap.size≤wr.heap.size):=a7.o.size;have a1:Hid (MkW (fun q=>F q∨(slice z j B).ownBlock=some q) d M ts rs vs nm sal nv cs acs vT vR U (.slice C cs.length D) vA wr):=by
    refine Y.o.grow (fun _ h=>Or.inl h) (fun q H=>?_);rcases H with H|H
    ·exact Y.o.f q H
    ·obtain⟨ds,h⟩:=P.o.type H;exact⟨P.o.lt H,Y.o.not_own h (by kernel_rfl)⟩
   have hi:Hid (dm.row wr (fun q=>F q∨(slice z j B).ownBlock=some q) args (.slice z j B)):=P.o.row (fun _ h=>h.elim) (fun g S=>Or.inr S);clear e0 e1 e2 e3 e4 ev;go_upto_region 17 with fail
   obtain⟨us,y,cW⟩:=a1.o.c;rw[HN.o,dL]at y;have c5:=Hd y;have gS:=Hd cW;have e0:wr.cell? ⟨w.heap.size+1,0,none⟩=some (int .u8 2):=by rw[Fq _ _ _ _ _ _ t.o];rfl
   have e1:wr.cell? ⟨w.heap.size+1,1,none⟩=some (int i64 (N:Int)):=by rw[Fq _ _ _ _ _ _ t.o];rfl
   have e2:wr.cell? ⟨w.heap.size+1,2,none⟩=some (slice z j B):=by rw[Fq _ _ _ _ _ _ t.o];rfl
   have e3:wr.cell? ⟨w.heap.size+1,3,none⟩=some (int .u8 0):=by rw[Fq _ _ _ _ _ _ t.o];rfl
   have e4:wr.cell? ⟨w.heap.size+1,4,none⟩=some (int .u8 0):=by rw[Fq _ _ _ _ _ _ t.o];rfl
   have e5:wr.cell? ⟨w.heap.size+1,5,none⟩=some (int i64 0):=by rw[Fq _ _ _ _ _ _ t.o];rfl
   have e6:wr.cell? ⟨w.heap.size+1,6,none⟩=some (string ⟨#[]⟩):=by rw[Fq _ _ _ _ _ _ t.o];rfl
   have e7:wr.cell? ⟨w.heap.size+1,7,none⟩=some (int i64 0):=by rw[Fq _ _ _ _ _ _ t.o];rfl
   have e8:wr.cell? ⟨w.heap.size+1,8,none⟩=some (int .u8 0):=by rw[Fq _ _ _ _ _ _ t.o];rfl
   have e9:wr.cell? ⟨w.heap.size+1,9,none⟩=some (slice none 0 0):=by rw[Fq _ _ _ _ _ _ t.o];rfl
   have hl:wr.cell? ⟨M,6,none⟩=some (.slice C nC D):=by rw[Fq _ _ _ _ _ _ a1.o.m,←HN.o];rfl
   have hK:∀b,(b=M∨b=w.heap.size+1)→b<wr.heap.size∧(slice C nC D).ownBlock≠some b:=fun b u=>by
    rw[←HN.o];rcases u with rfl|rfl
    ·exact⟨a1.o.lt,row_ne a1.o.m a1.o.c (by decide)⟩
    ·exact⟨(Ez.1 t.o).1,fun e=>by have:=hv.o _ e;omega⟩
   have c6:=Hd (jh (E:=52) (sz:=10) (row:=us++[int .u8 2,int i64 (N:Int),slice z j B,int .u8 0,int .u8 0,int i64 0,string ⟨#[]⟩,int i64 0,int .u8 0,slice none 0 0]) (K:=(fun b=>b=M∨b=w.heap.size+1)) hK);have E0:=fun x:Ks wr (fun b=>b=M∨b=w.heap.size+1)=>x.cell (Or.inr rfl) e0
   have E1:=fun x:Ks wr (fun b=>b=M∨b=w.heap.size+1)=>x.cell (Or.inr rfl) e1
   have E2:=fun x:Ks wr (fun b=>b=M∨b=w.heap.size+1)=>x.cell (Or.inr rfl) e2
   have E3:=fun x:Ks wr (fun b=>b=M∨b=w.heap.size+1)=>x.cell (Or.inr rfl) e3
   have E4:=fun x:Ks wr (fun b=>b=M∨b=w.heap.size+1)=>x.cell (Or.inr rfl) e4
   have E5:=fun x:Ks wr (fun b=>b=M∨b=w.heap.size+1)=>x.cell (Or.inr rfl) e5
   have E6:=fun x:Ks wr (fun b=>b=M∨b=w.heap.size+1)=>x.cell (Or.inr rfl) e6
   have E7:=fun x:Ks wr (fun b=>b=M∨b=w.heap.size+1)=>x.cell (Or.inr rfl) e7
   have E8:=fun x:Ks wr (fun b=>b=M∨b=w.heap.size+1)=>x.cell (Or.inr rfl) e8
   have E9:=fun x:Ks wr (fun b=>b=M∨b=w.heap.size+1)=>x.cell (Or.inr rfl) e9
   have M2:=fun x:Ks wr (fun b=>b=M∨b=w.heap.size+1)=>x.cell (Or.inl rfl) hl
   clear y cW e0 e1 e2 e3 e4 e5 e6 e7 e8 e9 hl hK;refine RE.wp_region_eff (by kernel_rfl) 9 [7,8] [8] (stA 52 10 wr C nC D (us++[int .u8 2,int i64 (N:Int),slice z j B,int .u8 0,int .u8 0,int i64 0,string ⟨#[]⟩,int i64 0,int .u8 0,slice none 0 0])) (ApR wr) (fun _ ys=>ys.getD 0 undef) (phA 52 10 wr C nC D [int .u8 2,int i64 (N:Int),slice z j B,int .u8 0,int .u8 0,int i64 0,string ⟨#[]⟩,int i64 0,int .u8 0,slice none 0 0] (us++[int .u8 2,int i64 (N:Int),slice z j B,int .u8 0,int .u8 0,int i64 0,string ⟨#[]⟩,int i64 0,int .u8 0,slice none 0 0]) 7 8) (by kernel_rfl) (fun _ _ _ _ _ _ h u=>h.below u) (fun _ _ _ _ h _ hR=>h.keep hR) stA.zero ?_;simp only[EK,ET,EL,ES]
   repeat (refine RE.wpE_read (fun W=>∃x:Ks wr (fun b=>b=M∨b=w.heap.size+1),W=x.1) (c6.o _) rfl rfl rfl stA.zero ?_;go_big_quiet_step (fail);refine wpQuiet_nil ?_)
   refine RE.wpE_turn rfl rfl ?_ (fun iA=>?_)
   ·intro W hC hS hE;obtain⟨s9,_,h9⟩:=hC;exact dB iU (vs:=[int .u8 2,int i64 (N:Int),slice z j B,int .u8 0,int .u8 0,int i64 0,string ⟨#[]⟩,int i64 0,int .u8 0,slice none 0 0]) _ rfl rfl rfl h9.size (fun v W' u ho=>⟨[v],rfl,u,ApR.of_below u,ho⟩)
   simp only[Act.put,EC,EI,EH];refine RE.wpE_turn rfl rfl ?_ (fun el=>?_)
   ·intro W hC hS hE;obtain⟨x,rfl⟩:∃x:Wb wr,W=x.1:=hS rfl;exact fZ iU (p:=C) (n:=nC) (c:=D) (w4:=wr) (vs:=[int .u8 2,int i64 (N:Int),slice z j B,int .u8 0,int .u8 0,int i64 0,string ⟨#[]⟩,int i64 0,int .u8 0,slice none 0 0]) (xs:=us) _ _ rfl rfl (hE 7 iA (by kernel_rfl) rfl) rfl (by simp[Value.oneCell']) x.2 c5.o (by omega) (fun v' W' h1 h2 h3=>⟨[v'],rfl,h1,h2,h3⟩)
   simp only[Act.put,EC,EI,EH];refine RE.wpE_nil ?_;intro W hS hE;have hS:ApS 52 10 wr C nC D (us++[int .u8 2,int i64 (N:Int),slice z j B,int .u8 0,int .u8 0,int i64 0,string ⟨#[]⟩,int i64 0,int .u8 0,slice none 0 0]) W:=hS;have hV:ApV 52 10 wr C nC D (us++[int .u8 2,int i64 (N:Int),slice z j B,int .u8 0,int .u8 0,int i64 0,string ⟨#[]⟩,int i64 0,int .u8 0,slice none 0 0]) W (el.getD 0 undef):=hE 8 el rfl;obtain⟨g',cap,eg,S,hC,I⟩:=hU hS hV;rw[eg];have ar:Chg (fun b=>(slice C cs.length D).ownBlock=some b) wr W:=by rw[HN.o];exact hC
   have hp:(slice C cs.length D).ownBlock=some g'∨wr.heap.size≤g':=by rw[HN.o];exact S
   have kn:(bp d).at_ wr (fun q=>F q∨(slice z j B).ownBlock=some q) ⟨2,(N:Int),args,.zero⟩ [int .u8 2,int i64 (N:Int),slice z j B,int .u8 0,int .u8 0,int i64 0,string ⟨#[]⟩,int i64 0,int .u8 0,slice none 0 0]:=dq.2 ⟨show U8 2 from ⟨by decide,by decide⟩,⟨by show (-9223372036854775808:Int)≤(N:Int);omega,by show (N:Int)<9223372036854775808;omega⟩,⟨show U8 0 from ⟨by decide,by decide⟩,⟨show U8 0 from ⟨by decide,by decide⟩,show I64 0 from ⟨by decide,by decide⟩,(show (⟨#[]⟩:ByteArray).size≤maxLen by decide)⟩,show I64 0 from ⟨by decide,by decide⟩,show U8 0 from ⟨by decide,by decide⟩⟩,.slice z j B,slice none 0 0,rfl,hi.o,rY⟩;obtain⟨af,kr,hs⟩:=a1.o.pushC HN.o gS.o kn hp ar (by rw[dL];exact I);have hl:W.cell? ⟨M,6,none⟩=some (.slice C nC D):=by rw[Fq _ _ _ _ _ _ (hs.trans a1.o.m),←HN.o];rfl
   have nx:=ao (hs.trans a1.o.m) 6;have HP:Hid (io F d M ts rs nm sal nv cs acs vT vR vV (.slice C cs.length D) vA (.ok (vs,⟨2,(N:Int),args,.zero⟩)) w (.returned (.bool true)) (W.setCell ⟨M,6,none⟩ (slice (some ⟨g',0,none⟩) (nC+1) cap))):=by
    refine⟨cp a7.o kr (fun x hx=>by rcases eH vV hx with h|h;exact Or.inl h;exact (ct.o _ h).imp (fun h=>Or.inr ⟨_,by simp,h⟩) id),rfl,(fun q=>F q∨(slice z j B).ownBlock=some q),U,_,af,ct.o,fun b u=>?_,fun _ h=>Or.inl h,fun b h=>h.imp id (fun h=>by have:=cr.o b h;omega)⟩
    injection u with u
    have u:g'=b:=u;subst u;rcases hp with h|h
    ·exact Or.inl h
    ·have:=mu.o;exact Or.inr (by omega)
   clear hS hV hE eg S hC I ar hp af kr hs E0 E1 E2 E3 E4 E5 E6 E7 E8 E9 M2 c6 kn;go_wp2_with fail
   go_ret;rw[kc.o];exact HP.o
