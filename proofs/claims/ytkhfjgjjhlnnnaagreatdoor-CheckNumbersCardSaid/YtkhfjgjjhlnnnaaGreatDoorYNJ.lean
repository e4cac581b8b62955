/- The rule checker: a condition that asks for a fact, or for none; by contract. Condition: as an expression's. Printed by tools/genCond.py. -/
import Derived.Test.YtkhfjgjjhlnnnaaGreatDoorYNH
import Derived.Test.YtkhfjgjjhlnnnaaGreatDoorYNB
open Except renaming error→BT,ok→AF
open Go.Value renaming agg→xS,int→I,string→J,slice→A,pointer→xV,bool→AJ
open Go.IntKind renaming u8→O,i64→Z
open Go renaming World→wD,Value→wF,undef→At,wpQuiet_nil→Bk
open Option renaming none→U,some→Y
open Or renaming inl→z6,inr→z7
open Go.Obj renaming cells→wq
namespace Go.Proofs.YtkhfjgjjhlnnnaaGreatDoor
set_option maxHeartbeats 8000000
set_option maxRecDepth 100000
open Go.RowKit
def dX(binds:Bool) (kd:Int) (a:Except Flt Nat) (vars:List ByteArray) (Ts:List ab):Except Flt (List ByteArray×aW):=match a with
 | .error e=>BT e
 | .ok k=>match aG (bU binds) (vars,[]) Ts with
  | .error e=>BT e
  | .ok r=>AF (r.1,⟨kd,k,r.2,.zero⟩)
theorem rk:Elem 67 54 5 48:=Elem.of (z:=xS #[I O 0,I Z 0,I O 0,I Z 0,J ByteArray.empty]) Tryz.underlying54 (by kernel_rfl) (by kernel_rfl) (by decide) (by decide)
theorem ou{w:wD}{F:Nat→Prop}{d:Nat}:cZ w F d [] (A U 0 0):=by
 cases d with
 | zero=>exact⟨V,U,0,V⟩
 | succ d=>exact Rd.vn
def EG:Except Flt (List ByteArray×dw)→dw
 | .ok x=>x.2
 | .error _=>⟨0,0,.zero⟩
theorem og(x:ByteArray)(l:List ByteArray)(k:Nat)(h:idxOf x l=Y k):k<l.length:=by
 have:=(jg x l 0 k h).2;omega
theorem wJ{b:Bool}{vars:List ByteArray}{T:ab}{x:List ByteArray×dw}(d:T.f.size≤72007)(a:vars.length≤16)(h:bD b vars T=AF x):kN x.2∧x.1.length≤16:=by
 have z:kM jA.zero:=⟨⟨by decide,by decide⟩,⟨by decide,by decide⟩,by decide⟩;unfold bD at h
 split at h
 ·injection h with h;subst h;exact⟨⟨show U8 1 from ⟨by decide,by decide⟩,show I64 0 from ⟨by decide,by decide⟩,z⟩,a⟩
 ·split at h
  ·cases c:idxOf T.f vars with
   | some k =>
    rw[c]at h;injection h with h;subst h
    have:=og _ _ _ c;exact⟨⟨show U8 3 from ⟨by decide,by decide⟩,⟨by show (-9223372036854775808:Int)≤(k:Int);omega,by show (k:Int)<9223372036854775808;omega⟩,z⟩,a⟩
   | none =>
    rw[c]at h;dsimp only at h
    split at h
    ·cases h
    ·split at h
     ·cases h
     ·injection h with h;subst h
      refine⟨⟨show U8 2 from ⟨by decide,by decide⟩,⟨by show (-9223372036854775808:Int)≤(vars.length:Int);omega,by show (vars.length:Int)<9223372036854775808;omega⟩,z⟩,?_⟩
      show (vars++[T.f]).length≤16
      rw[Fc];simp;omega
  ·injection h with h;subst h;exact⟨⟨show U8 4 from ⟨by decide,by decide⟩,show I64 0 from ⟨by decide,by decide⟩,kE T d⟩,a⟩
theorem kg{M:Nat}{vT vR a vC vA:wF}{b:Nat}(vV:wF)(h:bj M [vT,vR,a,vC,vA] b):bj M [vT,vR,vV,vC,vA] b∨a.ownBlock=Y b:=by
 rcases h with rfl|⟨v,d,c⟩
 ·exact z6 (z6 V)
 ·simp only[FA,Fy,sI]at d;rcases d with rfl|rfl|rfl|rfl|rfl
  ·exact z6 (z7 ⟨_,by simp,c⟩)
  ·exact z6 (z7 ⟨_,by simp,c⟩)
  ·exact z7 c
  ·exact z6 (z7 ⟨_,by simp,c⟩)
  ·exact z6 (z7 ⟨_,by simp,c⟩)
def ub(F:Nat→Prop) (d M:Nat) (ts:List ae) (rs:List an) (vars:List ByteArray) (nm:ByteArray) (sal nv:Int) (cs:List aW) (acs:List bW) (vT vR vV vC vA:wF) (b:Bool) (K:ab) (c W:wD):Prop:=
 Chg (bj M [vT,vR,vV,vC,vA]) c W∧∃x a,bD b vars K=AF x∧MkW F d M ts rs x.1 nm sal nv cs acs vT vR a vC vA W∧Grew vV a c.heap.size
theorem ub.z{F:Nat→Prop}{d M:Nat}{ts:List ae}{rs:List an}{vars:List ByteArray}{nm:ByteArray}{sal nv:Int}{cs:List aW}{acs:List bW}{vT vR vV vC vA:wF}{b:Bool}{K:ab}{c W W':wD}(h:ub F d M ts rs vars nm sal nv cs acs vT vR vV vC vA b K c W)(e:FK W W'):ub F d M ts rs vars nm sal nv cs acs vT vR vV vC vA b K c W':=by
 obtain⟨f,x,a,g,i,j⟩:=h;exact⟨f.b (Chg.f e),x,a,g,i.z e,j⟩
def xt(F:Nat→Prop) (d M:Nat) (ts:List ae) (rs:List an) (vars:List ByteArray) (nm:ByteArray) (sal nv:Int) (cs:List aW) (acs:List bW) (vT vR vV vC vA:wF) (T:ab) (k:Int) (w:wD) (binds:Bool) (kd:Int) (b:Nat) (Ts:List ab) (n:Nat) (c i:wF) (W:wD):Prop:=
 ∃(j:Nat) (vs:List ByteArray) (args:List dw) (v a:wF),j≤n∧i=I Z (j:Int)∧aG (bU binds) (vars,[]) (Ts.take j)=AF (vs,args)∧args.length=j∧vs.length≤16∧
  W.heap[w.heap.size+1]?=Y (wq #[I O kd,I Z b,v,I O 0,I O 0,I Z 0,J ⟨#[]⟩,I Z 0,I O 0,A U 0 0] 64 (0,0))∧W.heap[w.heap.size]?=Y (wq #[I O k,J T.f,I Z T.h,I Z T.y,c] 25 (0,0))∧
  aH W (fun _=>False) 67 gn args v∧(∀g,v.ownBlock=Y g→w.heap.size+2≤g)∧MkW F d M ts rs vs nm sal nv cs acs vT vR a vC vA W∧Grew vV a w.heap.size∧Chg (bj M [vT,vR,vV,vC,vA]) w W
theorem sw(kd R:Int)(bi:Bool)(gD:kd=5∧R=1∧bi=true∨kd=6∧R=2∧bi=false)(F:Nat→Prop)(d M:Nat)(ts:List ae)(rs:List an)(vars:List ByteArray)(nm:ByteArray)(sal nv:Int)(cs:List aW)(acs:List bW)(vT vR vV vC vA:wF)(T:ab)(Ts:List ab)(p:Option Addr)(n c B0 dd:Nat)(tr:Except Flt Nat)(w:wD)
  (hw:MkW F d M ts rs vars nm sal nv cs acs vT vR vV vC vA w) (hk:T.b=kd) (k9:cs.length≤10000) (la:vars.length≤16) (hJ:Ts.length=n) (hn:n≤10000) (bb:∀k,tr=AF k→k≤10000)
  (ec:ao w B0 (dd+1) Ts (A p n c)) (lb:B0≤w.heap.size) (hO:∀b,bj M [vT,vR,vV,vC,vA] b→B0≤b) (cr:∀K∈Ts,(K.b=12∨K.b=13∨K.b=14∨K.b=15)∧K.f.size≤72007)
  (gE:∀W,FK w W→Calls Tryz.prog 74 #[xV (Y ⟨M,0,U⟩),xS #[I O kd,J T.f,I Z T.h,I Z T.y,A p n c]] W (oH tr lZ W)) :
  Calls Tryz.prog 43 #[xV (Y ⟨M,0,U⟩),xS #[I O T.b,J T.f,I Z T.h,I Z T.y,A p n c]] w (kY F d M ts rs nm sal nv cs acs vT vR vV vC vA (dX bi R tr vars Ts) w):=by
 rw[hk];obtain⟨C,D,ld⟩:=hw.c.b;subst ld;obtain⟨nC,gF⟩:=zzy (cs.length);have HN:=Hd gF;rw[gF]at k9;obtain⟨w1,ek⟩:=zzx ((w.alloc (wq #[I O kd,J T.f,I Z T.h,I Z T.y,A p n c] 25)).alloc (wq #[I O 0,I Z 0,A U 0 0,I O 0,I O 0,I Z 0,J ⟨#[]⟩,I Z 0,I O 0,A U 0 0] 64));obtain⟨el,ct,_⟩:=ap w (wq #[I O kd,J T.f,I Z T.h,I Z T.y,A p n c] 25) (wq #[I O 0,I Z 0,A U 0 0,I O 0,I O 0,I Z 0,J ⟨#[]⟩,I Z 0,I O 0,A U 0 0] 64);have ar:FK w w1:=by rw[ek];exact ((EP _ w).alloc (EO _) _).alloc (by simp) _
 rw[←ek]at el ct;obtain⟨hL,cu⟩:=zz2 (fun g hg=>hw.c.lt (g:=g) hg) (fun b u=>hw.b (b:=b) u);have cx:=Hd (fun b (u:F b)=>(hw.f b u).1);obtain⟨hM,gH,hN,nr⟩:=zz4 el ct ar (hw.z ar);have nt:Hid (w.heap.size+2≤w1.heap.size):=by
  have h:=(EN.1 gH.o).1
  show _≤_
  omega
 obtain⟨gL,HO,gM,gN,nu⟩:=zz5 ec hO cr hJ (fun (W:wD) (h:FK w1 W)=>gE W (ar.trans (h.mono ar.size)));obtain⟨Q,gO⟩:∃Q:Nat,Q=okN tr:=⟨_,rfl⟩;have lf:Hid (∀k,tr=AF k→Q=k):=fun k h=>by rw[gO,h];rfl
 have nx:Q≤10000:=by
  rw[gO]
  cases tr with
  | ok k=>exact bb k V
  | error e=>exact Fa _
 have nA:=Hd (fun g hg=>hw.v.lt (g:=g) hg);obtain⟨e0,e1,e2,e3,e4⟩:=cells5 el;obtain⟨b0,b1,b2,b3,b4,b5,b6,b7,b8,b9⟩:=cL ct;have fz:=aE ct;obtain⟨hP,fp⟩:=zz2 hw gE;have nR:(kd==5)=bi:=by rcases gD with ⟨rfl,_,rfl⟩|⟨rfl,_,rfl⟩<;>rfl
 have gS:=Hd gD;clear el ct ar hw hk gF ec hO gE bb hJ gO cr gD
 go_enter Tryz.func43,Tryz.ntmps43
 go_upto_region 2 with fail
 change Code.wp _ _ _ _ ((w.alloc (wq #[I O kd,J T.f,I Z T.h,I Z T.y,A p n c] 25)).alloc (wq #[I O 0,I Z 0,A U 0 0,I O 0,I O 0,I Z 0,J ⟨#[]⟩,I Z 0,I O 0,A U 0 0] 64));rw[←ek];clear ek
 go_upto_if 10 with fail
 go_cut [10] from 11 to 12 (fun v W=>v=AJ true∧w1=W)
 case first =>
  rcases gS.o with ⟨rfl,rfl,rfl⟩|⟨rfl,rfl,rfl⟩
  all_goals
   go_wp2_with fail
   go_meet
   case rel=>exact⟨V,V⟩
 case rest =>
 obtain⟨rfl,rfl⟩:=hcut
 go_upto_if 16 with fail
 go_cut [] from 17 to 17 (fun W=>W.heap[w.heap.size+1]?=Y (wq #[I O R,I Z 0,A U 0 0,I O 0,I O 0,I Z 0,J ⟨#[]⟩,I Z 0,I O 0,A U 0 0] 64 (0,0))∧FK w W∧W.heap[w.heap.size]?=Y (wq #[I O kd,J T.f,I Z T.h,I Z T.y,A p n c] 25 (0,0)))
 case first =>
  rcases gS.o with ⟨rfl,rfl,rfl⟩|⟨rfl,rfl,rfl⟩
  ·go_wp2_with fail
   go_meet
   case rel=>exact⟨heap_set gH.o 0 _,hN.o.setCell (p:=⟨w.heap.size+1,0,U⟩) (Fl _) _,aK hM.o (by omega) _ _⟩
  ·go_wp2_with fail
   go_meet
   case rel=>exact⟨heap_set (heap_set gH.o 0 _) 0 _,(hN.o.setCell (p:=⟨w.heap.size+1,0,U⟩) (Fl _) _).setCell (p:=⟨w.heap.size+1,0,U⟩) (Fl _) _,aK (aK hM.o (by omega) _ _) (by omega) _ _⟩
 case rest =>
 obtain⟨gT,cA,hQ⟩:=hcut;obtain⟨hT,en,ha⟩:=zz3 gT cA hQ;have nT:Hid (w.heap.size+2≤wc.heap.size):=by show _≤_;have h:=(EN.1 gT).1;omega
 obtain⟨hX,lg,lo⟩:=zz3 (fp.o wc cA) (Chg.f (F:=bj M [vT,vR,vV,A C cs.length D,vA]) cA) (hP.o.z cA);clear gT cA hQ hP fp e0 e1 e2 e3 e4 b0 b1 b2 b3 b4 b5 b6 b7 b8 b9 fz;obtain⟨e0,e1,e2,e3,e4⟩:=cells5 ha.o;go_wp2_with fail
 refine hX.o.mono ?_;rintro e W3 ⟨ca,he⟩
 cases bb:tr with
 | error er =>
  rw[bb]at he;have he:e=aU er.1 er.2:=he;subst he;exact⟨V,Chg.f (en.o.trans (ca.mono en.o.size)),V⟩
 | ok k =>
 rw[bb]at he;obtain rfl:=lf.o k bb;have he:e=Ending.returned (I Z (Q:Int)):=he;subst he;have hY:=Hd bb;clear he bb;have l0:=Hd (en.o.trans (ca.mono en.o.size));have eo:=aa ca hT.o (EN.1 hT.o).1;have h7:=aa ca ha.o (EN.1 ha.o).1;obtain⟨W4,cb⟩:=zzx (W3.setCell ⟨w.heap.size+1,1,U⟩ (I Z (Q:Int)));have l4:Hid (W4.heap[w.heap.size+1]?=Y (wq #[I O R,I Z (Q:Int),A U 0 0,I O 0,I O 0,I Z 0,J ⟨#[]⟩,I Z 0,I O 0,A U 0 0] 64 (0,0))):=by show _=_;rw[cb];exact heap_set eo 1 _
 have h8:Hid (W4.heap[w.heap.size]?=Y (wq #[I O kd,J T.f,I Z T.h,I Z T.y,A p n c] 25 (0,0))):=by show _=_;rw[cb,ER _ _ _ _ (show w.heap.size≠w.heap.size+1 by omega)];exact h7
 have cc:¬bj M [vT,vR,vV,A C cs.length D,vA] (w.heap.size+1):=fun ho=>by have:=cu.o _ ho;omega
 have ma:Hid (MkW F d M ts rs vars nm sal nv cs acs vT vR vV (A C cs.length D) vA W4):=by
  show MkW _ _ _ _ _ _ _ _ _ _ _ _ _ _ _ _ _
  rw[cb];refine ((lo.o).z ca).upd (by simp[World.setCell]) (fun x hx=>ER _ _ _ _ ?_);rcases hx with hx|hx
  ·have:=cx.o x hx;intro e;simp only at e;omega
  ·intro e;simp only at e;exact cc (e ▸ hx)
 have mc:Hid (Chg (bj M [vT,vR,vV,A C cs.length D,vA]) w W4):=by show Chg _ _ _;rw[cb];exact (Chg.f l0.o).y (p:=⟨w.heap.size+1,1,U⟩) (z7 (Fl _)) _
 obtain⟨b0,b1,b2,b3,b4,b5,b6,b7,b8,b9⟩:=cL eo;have fz:=aE eo;clear e0 e1 e2 e3 e4 ca h7 eo cc;go_upto_region 10 with fail
 change Code.wp _ _ _ _ (W3.setCell ⟨w.heap.size+1,1,U⟩ (I Z (Q:Int)));rw[←cb];clear cb b0 b1 b2 b3 b4 b5 b6 b7 b8 b9 fz;obtain⟨e0,e1,e2,e3,e4⟩:=cells5 h8.o;go_wp2_with fail
 go_loopw [25] (xt F d M ts rs vars nm sal nv cs acs vT vR vV (A C cs.length D) vA T kd w bi R Q Ts n (A p n c)) (fun i _=>n-(intOf i).toNat)
 case atStart=>exact⟨0,vars,[],A U 0 0,vV,Fa _,V,V,V,la,l4.o,h8.o,aH.nil,(fun g h=>by cases h),ma.o,fun b u=>z6 u,mc.o⟩
 case round =>
  obtain⟨j,vs,args,v,af,hj,rfl,cR,hlen,ih,fv,cT,N,iv,ix,iA,cV⟩:=hrel;obtain⟨z,B,iB⟩:=N.b;rw[hlen]at iB;subst iB;have n5:(0:Int)≤j:=by omega
  obtain⟨t,bq,X,cW,av,c5,br⟩:=zz7 fv cT N iv ix iA cV;obtain⟨c6,c7⟩:=zz2 cR hlen;have fI:Hid (Below B0 w wr):=Chg.C (EP B0 w) cV HO.o lb;clear fv cT N iv ix iA cV cR hlen e0 e1 e2 e3 e4;obtain⟨e0,e1,e2,e3,e4⟩:=cells5 bq.o
  by_cases mn:j<n
  ·have n7:(j:Int)<n:=by omega
   obtain⟨K,hK⟩:∃K,Ts[j]?=Y K:=⟨_,ES (by rw[gN.o];exact mn)⟩;have ec:=gL.o.z fI.o;rcases ec with ⟨rfl,_⟩|⟨b,off,cap,h1,h2,h3,h4,he,h6⟩
   ·simp at hK
   rw[gN.o]at he;injection he with mu _ mv
   subst mu;subst mv;obtain⟨bc,s,c0,c1,c2,c3,c4,cr⟩:=h6 j K hK;obtain⟨ps,c8,rfl⟩:=cr.f;obtain⟨nk,iX⟩:=zzy (K.u.length);rw[iX]at c4;have i1:=Hd ((gA (f:=bU bi) hK c6.o).trans (pq bi (vs,args) K))
   have na:=Hd (fun er (h:bD bi vs K=BT er)=>gB (f:=bU bi) (l:=Ts) (k:=j+1) (s:=(vars,[])) (e:=er) (by
    rw[i1.o]
    show (match bD bi vs K with | .ok r=>_ | .error e=>_)=_
    rw[h]))
   obtain⟨ak,hA⟩:=zzx (EG (bD bi vs K));have HA:Hid (∀x,bD bi vs K=AF x→x.2=ak):=fun x h=>by rw[hA,h];rfl
   have hf:=Hd (fun x (h:bD bi vs K=AF x)=>wJ (b:=bi) (vars:=vs) (T:=K) (gM.o K (Fj hK)).2 ih h);obtain⟨G,ep⟩:=zzx (wr.alloc (wq #[I O K.b,J K.f,I Z K.h,I Z K.y,A ps nk c8] 25));have al:FK wr G:=by rw[ep];exact (EP _ wr).alloc (EO _) _
   have c9:G.heap[wr.heap.size]?=Y (wq #[I O K.b,J K.f,I Z K.h,I Z K.y,A ps nk c8] 25 (0,0)):=by rw[ep];exact p9 wr _
   obtain⟨cl,n8,jj⟩:=zz3 al c9 (fun (W:wD) (hW:FK G W)=>Dn F d M ts rs vs nm sal nv cs acs vT vR af (A C cs.length D) vA K ps nk c8 bi W ((av.o.z al).z hW) (gM.o K (Fj hK)).1 (gM.o K (Fj hK)).2 ih);have ad:=aa al t.o (EN.1 t.o).1;have P:=aa al bq.o (EN.1 bq.o).1;obtain⟨hh,bt,hi⟩:=zz3 ad P (fun b u=>(av.o.z al).b (b:=b) u);have cc:¬bj M [vT,vR,af,A C cs.length D,vA] (w.heap.size+1):=fun ho=>by
    rcases kg vV ho with h|h
    ·have:=cu.o _ h;omega
    ·exact row_ne ad (av.o.z al).v (by decide) h
   have hl:¬bj M [vT,vR,af,A C cs.length D,vA] w.heap.size:=(av.o.z al).h P (by kernel_rfl);have jo:¬bj M [vT,vR,af,A C cs.length D,vA] wr.heap.size:=(av.o.z al).h c9 (by kernel_rfl);have jv:∀g,(A z j B).ownBlock=Y g→¬bj M [vT,vR,af,A C cs.length D,vA] g:=fun g hg=>by
    obtain⟨ds,h⟩:=X.o.f hg;exact av.o.h h (by kernel_rfl)
   obtain⟨nb,j2,kc⟩:=zz3 cc hl jv;have da:∀g,(A z j B).ownBlock=Y g→g<wr.heap.size:=fun g hg=>X.o.lt hg
   have bB:=Hd da;have bd:∀g,(A z j B).ownBlock=Y g→g≠w.heap.size+1∧g≠w.heap.size∧g≠wr.heap.size:=fun g hg=>by
    have h1:=cW.o g hg;have h2:=da g hg;exact⟨by omega,by omega,by omega⟩
   have bR:=Hd bd;obtain⟨us,y,dc⟩:=X.o;rw[c7.o]at y;have y:wr.ownsRow 0 67 5 (A z j B) j us:=y;obtain⟨hp,dg⟩:=zz2 dc (cY y al)
   let AS:wD→Prop:=ub F d M ts rs vs nm sal nv cs acs vT vR af (A C cs.length D) vA bi K G
   let SS:Nat→wD→Prop:=fun s W=>if s=0 then (∃x:Wb G,W=x.1) else if s=1 then AS W else ∃S,AS S∧ApS 67 5 S z j B (us++ii ak) W
   have et:SS 0 G.drew:=⟨⟨G.drew,(EP _ _).drew⟩,V⟩;have kf:∀(m s:Nat) (W:wD),s≤m→SS s W→∃x:Ks G (fun b=>b=w.heap.size+1∨b=w.heap.size∨b=wr.heap.size),W=x.1:=fun m s W _ h=>by
    have l1:=(EN.1 ad).1;have l2:=(EN.1 P).1;have l3:=(EN.1 c9).1;have h0:∀b,(b=w.heap.size+1∨b=w.heap.size∨b=wr.heap.size)→b<G.heap.size∧¬bj M [vT,vR,af,A C cs.length D,vA] b∧(A z j B).ownBlock≠Y b:=by
     rintro b (rfl|rfl|rfl)
     ·exact⟨l1,cc,fun e=>(bd _ e).1 V⟩
     ·exact⟨l2,hl,fun e=>(bd _ e).2.1 V⟩
     ·exact⟨l3,jo,fun e=>(bd _ e).2.2 V⟩
    refine⟨⟨W,fun b u=>?_⟩,V⟩;obtain⟨q1,q2,q3⟩:=h0 b u
    by_cases a1:s=0
    ·subst a1;obtain⟨x,rfl⟩:∃x:Wb G,W=x.1:=h;exact x.2.block b q1
    ·by_cases a6:s=1
     ·subst a6;have h:AS W:=h;exact h.1.u b q1 q2
     ·have h:∃S,AS S∧ApS 67 5 S z j B (us++ii ak) W:=by
       have h':SS s W:=h
       show ∃S,AS S∧_
       simpa only [SS,qv a1,qv a6]using h'
      obtain⟨S,g1,g2⟩:=h;exact (g2.chg.u b (ET q1 g1.1.h) q3).trans (g1.1.u b q1 q2)
   have dp:=Hd kf;obtain⟨k0,k1,k2,k3,k4⟩:=cells5 c9;obtain⟨n0,n1,n2,n3,n4⟩:=cells5 P;obtain⟨x0,x1,x2,x3,x4,x5,x6,x7,x8,x9⟩:=cL ad;have B2:=fun x:Ks G (fun b=>b=w.heap.size+1∨b=w.heap.size∨b=wr.heap.size)=>x.b (z6 V) x2
   have N0:=fun x:Ks G (fun b=>b=w.heap.size+1∨b=w.heap.size∨b=wr.heap.size)=>x.b (z7 (z6 V)) n0
   have K0:=fun x:Ks G (fun b=>b=w.heap.size+1∨b=w.heap.size∨b=wr.heap.size)=>x.b (z7 (z7 V)) k0
   have K1:=fun x:Ks G (fun b=>b=w.heap.size+1∨b=w.heap.size∨b=wr.heap.size)=>x.b (z7 (z7 V)) k1
   have K2:=fun x:Ks G (fun b=>b=w.heap.size+1∨b=w.heap.size∨b=wr.heap.size)=>x.b (z7 (z7 V)) k2
   have K3:=fun x:Ks G (fun b=>b=w.heap.size+1∨b=w.heap.size∨b=wr.heap.size)=>x.b (z7 (z7 V)) k3
   have K4:=fun x:Ks G (fun b=>b=w.heap.size+1∨b=w.heap.size∨b=wr.heap.size)=>x.b (z7 (z7 V)) k4
   clear hA al c9 ad P cc hl jo jv da bd y dc kf k0 k1 k2 k3 k4 n0 n1 n2 n3 n4 x0 x1 x2 x3 x4 x5 x6 x7 x8 x9 bc cr h6 h1 h2 h3 h4 iX hK;go_upto_region 13 with fail
   change Code.wp _ _ _ _ (wr.alloc (wq #[I O K.b,J K.f,I Z K.h,I Z K.y,A ps nk c8] 25));rw[←ep];clear ep c0 c1 c2 c3 c4 e0 e1 e2 e3 e4;refine RP.wp_region_effP (by kernel_rfl) 11 [7,8,9] [7,9] SS (ApR G) (fun i ys=>if i=7 then xS #[I O ak.b,I Z ak.h,I O ak.f.b,I Z ak.f.h,J ak.f.f] else ys.getD 0 At)
    (fun i W ys=>if i=7 then (∃x,bD bi vs K=AF x) else if i=8 then One 67 G.heap.size (ii ak) W (ys.getD 0 At) else if i=9 then ApV 67 5 G z j B (us++ii ak) W (ys.getD 0 At) else True)
    (fun ch W=>Chg (bj M [vT,vR,af,A C cs.length D,vA]) G W∧∃er,bD bi vs K=BT er∧Ending.panicked ch=aU er.1 er.2) ?_ (by kernel_rfl) ?_ ?_ et ?_
   ·rintro a ch W hd ⟨hc,er,h1,h2⟩;refine⟨hd,cj (br.o.b (Chg.f cl.o)) hc (fun x hx=>?_),?_⟩
    ·rcases kg vV hx with h|h
     ·exact z6 h
     ·exact (c5.o _ h).imp (fun h=>z7 ⟨_,by simp,h⟩) id
    ·show match dX bi R tr vars Ts with | .ok x=>_ | .error er=>_
     rw[hY.o]
     show match dX bi R (AF Q) vars Ts with | .ok x=>_ | .error er=>_
     unfold dX;dsimp only;rw[na.o er h1];exact h2
   ·intro i he hc s W W' h u
    by_cases a1:s=0
    ·subst a1;exact bC h u
    ·by_cases a6:s=1
     ·subst a6;have h:AS W:=h;exact ub.z h u
     ·have h:∃S,AS S∧ApS 67 5 S z j B (us++ii ak) W:=by simpa only [SS,qv a1,qv a6]using h
      obtain⟨S,g1,g2⟩:=h;have h':∃S,AS S∧ApS 67 5 S z j B (us++ii ak) W':=⟨S,g1,g2.z u⟩
      simpa only [SS,qv a1,qv a6]using h'
   ·intro k W W' ys h _ hR
    split at h
    ·rw[rv (by assumption)];exact h
    ·rw[qv (by assumption)]
     split at h
     ·rw[rv (by assumption)];exact h.C hR
     ·rw[qv (by assumption)]
      split at h
      ·rw[rv (by assumption)];exact h.C hR
      ·rw[qv (by assumption)];trivial
   simp only[EY,Fi,EZ,Fh]
   repeat (refine RP.b (fun W=>∃x:Ks G (fun b=>b=w.heap.size+1∨b=w.heap.size∨b=wr.heap.size),W=x.1) (dp.o _) V V V et ?_;go_big_quiet_step (fail);refine Bk ?_)
   refine RP.f V V ?_ (fun kn=>?_)
   ·intro W hC hS hE;obtain⟨x,rfl⟩:∃x:Wb G,W=x.1:=hS V;refine RP.uponP_call 75 _ _ V (enters_of Tryz.func75 (by kernel_rfl) V) #[xV (Y ⟨M,0,U⟩),xS #[I O K.b,J K.f,I Z K.h,I Z K.y,A ps nk c8],AJ bi] (by simp[Act.eval]) ((jj.o x.1 x.2).mono ?_);rintro e W' ⟨u,he⟩
    cases hr:bD bi vs K with
    | error er =>
     rw[hr]at he;have he:e=aU er.1 er.2:=he;subst he;exact z7 ⟨_,V,(Chg.f x.2).b u,er,V,V⟩
    | ok xa =>
     rw[hr]at he;obtain⟨rfl,cq,g1,g2⟩:=he;have nc:=x.2.size;refine z6 ⟨_,V,[],?_,?_,?_,xa,V⟩
     ·show xS (ii xa.2).toArray=xS (ii ak).toArray
      rw[HA.o xa hr]
     ·exact⟨(Chg.f x.2).b u,xa,cq,hr,g1,fun b u=>(g2 b u).imp id (fun h=>EU nc h)⟩
     ·exact ApR.of_chg u hi.o
   simp only[Act.put,EQ,EW,EV,Nat.reduceAdd,↓reduceIte];refine RP.f V V ?_ (fun ev=>?_)
   ·intro W hC hS hE;have nd:G.heap.size≤W.heap.size:=by
     obtain⟨s,_,h⟩:=hC;have h:SS s W:=h
     by_cases a1:s=0
     ·subst a1;obtain⟨x,rfl⟩:∃x:Wb G,W=x.1:=h;exact x.2.size
     ·by_cases a6:s=1
      ·subst a6;have h:AS W:=h;exact h.1.h
      ·have h:∃S,AS S∧ApS 67 5 S z j B (us++ii ak) W:=by simpa only [SS,qv a1,qv a6]using h
       obtain⟨S,g1,g2⟩:=h;exact EU g1.1.h g2.chg.h
    exact RP.UponP.of (cB rk (vs:=ii ak) _ V V V nd (fun v W' u ho=>⟨[v],V,u,ApR.f u,ho⟩))
   simp only[Act.put,EQ,EW,EV,Nat.reduceAdd,Nat.reduceEqDiff,↓reduceIte];refine RP.f V V ?_ (fun kp=>?_)
   ·intro W hC hS hE;have hS:AS W:=hS V;have y:W.ownsRow 0 67 5 (A z j B) j us:=dC dg.o (fun g hg=>hS.1.u g (ET (bB.o g hg) cl.o.size) (kc.o g hg))
    exact RP.UponP.of (CV rk (p:=z) (n:=j) (c:=B) (L:=G.heap.size) (vs:=ii ak) (xs:=us) _ _ V V (hE 8 ev (by kernel_rfl) V) V (by simp[Value.oneCell',ii]) y (by omega) (fun v' W' h1 h2 =>
     ⟨[v'],V,⟨W,hS,h1⟩,ApR.of_chg h1.chg (fun b u=>ET (bB.o b u) cl.o.size),h2.from hS.1.h⟩))
   simp only[Act.put,EQ,EW,EV,Nat.reduceAdd,Nat.reduceEqDiff,↓reduceIte]
   repeat (refine RP.b (fun W=>∃x:Ks G (fun b=>b=w.heap.size+1∨b=w.heap.size∨b=wr.heap.size),W=x.1) (dp.o _) V V V et ?_;go_big_quiet_step (fail);refine Bk ?_)
   refine RP.h ?_;intro W hS hE;obtain⟨S,ng,ks⟩:∃S,AS S∧ApS 67 5 S z j B (us++ii ak) W:=hS;have hV:ApV 67 5 G z j B (us++ii ak) W (kp.getD 0 At):=hE 9 kp V;obtain⟨g',dv,eg,hg,hC,N⟩:=Dv ks hV;rw[eg];obtain⟨bk,x,cq,fe,bl,fM⟩:=ng;have hs:=HA.o x fe;have bc:=hf.o x fe;have fT:=cl.o.size;have ht:=hh.o;have kv:w.heap.size+2≤wr.heap.size:=by have:=(EN.1 t.o).1;omega
   have kI:∀g,(A z j B).ownBlock=Y g→¬bj M [vT,vR,cq,A C cs.length D,vA] g:=fun g aq=>by
    obtain⟨ds,h⟩:=X.o.f aq;have h5:=aa cl.o h (bB.o g aq);have h1:=(bk.u g (ET (bB.o g aq) fT) (kc.o g aq)).trans h5;exact bl.h h1 (by kernel_rfl)
   have ar:S.heap[w.heap.size+1]?=Y (wq #[I O R,I Z (Q:Int),A z j B,I O 0,I O 0,I Z 0,J ⟨#[]⟩,I Z 0,I O 0,A U 0 0] 64 (0,0)):=(bk.u _ (EN.1 ht).1 nb.o).trans ht;have hv:S.heap[w.heap.size]?=Y (wq #[I O kd,J T.f,I Z T.h,I Z T.y,A (Y ⟨b,off,U⟩) n c] 25 (0,0)):=(bk.u _ (EN.1 bt.o).1 j2.o).trans bt.o;have ea:W.heap[w.heap.size+1]?=Y (wq #[I O R,I Z (Q:Int),A z j B,I O 0,I O 0,I Z 0,J ⟨#[]⟩,I Z 0,I O 0,A U 0 0] 64 (0,0)):=(hC.u _ (EN.1 ar).1 (fun e=>(bR.o _ e).1 V)).trans ar;have k5:=(hC.u _ (EN.1 hv).1 (fun e=>(bR.o _ e).2.1 V)).trans hv
   have eb:MkW F d M ts rs x.1 nm sal nv cs acs vT vR cq (A C cs.length D) vA W:=bl.upd hC.h (fun q H=>by
    rcases H with H|H
    ·exact hC.u q (bl.f q H).1 (fun e=>by have:=cW.o q e;have:=cx.o q H;omega)
    ·exact hC.u q (bl.b H) (fun e=>kI q e H))
   have hy:g'≠w.heap.size+1∧g'≠w.heap.size∧w.heap.size+2≤g':=by
    rcases hg with h|h
    ·exact⟨(bR.o g' h).1,(bR.o g' h).2.1,cW.o g' h⟩
    ·exact⟨by omega,by omega,by omega⟩
   have gf:¬bj M [vT,vR,cq,A C cs.length D,vA] (w.heap.size+1):=fun ho=>by
    rcases kg vV ho with h|h
    ·have:=cu.o _ h;omega
    ·exact row_ne ea eb.v (by decide) h
   obtain⟨W6,ba⟩:=zzx (W.setCell ⟨w.heap.size+1,2,U⟩ (A (Y ⟨g',0,U⟩) (j+1) dv));have fm:∀q,q≠w.heap.size+1→W6.heap[q]?=W.heap[q]?:=fun q H=>by rw[ba];exact ER W ⟨w.heap.size+1,2,U⟩ _ q H
   have gg:W6.heap.size=W.heap.size:=by rw[ba];simp[World.setCell]
   have HR:Hid (xt F d M ts rs vars nm sal nv cs acs vT vR vV (A C cs.length D) vA T kd w bi R Q Ts n (A (Y ⟨b,off,U⟩) n c) (I Z ((j+1:Nat):Int)) W6):=by
    refine⟨j+1,x.1,args++[x.2],A (Y ⟨g',0,U⟩) (j+1) dv,cq,by omega,V,?_,by rw[Fc,c7.o];rfl,bc.2,?_,(fm _ (by omega)).trans k5,?_,?_,?_,?_,?_⟩
    ·rw[i1.o]
     show (match bD bi vs K with | .ok r=>_ | .error e=>_)=_
     rw[fe]
    ·rw[ba];exact heap_set ea 2 _
    ·refine⟨us++ii ak,?_,?_⟩
     ·rw[Fc,c7.o];exact dC N (fun q H=>by injection H with H;have H:g'=q:=H;subst H;exact fm g' hy.1)
     ·exact Rd.wg (Rd.vk (fun _ u=>u.elim) hp.o) (by rw[hs];exact kl.2 ⟨V,by rw[←hs];exact bc.1⟩)
    ·intro g aq;injection aq with aq
     have aq:g'=g:=aq;subst aq;exact hy.2.2
    ·refine eb.upd (by rw[gg];exact EO _) (fun q H=>fm q ?_);rcases H with H|H
     ·have:=cx.o q H;omega
     ·exact fun e=>gf (e ▸ H)
    ·intro q H;rcases fM q H with h|h
     ·exact c5.o q h
     ·exact z7 (by omega)
    ·have h1:Chg (bj M [vT,vR,vV,A C cs.length D,vA]) w S:=cj (br.o.b (Chg.f cl.o)) bk (fun x hx=>by
      rcases kg vV hx with h|h
      ·exact z6 h
      ·exact (c5.o _ h).imp (fun h=>z7 ⟨_,by simp,h⟩) id)
     have h2:Chg (bj M [vT,vR,vV,A C cs.length D,vA]) w W:=cj h1 hC (fun x hx=>z7 (by have:=cW.o x hx;omega));rw[ba];exact h2.y (p:=⟨w.heap.size+1,2,U⟩) (z7 (Fl _)) _
   obtain⟨x0,x1,x2,x3,x4,x5,x6,x7,x8,x9⟩:=cL ea;have fz:=aE ea;clear hE hV eg hg hC N bk fe bl fM hs bc fT ht kv kI ar hv ea k5 eb hy gf fm gg ks et B2 N0 K0 K1 K2 K3 K4 x0 x1 x3 x4 x5 x6 x7 x8 x9;go_upto_region 14 with fail
   change Code.wp _ _ _ _ (W.setCell ⟨w.heap.size+1,2,U⟩ (A (Y ⟨g',0,U⟩) (j+1) dv));rw[←ba];clear ba x2 fz;go_wp2_with fail
   refine⟨HR.o,?_⟩;simp[intOf];omega
  ·have HX:Hid (aG (bU bi) (vars,[]) Ts=AF (vs,args)):=by
    show _=_
    rw[←c6.o,Fg (by rw[gN.o];omega)]
   have k6:Hid (dX bi R tr vars Ts=AF (vs,⟨R,(Q:Int),args,.zero⟩)):=by
    show _=_
    rw[hY.o];unfold dX;dsimp only;rw[HX.o]
   have nn:Hid (w.heap.size≤wr.heap.size):=br.o.h;have bn:Hid (MkW (fun q=>F q∨(A z j B).ownBlock=Y q) d M ts rs vs nm sal nv cs acs vT vR af (A C cs.length D) vA wr):=by
    refine av.o.grow (fun _ h=>z6 h) (fun q H=>?_);rcases H with H|H
    ·exact av.o.f q H
    ·obtain⟨ds,h⟩:=X.o.f H;exact⟨X.o.lt H,av.o.h h (by kernel_rfl)⟩
   have hz:Hid (gn.K wr (fun q=>F q∨(A z j B).ownBlock=Y q) args (A z j B)):=X.o.K (fun _ h=>h.elim) (fun g hg=>z7 hg);clear e0 e1 e2 e3 e4 fI;go_upto_region 17 with fail
   obtain⟨us,y,dc⟩:=bn.o.c;rw[HN.o,dP]at y;obtain⟨dg,hp⟩:=zz2 y dc;have e0:wr.cell? ⟨w.heap.size+1,0,U⟩=Y (I O R):=by rw[FI _ _ _ _ _ _ t.o];rfl
   have e1:wr.cell? ⟨w.heap.size+1,1,U⟩=Y (I Z (Q:Int)):=by rw[FI _ _ _ _ _ _ t.o];rfl
   have e2:wr.cell? ⟨w.heap.size+1,2,U⟩=Y (A z j B):=by rw[FI _ _ _ _ _ _ t.o];rfl
   have e3:wr.cell? ⟨w.heap.size+1,3,U⟩=Y (I O 0):=by rw[FI _ _ _ _ _ _ t.o];rfl
   have e4:wr.cell? ⟨w.heap.size+1,4,U⟩=Y (I O 0):=by rw[FI _ _ _ _ _ _ t.o];rfl
   have e5:wr.cell? ⟨w.heap.size+1,5,U⟩=Y (I Z 0):=by rw[FI _ _ _ _ _ _ t.o];rfl
   have e6:wr.cell? ⟨w.heap.size+1,6,U⟩=Y (J ⟨#[]⟩):=by rw[FI _ _ _ _ _ _ t.o];rfl
   have e7:wr.cell? ⟨w.heap.size+1,7,U⟩=Y (I Z 0):=by rw[FI _ _ _ _ _ _ t.o];rfl
   have e8:wr.cell? ⟨w.heap.size+1,8,U⟩=Y (I O 0):=by rw[FI _ _ _ _ _ _ t.o];rfl
   have e9:wr.cell? ⟨w.heap.size+1,9,U⟩=Y (A U 0 0):=by rw[FI _ _ _ _ _ _ t.o];rfl
   have hD:wr.cell? ⟨M,6,U⟩=Y (A C nC D):=by rw[FI _ _ _ _ _ _ bn.o.m,←HN.o];rfl
   have hK:∀b,(b=M∨b=w.heap.size+1)→b<wr.heap.size∧(A C nC D).ownBlock≠Y b:=fun b u=>by
    rw[←HN.o];rcases u with rfl|rfl
    ·exact⟨bn.o.lt,row_ne bn.o.m bn.o.c (by decide)⟩
    ·exact⟨(EN.1 t.o).1,fun e=>by have:=hL.o _ e;omega⟩
   have dp:=Hd (gl (E:=64) (sz:=10) (row:=us++[I O R,I Z (Q:Int),A z j B,I O 0,I O 0,I Z 0,J ⟨#[]⟩,I Z 0,I O 0,A U 0 0]) (K:=(fun b=>b=M∨b=w.heap.size+1)) hK);have E0:=fun x:Ks wr (fun b=>b=M∨b=w.heap.size+1)=>x.b (z7 V) e0
   have E1:=fun x:Ks wr (fun b=>b=M∨b=w.heap.size+1)=>x.b (z7 V) e1
   have E2:=fun x:Ks wr (fun b=>b=M∨b=w.heap.size+1)=>x.b (z7 V) e2
   have E3:=fun x:Ks wr (fun b=>b=M∨b=w.heap.size+1)=>x.b (z7 V) e3
   have E4:=fun x:Ks wr (fun b=>b=M∨b=w.heap.size+1)=>x.b (z7 V) e4
   have E5:=fun x:Ks wr (fun b=>b=M∨b=w.heap.size+1)=>x.b (z7 V) e5
   have E6:=fun x:Ks wr (fun b=>b=M∨b=w.heap.size+1)=>x.b (z7 V) e6
   have E7:=fun x:Ks wr (fun b=>b=M∨b=w.heap.size+1)=>x.b (z7 V) e7
   have E8:=fun x:Ks wr (fun b=>b=M∨b=w.heap.size+1)=>x.b (z7 V) e8
   have E9:=fun x:Ks wr (fun b=>b=M∨b=w.heap.size+1)=>x.b (z7 V) e9
   have M2:=fun x:Ks wr (fun b=>b=M∨b=w.heap.size+1)=>x.b (z6 V) hD
   clear y dc e0 e1 e2 e3 e4 e5 e6 e7 e8 e9 hD hK;refine RE.u (by kernel_rfl) 9 [7,8] [8] (stA 64 10 wr C nC D (us++[I O R,I Z (Q:Int),A z j B,I O 0,I O 0,I Z 0,J ⟨#[]⟩,I Z 0,I O 0,A U 0 0])) (ApR wr) (fun _ ys=>ys.getD 0 At) (phA 64 10 wr C nC D [I O R,I Z (Q:Int),A z j B,I O 0,I O 0,I Z 0,J ⟨#[]⟩,I Z 0,I O 0,A U 0 0] (us++[I O R,I Z (Q:Int),A z j B,I O 0,I O 0,I Z 0,J ⟨#[]⟩,I Z 0,I O 0,A U 0 0]) 7 8) (by kernel_rfl) (fun _ _ _ _ _ _ h u=>h.z u) (fun _ _ _ _ h _ hR=>h.C hR) stA.zero ?_;simp only[EY,Fi,EZ,Fh]
   repeat (refine RE.b (fun W=>∃x:Ks wr (fun b=>b=M∨b=w.heap.size+1),W=x.1) (dp.o _) V V V stA.zero ?_;go_big_quiet_step (fail);refine Bk ?_)
   refine RE.f V V ?_ (fun kn=>?_)
   ·intro W hC hS hE;obtain⟨s9,_,h9⟩:=hC;exact cB i8 (vs:=[I O R,I Z (Q:Int),A z j B,I O 0,I O 0,I Z 0,J ⟨#[]⟩,I Z 0,I O 0,A U 0 0]) _ V V V h9.h (fun v W' u ho=>⟨[v],V,u,ApR.f u,ho⟩)
   simp only[Act.put,EQ,EW,EV];refine RE.f V V ?_ (fun ev=>?_)
   ·intro W hC hS hE;obtain⟨x,rfl⟩:∃x:Wb wr,W=x.1:=hS V;exact eC i8 (p:=C) (n:=nC) (c:=D) (w4:=wr) (vs:=[I O R,I Z (Q:Int),A z j B,I O 0,I O 0,I Z 0,J ⟨#[]⟩,I Z 0,I O 0,A U 0 0]) (xs:=us) _ _ V V (hE 7 kn (by kernel_rfl) V) V (by simp[Value.oneCell']) x.2 dg.o (by omega) (fun v' W' h1 h2 h3=>⟨[v'],V,h1,h2,h3⟩)
   simp only[Act.put,EQ,EW,EV];refine RE.h ?_;intro W hS hE;have hS:ApS 64 10 wr C nC D (us++[I O R,I Z (Q:Int),A z j B,I O 0,I O 0,I Z 0,J ⟨#[]⟩,I Z 0,I O 0,A U 0 0]) W:=hS;have hV:ApV 64 10 wr C nC D (us++[I O R,I Z (Q:Int),A z j B,I O 0,I O 0,I Z 0,J ⟨#[]⟩,I Z 0,I O 0,A U 0 0]) W (ev.getD 0 At):=hE 8 ev V;obtain⟨g',cap,eg,hg,hC,N⟩:=eZ hS hV;rw[eg];have bk:Chg (fun b=>(A C cs.length D).ownBlock=Y b) wr W:=by rw[HN.o];exact hC
   have hG:(A C cs.length D).ownBlock=Y g'∨wr.heap.size≤g':=by rw[HN.o];exact hg
   have k7:(bf d).at_ wr (fun q=>F q∨(A z j B).ownBlock=Y q) ⟨R,(Q:Int),args,.zero⟩ [I O R,I Z (Q:Int),A z j B,I O 0,I O 0,I Z 0,J ⟨#[]⟩,I Z 0,I O 0,A U 0 0]:=fw.2 ⟨(by rcases gS.o with ⟨_,h,_⟩|⟨_,h,_⟩<;>(show U8 R;rw[h];exact⟨by decide,by decide⟩):U8 R),⟨by show (-9223372036854775808:Int)≤(Q:Int);omega,by show (Q:Int)<9223372036854775808;omega⟩,⟨show U8 0 from ⟨by decide,by decide⟩,⟨show U8 0 from ⟨by decide,by decide⟩,show I64 0 from ⟨by decide,by decide⟩,(show (⟨#[]⟩:ByteArray).size≤maxLen by decide)⟩,show I64 0 from ⟨by decide,by decide⟩,show U8 0 from ⟨by decide,by decide⟩⟩,A z j B,A U 0 0,V,hz.o,ou⟩
   obtain⟨ba,k8,hI⟩:=bn.o.pushC HN.o hp.o k7 hG bk (by rw[dP];exact N);have hD:W.cell? ⟨M,6,U⟩=Y (A C nC D):=by rw[FI _ _ _ _ _ _ (hI.trans bn.o.m),←HN.o];rfl
   have n9:=bK (hI.trans bn.o.m) 6;have HP:Hid (kY F d M ts rs nm sal nv cs acs vT vR vV (A C cs.length D) vA (AF (vs,⟨R,(Q:Int),args,.zero⟩)) w (Ending.returned (AJ true)) (W.setCell ⟨M,6,U⟩ (A (Y ⟨g',0,U⟩) (nC+1) cap))):=by
    refine⟨cj br.o k8 (fun x hx=>by rcases kg vV hx with h|h;exact z6 h;exact (c5.o _ h).imp (fun h=>z7 ⟨_,by simp,h⟩) id),V,(fun q=>F q∨(A z j B).ownBlock=Y q),af,_,ba,c5.o,fun b u=>?_,fun _ h=>z6 h,fun b h=>h.imp id (fun h=>by have:=cW.o b h;omega)⟩
    injection u with u
    have u:g'=b:=u;subst u;rcases hG with h|h
    ·exact z6 h
    ·have:=nn.o;exact z7 (by omega)
   clear hS hV hE eg hg hC N bk hG ba k8 hI E0 E1 E2 E3 E4 E5 E6 E7 E8 E9 M2 dp k7;go_wp2_with fail
   go_ret;rw[k6.o];exact HP.o
