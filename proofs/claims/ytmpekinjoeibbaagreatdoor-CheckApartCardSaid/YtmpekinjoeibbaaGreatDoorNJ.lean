/- The rule checker: a condition that asks for a fact, or for none; by contract. Condition: as an expression's. Printed by tools/genCond.py. -/
import Derived.Test.YtmpekinjoeibbaaGreatDoorNH
import Derived.Test.YtmpekinjoeibbaaGreatDoorNB
open Except renaming error→wD,ok→vb
open Go.Value renaming agg→s3,int→I,string→p9,slice→O,pointer→tv,bool→ur
open Go.IntKind renaming u8→J,i64→Y
open Option renaming some→A,none→V
open Go renaming Value→r3,World→p7,undef→tT,wpQuiet_nil→vk
open Or renaming inl→tE,inr→tS
open Go.Obj renaming cells→p8
namespace Go.Proofs.YtmpekinjoeibbaaGreatDoor
set_option maxHeartbeats 8000000
set_option maxRecDepth 100000
open Go.RowKit
def dX(binds:Bool) (kd:Int) (a:Except Flt Nat) (vars:List ByteArray) (Ts:List ah):Except Flt (List ByteArray×aK):=match a with
 | .error e=>wD e
 | .ok k=>match bs (dD binds) (vars,[]) Ts with
  | .error e=>wD e
  | .ok r=>vb (r.1,⟨kd,k,r.2,.zero⟩)
theorem xm:Elem 56 43 5 48:=Elem.of (z:=s3 #[I J 0,I Y 0,I J 0,I Y 0,p9 ByteArray.empty]) Tryz.underlying43 (by kernel_rfl) (by kernel_rfl) (by decide) (by decide)
def EJ:Except Flt (List ByteArray×dF)→dF
 | .ok x=>x.2
 | .error _=>⟨0,0,.zero⟩
theorem Bn(x:ByteArray)(l:List ByteArray)(k:Nat)(h:idxOf x l=A k):k<l.length:=by
 have:=(kM x l 0 k h).2;omega
theorem xe{b:Bool}{vars:List ByteArray}{T:ah}{x:List ByteArray×dF}(c:T.h.size≤72007)(hv:vars.length≤16)(h:cF b vars T=vb x):xA x.2∧x.1.length≤16:=by
 have z:lz i4.zero:=⟨⟨by decide,by decide⟩,⟨by decide,by decide⟩,by decide⟩;unfold cF at h
 split at h
 ·injection h with h;subst h;exact⟨⟨show U8 1 from ⟨by decide,by decide⟩,show I64 0 from ⟨by decide,by decide⟩,z⟩,hv⟩
 ·split at h
  ·cases a:idxOf T.h vars with
   | some k =>
    rw[a]at h;injection h with h;subst h
    have:=Bn _ _ _ a;exact⟨⟨show U8 3 from ⟨by decide,by decide⟩,⟨by show (-9223372036854775808:Int)≤(k:Int);omega,by show (k:Int)<9223372036854775808;omega⟩,z⟩,hv⟩
   | none =>
    rw[a]at h;dsimp only at h
    split at h
    ·cases h
    ·split at h
     ·cases h
     ·injection h with h;subst h
      refine⟨⟨show U8 2 from ⟨by decide,by decide⟩,⟨by show (-9223372036854775808:Int)≤(vars.length:Int);omega,by show (vars.length:Int)<9223372036854775808;omega⟩,z⟩,?_⟩
      show (vars++[T.h]).length≤16
      rw[Fl];simp;omega
  ·injection h with h;subst h;exact⟨⟨show U8 4 from ⟨by decide,by decide⟩,show I64 0 from ⟨by decide,by decide⟩,qL T c⟩,hv⟩
theorem jY{M:Nat}{vT vR a vC vA:r3}{b:Nat}(vV:r3)(h:bf M [vT,vR,a,vC,vA] b):bf M [vT,vR,vV,vC,vA] b∨a.ownBlock=A b:=by
 rcases h with rfl|⟨v,hv,c⟩
 ·exact tE (tE Z)
 ·simp only[FK,FH,o5]at hv;rcases hv with rfl|rfl|rfl|rfl|rfl
  ·exact tE (tS ⟨_,by simp,c⟩)
  ·exact tE (tS ⟨_,by simp,c⟩)
  ·exact tS c
  ·exact tE (tS ⟨_,by simp,c⟩)
  ·exact tE (tS ⟨_,by simp,c⟩)
def uj(F:Nat→Prop) (d M:Nat) (ts:List ap) (rs:List au) (vars:List ByteArray) (nm:ByteArray) (sal nv:Int) (cs:List aK) (acs:List bm) (vT vR vV vC vA:r3) (b:Bool) (K:ah) (c W:p7):Prop:=
 Chg (bf M [vT,vR,vV,vC,vA]) c W∧∃x a,cF b vars K=vb x∧MkW F d M ts rs x.1 nm sal nv cs acs vT vR a vC vA W∧Grew vV a c.heap.size
theorem uj.C{F:Nat→Prop}{d M:Nat}{ts:List ap}{rs:List au}{vars:List ByteArray}{nm:ByteArray}{sal nv:Int}{cs:List aK}{acs:List bm}{vT vR vV vC vA:r3}{b:Bool}{K:ah}{c W W':p7}(h:uj F d M ts rs vars nm sal nv cs acs vT vR vV vC vA b K c W)(e:FS W W'):uj F d M ts rs vars nm sal nv cs acs vT vR vV vC vA b K c W':=by
 obtain⟨f,x,a,g,i,j⟩:=h;exact⟨f.h (Chg.b e),x,a,g,i.C e,j⟩
def xP(F:Nat→Prop) (d M:Nat) (ts:List ap) (rs:List au) (vars:List ByteArray) (nm:ByteArray) (sal nv:Int) (cs:List aK) (acs:List bm) (vT vR vV vC vA:r3) (T:ah) (k:Int) (w:p7) (binds:Bool) (kd:Int) (b:Nat) (Ts:List ah) (n:Nat) (c i:r3) (W:p7):Prop:=
 ∃(j:Nat) (vs:List ByteArray) (args:List dF) (v a:r3),j≤n∧i=I Y (j:Int)∧bs (dD binds) (vars,[]) (Ts.take j)=vb (vs,args)∧args.length=j∧vs.length≤16∧
  W.heap[w.heap.size+1]?=A (p8 #[I J kd,I Y b,v,I J 0,I J 0,I Y 0,p9 ⟨#[]⟩,I Y 0,I J 0,O V 0 0] 53 (0,0))∧W.heap[w.heap.size]?=A (p8 #[I J k,p9 T.h,I Y T.q,I Y T.t,c] 64 (0,0))∧
  bF W (fun _=>False) 56 gQ args v∧(∀g,v.ownBlock=A g→w.heap.size+2≤g)∧MkW F d M ts rs vs nm sal nv cs acs vT vR a vC vA W∧Grew vV a w.heap.size∧Chg (bf M [vT,vR,vV,vC,vA]) w W
theorem rZ(kd Q:Int)(bi:Bool)(gH:kd=5∧Q=1∧bi=true∨kd=6∧Q=2∧bi=false)(F:Nat→Prop)(d M:Nat)(ts:List ap)(rs:List au)(vars:List ByteArray)(nm:ByteArray)(sal nv:Int)(cs:List aK)(acs:List bm)(vT vR vV vC vA:r3)(T:ah)(Ts:List ah)(p:Option Addr)(n c B0 dd:Nat)(tr:Except Flt Nat)(w:p7)
  (hw:MkW F d M ts rs vars nm sal nv cs acs vT vR vV vC vA w) (hk:T.b=kd) (lg:cs.length≤10000) (lo:vars.length≤16) (hM:Ts.length=n) (hn:n≤10000) (a8:∀k,tr=vb k→k≤10000)
  (et:aF w B0 (dd+1) Ts (O p n c)) (l0:B0≤w.heap.size) (hO:∀b,bf M [vT,vR,vV,vC,vA] b→B0≤b) (cr:∀K∈Ts,(K.b=12∨K.b=13∨K.b=14∨K.b=15)∧K.h.size≤72007)
  (gL:∀W,FS w W→Calls Tryz.prog 107 #[tv (A ⟨M,0,V⟩),s3 #[I J kd,p9 T.h,I Y T.q,I Y T.t,O p n c]] W (nQ tr lG W)) :
  Calls Tryz.prog 51 #[tv (A ⟨M,0,V⟩),s3 #[I J T.b,p9 T.h,I Y T.q,I Y T.t,O p n c]] w (kD F d M ts rs nm sal nv cs acs vT vR vV vC vA (dX bi Q tr vars Ts) w):=by
 rw[hk];obtain⟨D,cC,l4⟩:=hw.c.b;subst l4;obtain⟨nC,gM⟩:=zzy (cs.length);have HN:=Hd gM;rw[gM]at lg;obtain⟨w1,ev⟩:=zzx ((w.alloc (p8 #[I J kd,p9 T.h,I Y T.q,I Y T.t,O p n c] 64)).alloc (p8 #[I J 0,I Y 0,O V 0 0,I J 0,I J 0,I Y 0,p9 ⟨#[]⟩,I Y 0,I J 0,O V 0 0] 53));obtain⟨fe,ct,_⟩:=ay w (p8 #[I J kd,p9 T.h,I Y T.q,I Y T.t,O p n c] 64) (p8 #[I J 0,I Y 0,O V 0 0,I J 0,I J 0,I Y 0,p9 ⟨#[]⟩,I Y 0,I J 0,O V 0 0] 53);have av:FS w w1:=by rw[ev];exact ((EU _ w).alloc (ET _) _).alloc (by simp) _
 rw[←ev]at fe ct;obtain⟨hN,cu⟩:=zz2 (fun g X=>hw.c.lt (g:=g) X) (fun b u=>hw.b (b:=b) u);have bn:=Hd (fun b (u:F b)=>(hw.f b u).1);obtain⟨hP,gN,hQ,nT⟩:=zz4 fe ct av (hw.C av);have n5:Hid (w.heap.size+2≤w1.heap.size):=by
  have h:=(ES.1 gN.o).1
  show _≤_
  omega
 obtain⟨gO,HO,gS,gT,n6⟩:=zz5 et hO cr hM (fun (W:p7) (h:FS w1 W)=>gL W (av.trans (h.mono av.size)));obtain⟨P,ha⟩:∃P:Nat,P=okN tr:=⟨_,rfl⟩;have ma:Hid (∀k,tr=vb k→P=k):=fun k h=>by rw[ha,h];rfl
 have n7:P≤10000:=by
  rw[ha]
  cases tr with
  | ok k=>exact a8 k Z
  | error e=>exact Fi _
 have n8:=Hd (fun g X=>hw.v.lt (g:=g) X);obtain⟨e0,e1,e2,e3,e4⟩:=cells5 fe;obtain⟨b0,b1,b2,b3,b4,b5,b6,b7,b8,b9⟩:=dS ct;have fz:=cH ct;obtain⟨hT,gb⟩:=zz2 hw gL;have n9:(kd==5)=bi:=by rcases gH with ⟨rfl,_,rfl⟩|⟨rfl,_,rfl⟩<;>rfl
 have hf:=Hd gH;clear fe ct av hw hk gM et hO gL a8 hM ha cr gH
 go_enter Tryz.func51,Tryz.ntmps51
 go_upto_region 2 with fail
 change Code.wp _ _ _ _ ((w.alloc (p8 #[I J kd,p9 T.h,I Y T.q,I Y T.t,O p n c] 64)).alloc (p8 #[I J 0,I Y 0,O V 0 0,I J 0,I J 0,I Y 0,p9 ⟨#[]⟩,I Y 0,I J 0,O V 0 0] 53));rw[←ev];clear ev
 go_upto_if 10 with fail
 go_cut [10] from 11 to 12 (fun v W=>v=ur true∧w1=W)
 case first =>
  rcases hf.o with ⟨rfl,rfl,rfl⟩|⟨rfl,rfl,rfl⟩
  all_goals
   go_wp2_with fail
   go_meet
   case rel=>exact⟨Z,Z⟩
 case rest =>
 obtain⟨rfl,rfl⟩:=hcut
 go_upto_if 16 with fail
 go_cut [] from 17 to 17 (fun W=>W.heap[w.heap.size+1]?=A (p8 #[I J Q,I Y 0,O V 0 0,I J 0,I J 0,I Y 0,p9 ⟨#[]⟩,I Y 0,I J 0,O V 0 0] 53 (0,0))∧FS w W∧W.heap[w.heap.size]?=A (p8 #[I J kd,p9 T.h,I Y T.q,I Y T.t,O p n c] 64 (0,0)))
 case first =>
  rcases hf.o with ⟨rfl,rfl,rfl⟩|⟨rfl,rfl,rfl⟩
  ·go_wp2_with fail
   go_meet
   case rel=>exact⟨heap_set gN.o 0 _,hQ.o.setCell (p:=⟨w.heap.size+1,0,V⟩) (Fw _) _,aH hP.o (by omega) _ _⟩
  ·go_wp2_with fail
   go_meet
   case rel=>exact⟨heap_set (heap_set gN.o 0 _) 0 _,(hQ.o.setCell (p:=⟨w.heap.size+1,0,V⟩) (Fw _) _).setCell (p:=⟨w.heap.size+1,0,V⟩) (Fw _) _,aH (aH hP.o (by omega) _ _) (by omega) _ _⟩
 case rest =>
 obtain⟨hh,cx,hU⟩:=hcut;obtain⟨hX,fm,hi⟩:=zz3 hh cx hU;have oa:Hid (w.heap.size+2≤wc.heap.size):=by show _≤_;have h:=(ES.1 hh).1;omega
 obtain⟨hY,mb,mc⟩:=zz3 (gb.o wc cx) (Chg.b (F:=bf M [vT,vR,vV,O D cs.length cC,vA]) cx) (hT.o.C cx);clear hh cx hU hT gb e0 e1 e2 e3 e4 b0 b1 b2 b3 b4 b5 b6 b7 b8 b9 fz;obtain⟨e0,e1,e2,e3,e4⟩:=cells5 hi.o;go_wp2_with fail
 refine hY.o.mono ?_;rintro e W3 ⟨bR,he⟩
 cases a8:tr with
 | error er =>
  rw[a8]at he;have he:e=aQ er.1 er.2:=he;subst he;exact⟨Z,Chg.b (fm.o.trans (bR.mono fm.o.size)),Z⟩
 | ok k =>
 rw[a8]at he;obtain rfl:=ma.o k a8;have he:e=Ending.returned (I Y (P:Int)):=he;subst he;have h7:=Hd a8;clear he a8;have mu:=Hd (fm.o.trans (bR.mono fm.o.size));have fp:=ag bR hX.o (ES.1 hX.o).1;have h8:=ag bR hi.o (ES.1 hi.o).1;obtain⟨W4,ca⟩:=zzx (W3.setCell ⟨w.heap.size+1,1,V⟩ (I Y (P:Int)));have mv:Hid (W4.heap[w.heap.size+1]?=A (p8 #[I J Q,I Y (P:Int),O V 0 0,I J 0,I J 0,I Y 0,p9 ⟨#[]⟩,I Y 0,I J 0,O V 0 0] 53 (0,0))):=by show _=_;rw[ca];exact heap_set fp 1 _
 have ih:Hid (W4.heap[w.heap.size]?=A (p8 #[I J kd,p9 T.h,I Y T.q,I Y T.t,O p n c] 64 (0,0))):=by show _=_;rw[ca,EW _ _ _ _ (show w.heap.size≠w.heap.size+1 by omega)];exact h8
 have cb:¬bf M [vT,vR,vV,O D cs.length cC,vA] (w.heap.size+1):=fun ho=>by have:=cu.o _ ho;omega
 have na:Hid (MkW F d M ts rs vars nm sal nv cs acs vT vR vV (O D cs.length cC) vA W4):=by
  show MkW _ _ _ _ _ _ _ _ _ _ _ _ _ _ _ _ _
  rw[ca];refine ((mc.o).C bR).upd (by simp[World.setCell]) (fun x hx=>EW _ _ _ _ ?_);rcases hx with hx|hx
  ·have:=bn.o x hx;intro e;simp only at e;omega
  ·intro e;simp only at e;exact cb (e ▸ hx)
 have nc:Hid (Chg (bf M [vT,vR,vV,O D cs.length cC,vA]) w W4):=by show Chg _ _ _;rw[ca];exact (Chg.b mu.o).t (p:=⟨w.heap.size+1,1,V⟩) (tS (Fw _)) _
 obtain⟨b0,b1,b2,b3,b4,b5,b6,b7,b8,b9⟩:=dS fp;have fz:=cH fp;clear e0 e1 e2 e3 e4 bR h8 fp cb;go_upto_region 10 with fail
 change Code.wp _ _ _ _ (W3.setCell ⟨w.heap.size+1,1,V⟩ (I Y (P:Int)));rw[←ca];clear ca b0 b1 b2 b3 b4 b5 b6 b7 b8 b9 fz;obtain⟨e0,e1,e2,e3,e4⟩:=cells5 ih.o;go_wp2_with fail
 go_loopw [25] (xP F d M ts rs vars nm sal nv cs acs vT vR vV (O D cs.length cC) vA T kd w bi Q P Ts n (O p n c)) (fun i _=>n-(intOf i).toNat)
 case atStart=>exact⟨0,vars,[],O V 0 0,vV,Fi _,Z,Z,Z,lo,mv.o,ih.o,bF.nil,(fun g h=>by cases h),na.o,fun b u=>tE u,nc.o⟩
 case round =>
  obtain⟨j,vs,args,v,ad,hj,rfl,cT,hlen,ix,gf,cV,H,iA,iB,iX,cW⟩:=hrel;obtain⟨z,B,jj⟩:=H.b;rw[hlen]at jj;subst jj;have oc:(0:Int)≤j:=by omega
  obtain⟨t,bl,S,cl,af,c5,bq⟩:=zz7 gf cV H iA iB iX cW;obtain⟨c6,c7⟩:=zz2 cT hlen;have gg:Hid (Below B0 w wr):=Chg.T (EU B0 w) cW HO.o l0;clear gf cV H iA iB iX cW cT hlen e0 e1 e2 e3 e4;obtain⟨e0,e1,e2,e3,e4⟩:=cells5 bl.o
  by_cases nd:j<n
  ·have oe:(j:Int)<n:=by omega
   obtain⟨K,hK⟩:∃K,Ts[j]?=A K:=⟨_,EX (by rw[gT.o];exact nd)⟩;have et:=gO.o.C gg.o;rcases et with ⟨rfl,_⟩|⟨b,off,cap,h1,h2,h3,h4,he,h6⟩
   ·simp at hK
   rw[gT.o]at he;injection he with ng _ nn
   subst ng;subst nn;obtain⟨ba,s,c0,c1,c2,c3,c4,cr⟩:=h6 j K hK;obtain⟨ps,c8,rfl⟩:=cr.t;obtain⟨nk,j2⟩:=zzy (K.u.length);rw[j2]at c4;have ka:=Hd ((it (f:=dD bi) hK c6.o).trans (wT bi (vs,args) K))
   have nr:=Hd (fun er (h:cF bi vs K=wD er)=>jm (f:=dD bi) (l:=Ts) (k:=j+1) (s:=(vars,[])) (e:=er) (by
    rw[ka.o]
    show (match cF bi vs K with | .ok r=>_ | .error e=>_)=_
    rw[h]))
   obtain⟨ak,hA⟩:=zzx (EJ (cF bi vs K));have HA:Hid (∀x,cF bi vs K=vb x→x.2=ak):=fun x h=>by rw[hA,h];rfl
   have hl:=Hd (fun x (h:cF bi vs K=vb x)=>xe (b:=bi) (vars:=vs) (T:=K) (gS.o K (Fv hK)).2 ix h);obtain⟨G,fr⟩:=zzx (wr.alloc (p8 #[I J K.b,p9 K.h,I Y K.q,I Y K.t,O ps nk c8] 64));have aq:FS wr G:=by rw[fr];exact (EU _ wr).alloc (ET _) _
   have c9:G.heap[wr.heap.size]?=A (p8 #[I J K.b,p9 K.h,I Y K.q,I Y K.t,O ps nk c8] 64 (0,0)):=by rw[fr];exact ot wr _
   obtain⟨cp,oi,kc⟩:=zz3 aq c9 (fun (W:p7) (hW:FS G W)=>Dq F d M ts rs vs nm sal nv cs acs vT vR ad (O D cs.length cC) vA K ps nk c8 bi W ((af.o.C aq).C hW) (gS.o K (Fv hK)).1 (gS.o K (Fv hK)).2 ix);have U:=ag aq t.o (ES.1 t.o).1;have N:=ag aq bl.o (ES.1 bl.o).1;obtain⟨hp,br,hs⟩:=zz3 U N (fun b u=>(af.o.C aq).b (b:=b) u);have cb:¬bf M [vT,vR,ad,O D cs.length cC,vA] (w.heap.size+1):=fun ho=>by
    rcases jY vV ho with h|h
    ·have:=cu.o _ h;omega
    ·exact row_ne U (af.o.C aq).v (by decide) h
   have ht:¬bf M [vT,vR,ad,O D cs.length cC,vA] w.heap.size:=(af.o.C aq).q N (by kernel_rfl);have kn:¬bf M [vT,vR,ad,O D cs.length cC,vA] wr.heap.size:=(af.o.C aq).q c9 (by kernel_rfl);have kr:∀g,(O z j B).ownBlock=A g→¬bf M [vT,vR,ad,O D cs.length cC,vA] g:=fun g X=>by
    obtain⟨ds,h⟩:=S.o.h X;exact af.o.q h (by kernel_rfl)
   obtain⟨nt,ks,kv⟩:=zz3 cb ht kr;have da:∀g,(O z j B).ownBlock=A g→g<wr.heap.size:=fun g X=>S.o.lt X
   have bt:=Hd da;have bb:∀g,(O z j B).ownBlock=A g→g≠w.heap.size+1∧g≠w.heap.size∧g≠wr.heap.size:=fun g X=>by
    have h1:=cl.o g X;have h2:=da g X;exact⟨by omega,by omega,by omega⟩
   have bB:=Hd bb;obtain⟨us,y,dc⟩:=S.o;rw[c7.o]at y;have y:wr.ownsRow 0 56 5 (O z j B) j us:=y;obtain⟨hv,dg⟩:=zz2 dc (ab y aq)
   let AS:p7→Prop:=uj F d M ts rs vs nm sal nv cs acs vT vR ad (O D cs.length cC) vA bi K G
   let SS:Nat→p7→Prop:=fun s W=>if s=0 then (∃x:Wb G,W=x.1) else if s=1 then AS W else ∃R,AS R∧ApS 56 5 R z j B (us++gU ak) W
   have fv:SS 0 G.drew:=⟨⟨G.drew,(EU _ _).drew⟩,Z⟩;have kI:∀(m s:Nat) (W:p7),s≤m→SS s W→∃x:Ks G (fun b=>b=w.heap.size+1∨b=w.heap.size∨b=wr.heap.size),W=x.1:=fun m s W _ h=>by
    have l1:=(ES.1 U).1;have l2:=(ES.1 N).1;have l3:=(ES.1 c9).1;have h0:∀b,(b=w.heap.size+1∨b=w.heap.size∨b=wr.heap.size)→b<G.heap.size∧¬bf M [vT,vR,ad,O D cs.length cC,vA] b∧(O z j B).ownBlock≠A b:=by
     rintro b (rfl|rfl|rfl)
     ·exact⟨l1,cb,fun e=>(bb _ e).1 Z⟩
     ·exact⟨l2,ht,fun e=>(bb _ e).2.1 Z⟩
     ·exact⟨l3,kn,fun e=>(bb _ e).2.2 Z⟩
    refine⟨⟨W,fun b u=>?_⟩,Z⟩;obtain⟨q1,q2,q3⟩:=h0 b u
    by_cases a1:s=0
    ·subst a1;obtain⟨x,rfl⟩:∃x:Wb G,W=x.1:=h;exact x.2.block b q1
    ·by_cases a6:s=1
     ·subst a6;have h:AS W:=h;exact h.1.q b q1 q2
     ·have h:∃R,AS R∧ApS 56 5 R z j B (us++gU ak) W:=by
       have h':SS s W:=h
       show ∃R,AS R∧_
       simpa only [SS,ox a1,ox a6]using h'
      obtain⟨R,g1,g2⟩:=h;exact (g2.chg.q b (EY q1 g1.1.u) q3).trans (g1.1.q b q1 q2)
   have dr:=Hd kI;obtain⟨k0,k1,k2,k3,k4⟩:=cells5 c9;obtain⟨n0,n1,n2,n3,n4⟩:=cells5 N;obtain⟨x0,x1,x2,x3,x4,x5,x6,x7,x8,x9⟩:=dS U;have B2:=fun x:Ks G (fun b=>b=w.heap.size+1∨b=w.heap.size∨b=wr.heap.size)=>x.b (tE Z) x2
   have N0:=fun x:Ks G (fun b=>b=w.heap.size+1∨b=w.heap.size∨b=wr.heap.size)=>x.b (tS (tE Z)) n0
   have K0:=fun x:Ks G (fun b=>b=w.heap.size+1∨b=w.heap.size∨b=wr.heap.size)=>x.b (tS (tS Z)) k0
   have K1:=fun x:Ks G (fun b=>b=w.heap.size+1∨b=w.heap.size∨b=wr.heap.size)=>x.b (tS (tS Z)) k1
   have K2:=fun x:Ks G (fun b=>b=w.heap.size+1∨b=w.heap.size∨b=wr.heap.size)=>x.b (tS (tS Z)) k2
   have K3:=fun x:Ks G (fun b=>b=w.heap.size+1∨b=w.heap.size∨b=wr.heap.size)=>x.b (tS (tS Z)) k3
   have K4:=fun x:Ks G (fun b=>b=w.heap.size+1∨b=w.heap.size∨b=wr.heap.size)=>x.b (tS (tS Z)) k4
   clear hA aq c9 U N cb ht kn kr da bb y dc kI k0 k1 k2 k3 k4 n0 n1 n2 n3 n4 x0 x1 x2 x3 x4 x5 x6 x7 x8 x9 ba cr h6 h1 h2 h3 h4 j2 hK;go_upto_region 13 with fail
   change Code.wp _ _ _ _ (wr.alloc (p8 #[I J K.b,p9 K.h,I Y K.q,I Y K.t,O ps nk c8] 64));rw[←fr];clear fr c0 c1 c2 c3 c4 e0 e1 e2 e3 e4;refine RP.wp_region_effP (by kernel_rfl) 11 [7,8,9] [7,9] SS (ApR G) (fun i ys=>if i=7 then s3 #[I J ak.b,I Y ak.q,I J ak.h.b,I Y ak.h.q,p9 ak.h.h] else ys.getD 0 tT)
    (fun i W ys=>if i=7 then (∃x,cF bi vs K=vb x) else if i=8 then One 56 G.heap.size (gU ak) W (ys.getD 0 tT) else if i=9 then ApV 56 5 G z j B (us++gU ak) W (ys.getD 0 tT) else True)
    (fun ch W=>Chg (bf M [vT,vR,ad,O D cs.length cC,vA]) G W∧∃er,cF bi vs K=wD er∧Ending.panicked ch=aQ er.1 er.2) ?_ (by kernel_rfl) ?_ ?_ fv ?_
   ·rintro a ch W hd ⟨hc,er,h1,h2⟩;refine⟨hd,dz (bq.o.h (Chg.b cp.o)) hc (fun x hx=>?_),?_⟩
    ·rcases jY vV hx with h|h
     ·exact tE h
     ·exact (c5.o _ h).imp (fun h=>tS ⟨_,by simp,h⟩) id
    ·show match dX bi Q tr vars Ts with | .ok x=>_ | .error er=>_
     rw[h7.o]
     show match dX bi Q (vb P) vars Ts with | .ok x=>_ | .error er=>_
     unfold dX;dsimp only;rw[nr.o er h1];exact h2
   ·intro i he hc s W W' h u
    by_cases a1:s=0
    ·subst a1;exact cd h u
    ·by_cases a6:s=1
     ·subst a6;have h:AS W:=h;exact uj.C h u
     ·have h:∃R,AS R∧ApS 56 5 R z j B (us++gU ak) W:=by simpa only [SS,ox a1,ox a6]using h
      obtain⟨R,g1,g2⟩:=h;have h':∃R,AS R∧ApS 56 5 R z j B (us++gU ak) W':=⟨R,g1,g2.C u⟩
      simpa only [SS,ox a1,ox a6]using h'
   ·intro k W W' ys h _ hR
    split at h
    ·rw[oA (by assumption)];exact h
    ·rw[ox (by assumption)]
     split at h
     ·rw[oA (by assumption)];exact h.t hR
     ·rw[ox (by assumption)]
      split at h
      ·rw[oA (by assumption)];exact h.t hR
      ·rw[ox (by assumption)];trivial
   simp only[Fg,Fu,Fh,Ft]
   repeat (refine RP.h (fun W=>∃x:Ks G (fun b=>b=w.heap.size+1∨b=w.heap.size∨b=wr.heap.size),W=x.1) (dr.o _) Z Z Z fv ?_;go_big_quiet_step (fail);refine vk ?_)
   refine RP.b Z Z ?_ (fun k5=>?_)
   ·intro W hC hS hE;obtain⟨x,rfl⟩:∃x:Wb G,W=x.1:=hS Z;refine RP.uponP_call 108 _ _ Z (enters_of Tryz.func108 (by kernel_rfl) Z) #[tv (A ⟨M,0,V⟩),s3 #[I J K.b,p9 K.h,I Y K.q,I Y K.t,O ps nk c8],ur bi] (by simp[Act.eval]) ((kc.o x.1 x.2).mono ?_);rintro e W' ⟨u,he⟩
    cases hr:cF bi vs K with
    | error er =>
     rw[hr]at he;have he:e=aQ er.1 er.2:=he;subst he;exact tS ⟨_,Z,(Chg.b x.2).h u,er,Z,Z⟩
    | ok xa =>
     rw[hr]at he;obtain⟨rfl,cq,g1,g2⟩:=he;have nu:=x.2.size;refine tE ⟨_,Z,[],?_,?_,?_,xa,Z⟩
     ·show s3 (gU xa.2).toArray=s3 (gU ak).toArray
      rw[HA.o xa hr]
     ·exact⟨(Chg.b x.2).h u,xa,cq,hr,g1,fun b u=>(g2 b u).imp id (fun h=>EZ nu h)⟩
     ·exact ApR.of_chg u hs.o
   simp only[Act.put,EV,Fe,Fc,Nat.reduceAdd,↓reduceIte];refine RP.b Z Z ?_ (fun fI=>?_)
   ·intro W hC hS hE;have nx:G.heap.size≤W.heap.size:=by
     obtain⟨s,_,h⟩:=hC;have h:SS s W:=h
     by_cases a1:s=0
     ·subst a1;obtain⟨x,rfl⟩:∃x:Wb G,W=x.1:=h;exact x.2.size
     ·by_cases a6:s=1
      ·subst a6;have h:AS W:=h;exact h.1.u
      ·have h:∃R,AS R∧ApS 56 5 R z j B (us++gU ak) W:=by simpa only [SS,ox a1,ox a6]using h
       obtain⟨R,g1,g2⟩:=h;exact EZ g1.1.u g2.chg.u
    exact RP.UponP.of (eL xm (vs:=gU ak) _ Z Z Z nx (fun v W' u ho=>⟨[v],Z,u,ApR.b u,ho⟩))
   simp only[Act.put,EV,Fe,Fc,Nat.reduceAdd,Nat.reduceEqDiff,↓reduceIte];refine RP.b Z Z ?_ (fun k6=>?_)
   ·intro W hC hS hE;have hS:AS W:=hS Z;have y:W.ownsRow 0 56 5 (O z j B) j us:=bE dg.o (fun g X=>hS.1.q g (EY (bt.o g X) cp.o.size) (kv.o g X))
    exact RP.UponP.of (CY xm (p:=z) (n:=j) (c:=B) (L:=G.heap.size) (vs:=gU ak) (xs:=us) _ _ Z Z (hE 8 fI (by kernel_rfl) Z) Z (by simp[Value.oneCell',gU]) y (by omega) (fun v' W' h1 h2 =>
     ⟨[v'],Z,⟨W,hS,h1⟩,ApR.of_chg h1.chg (fun b u=>EY (bt.o b u) cp.o.size),h2.from hS.1.u⟩))
   simp only[Act.put,EV,Fe,Fc,Nat.reduceAdd,Nat.reduceEqDiff,↓reduceIte]
   repeat (refine RP.h (fun W=>∃x:Ks G (fun b=>b=w.heap.size+1∨b=w.heap.size∨b=wr.heap.size),W=x.1) (dr.o _) Z Z Z fv ?_;go_big_quiet_step (fail);refine vk ?_)
   refine RP.q ?_;intro W hS hE;obtain⟨R,nA,k7⟩:∃R,AS R∧ApS 56 5 R z j B (us++gU ak) W:=hS;have hV:ApV 56 5 G z j B (us++gU ak) W (k6.getD 0 tT):=hE 9 k6 Z;obtain⟨g',dv,eg,X,hC,H⟩:=Dx k7 hV;rw[eg];obtain⟨bc,x,cq,fT,bd,gm⟩:=nA;have hy:=HA.o x fT;have ba:=hl.o x fT;have gD:=cp.o.size;have hz:=hp.o;have k8:w.heap.size+2≤wr.heap.size:=by have:=(ES.1 t.o).1;omega
   have k9:∀g,(O z j B).ownBlock=A g→¬bf M [vT,vR,cq,O D cs.length cC,vA] g:=fun g ar=>by
    obtain⟨ds,h⟩:=S.o.h ar;have h5:=ag cp.o h (bt.o g ar);have h1:=(bc.q g (EY (bt.o g ar) gD) (kv.o g ar)).trans h5;exact bd.q h1 (by kernel_rfl)
   have av:R.heap[w.heap.size+1]?=A (p8 #[I J Q,I Y (P:Int),O z j B,I J 0,I J 0,I Y 0,p9 ⟨#[]⟩,I Y 0,I J 0,O V 0 0] 53 (0,0)):=(bc.q _ (ES.1 hz).1 nt.o).trans hz;have hD:R.heap[w.heap.size]?=A (p8 #[I J kd,p9 T.h,I Y T.q,I Y T.t,O (A ⟨b,off,V⟩) n c] 64 (0,0)):=(bc.q _ (ES.1 br.o).1 ks.o).trans br.o;have en:W.heap[w.heap.size+1]?=A (p8 #[I J Q,I Y (P:Int),O z j B,I J 0,I J 0,I Y 0,p9 ⟨#[]⟩,I Y 0,I J 0,O V 0 0] 53 (0,0)):=(hC.q _ (ES.1 av).1 (fun e=>(bB.o _ e).1 Z)).trans av;have la:=(hC.q _ (ES.1 hD).1 (fun e=>(bB.o _ e).2.1 Z)).trans hD
   have eo:MkW F d M ts rs x.1 nm sal nv cs acs vT vR cq (O D cs.length cC) vA W:=bd.upd hC.u (fun q C=>by
    rcases C with C|C
    ·exact hC.q q (bd.f q C).1 (fun e=>by have:=cl.o q e;have:=bn.o q C;omega)
    ·exact hC.q q (bd.b C) (fun e=>k9 q e C))
   have hG:g'≠w.heap.size+1∧g'≠w.heap.size∧w.heap.size+2≤g':=by
    rcases X with h|h
    ·exact⟨(bB.o g' h).1,(bB.o g' h).2.1,cl.o g' h⟩
    ·exact⟨by omega,by omega,by omega⟩
   have gE:¬bf M [vT,vR,cq,O D cs.length cC,vA] (w.heap.size+1):=fun ho=>by
    rcases jY vV ho with h|h
    ·have:=cu.o _ h;omega
    ·exact row_ne en eo.v (by decide) h
   obtain⟨W6,a7⟩:=zzx (W.setCell ⟨w.heap.size+1,2,V⟩ (O (A ⟨g',0,V⟩) (j+1) dv));have ga:∀q,q≠w.heap.size+1→W6.heap[q]?=W.heap[q]?:=fun q C=>by rw[a7];exact EW W ⟨w.heap.size+1,2,V⟩ _ q C
   have gF:W6.heap.size=W.heap.size:=by rw[a7];simp[World.setCell]
   have HR:Hid (xP F d M ts rs vars nm sal nv cs acs vT vR vV (O D cs.length cC) vA T kd w bi Q P Ts n (O (A ⟨b,off,V⟩) n c) (I Y ((j+1:Nat):Int)) W6):=by
    refine⟨j+1,x.1,args++[x.2],O (A ⟨g',0,V⟩) (j+1) dv,cq,by omega,Z,?_,by rw[Fl,c7.o];rfl,ba.2,?_,(ga _ (by omega)).trans la,?_,?_,?_,?_,?_⟩
    ·rw[ka.o]
     show (match cF bi vs K with | .ok r=>_ | .error e=>_)=_
     rw[fT]
    ·rw[a7];exact heap_set en 2 _
    ·refine⟨us++gU ak,?_,?_⟩
     ·rw[Fl,c7.o];exact bE H (fun q C=>by injection C with C;have C:g'=q:=C;subst C;exact ga g' hG.1)
     ·exact Rd.cells_snoc (Rd.cells_keep (fun _ u=>u.elim) hv.o) (by rw[hy];exact jx.2 ⟨Z,by rw[←hy];exact ba.1⟩)
    ·intro g ar;injection ar with ar
     have ar:g'=g:=ar;subst ar;exact hG.2.2
    ·refine eo.upd (by rw[gF];exact ET _) (fun q C=>ga q ?_);rcases C with C|C
     ·have:=bn.o q C;omega
     ·exact fun e=>gE (e ▸ C)
    ·intro q C;rcases gm q C with h|h
     ·exact c5.o q h
     ·exact tS (by omega)
    ·have h1:Chg (bf M [vT,vR,vV,O D cs.length cC,vA]) w R:=dz (bq.o.h (Chg.b cp.o)) bc (fun x hx=>by
      rcases jY vV hx with h|h
      ·exact tE h
      ·exact (c5.o _ h).imp (fun h=>tS ⟨_,by simp,h⟩) id)
     have h2:Chg (bf M [vT,vR,vV,O D cs.length cC,vA]) w W:=dz h1 hC (fun x hx=>tS (by have:=cl.o x hx;omega));rw[a7];exact h2.t (p:=⟨w.heap.size+1,2,V⟩) (tS (Fw _)) _
   obtain⟨x0,x1,x2,x3,x4,x5,x6,x7,x8,x9⟩:=dS en;have fz:=cH en;clear hE hV eg X hC H bc fT bd gm hy ba gD hz k8 k9 av hD en la eo hG gE ga gF k7 fv B2 N0 K0 K1 K2 K3 K4 x0 x1 x3 x4 x5 x6 x7 x8 x9;go_upto_region 14 with fail
   change Code.wp _ _ _ _ (W.setCell ⟨w.heap.size+1,2,V⟩ (O (A ⟨g',0,V⟩) (j+1) dv));rw[←a7];clear a7 x2 fz;go_wp2_with fail
   refine⟨HR.o,?_⟩;simp[intOf];omega
  ·have HX:Hid (bs (dD bi) (vars,[]) Ts=vb (vs,args)):=by
    show _=_
    rw[←c6.o,Fq (by rw[gT.o];omega)]
   have lb:Hid (dX bi Q tr vars Ts=vb (vs,⟨Q,(P:Int),args,.zero⟩)):=by
    show _=_
    rw[h7.o];unfold dX;dsimp only;rw[HX.o]
   have nR:Hid (w.heap.size≤wr.heap.size):=bq.o.u;have bk:Hid (MkG (fun q=>F q∨(O z j B).ownBlock=A q) F d M ts rs vs nm sal nv cs acs vT vR ad (O D cs.length cC) vA wr):=by
    refine af.o.grow (fun _ h=>tE h) (fun q C=>?_);rcases C with C|C
    ·exact af.o.f q C
    ·obtain⟨ds,h⟩:=S.o.h C;exact⟨S.o.lt C,af.o.q h (by kernel_rfl)⟩
   have hH:Hid (gQ.lrow 56 wr (fun q=>(O z j B).ownBlock=A q) args (O z j B)):=rW (fun h=>jx.2 (jx.1 h)) S.o (fun g X=>X);clear e0 e1 e2 e3 e4 gg;go_upto_region 17 with fail
   obtain⟨us,y,dc⟩:=bk.o.cc;rw[HN.o,jG,gr]at y;obtain⟨dg,hv⟩:=zz2 y dc;have e0:wr.cell? ⟨w.heap.size+1,0,V⟩=A (I J Q):=by rw[FR _ _ _ _ _ _ t.o];rfl
   have e1:wr.cell? ⟨w.heap.size+1,1,V⟩=A (I Y (P:Int)):=by rw[FR _ _ _ _ _ _ t.o];rfl
   have e2:wr.cell? ⟨w.heap.size+1,2,V⟩=A (O z j B):=by rw[FR _ _ _ _ _ _ t.o];rfl
   have e3:wr.cell? ⟨w.heap.size+1,3,V⟩=A (I J 0):=by rw[FR _ _ _ _ _ _ t.o];rfl
   have e4:wr.cell? ⟨w.heap.size+1,4,V⟩=A (I J 0):=by rw[FR _ _ _ _ _ _ t.o];rfl
   have e5:wr.cell? ⟨w.heap.size+1,5,V⟩=A (I Y 0):=by rw[FR _ _ _ _ _ _ t.o];rfl
   have e6:wr.cell? ⟨w.heap.size+1,6,V⟩=A (p9 ⟨#[]⟩):=by rw[FR _ _ _ _ _ _ t.o];rfl
   have e7:wr.cell? ⟨w.heap.size+1,7,V⟩=A (I Y 0):=by rw[FR _ _ _ _ _ _ t.o];rfl
   have e8:wr.cell? ⟨w.heap.size+1,8,V⟩=A (I J 0):=by rw[FR _ _ _ _ _ _ t.o];rfl
   have e9:wr.cell? ⟨w.heap.size+1,9,V⟩=A (O V 0 0):=by rw[FR _ _ _ _ _ _ t.o];rfl
   have hI:wr.cell? ⟨M,6,V⟩=A (O D nC cC):=by rw[FR _ _ _ _ _ _ bk.o.m,←HN.o];rfl
   have hK:∀b,(b=M∨b=w.heap.size+1)→b<wr.heap.size∧(O D nC cC).ownBlock≠A b:=fun b u=>by
    rw[←HN.o];rcases u with rfl|rfl
    ·exact⟨bk.o.lt,row_ne bk.o.m bk.o.c (by decide)⟩
    ·exact⟨(ES.1 t.o).1,fun e=>by have:=hN.o _ e;omega⟩
   have dr:=Hd (kb (E:=53) (sz:=10) (row:=us++[I J Q,I Y (P:Int),O z j B,I J 0,I J 0,I Y 0,p9 ⟨#[]⟩,I Y 0,I J 0,O V 0 0]) (K:=(fun b=>b=M∨b=w.heap.size+1)) hK);have E0:=fun x:Ks wr (fun b=>b=M∨b=w.heap.size+1)=>x.b (tS Z) e0
   have E1:=fun x:Ks wr (fun b=>b=M∨b=w.heap.size+1)=>x.b (tS Z) e1
   have E2:=fun x:Ks wr (fun b=>b=M∨b=w.heap.size+1)=>x.b (tS Z) e2
   have E3:=fun x:Ks wr (fun b=>b=M∨b=w.heap.size+1)=>x.b (tS Z) e3
   have E4:=fun x:Ks wr (fun b=>b=M∨b=w.heap.size+1)=>x.b (tS Z) e4
   have E5:=fun x:Ks wr (fun b=>b=M∨b=w.heap.size+1)=>x.b (tS Z) e5
   have E6:=fun x:Ks wr (fun b=>b=M∨b=w.heap.size+1)=>x.b (tS Z) e6
   have E7:=fun x:Ks wr (fun b=>b=M∨b=w.heap.size+1)=>x.b (tS Z) e7
   have E8:=fun x:Ks wr (fun b=>b=M∨b=w.heap.size+1)=>x.b (tS Z) e8
   have E9:=fun x:Ks wr (fun b=>b=M∨b=w.heap.size+1)=>x.b (tS Z) e9
   have M2:=fun x:Ks wr (fun b=>b=M∨b=w.heap.size+1)=>x.b (tE Z) hI
   clear y dc e0 e1 e2 e3 e4 e5 e6 e7 e8 e9 hI hK;refine RE.t (by kernel_rfl) 9 [7,8] [8] (stA 53 10 wr D nC cC (us++[I J Q,I Y (P:Int),O z j B,I J 0,I J 0,I Y 0,p9 ⟨#[]⟩,I Y 0,I J 0,O V 0 0])) (ApR wr) (fun _ ys=>ys.getD 0 tT) (phA 53 10 wr D nC cC [I J Q,I Y (P:Int),O z j B,I J 0,I J 0,I Y 0,p9 ⟨#[]⟩,I Y 0,I J 0,O V 0 0] (us++[I J Q,I Y (P:Int),O z j B,I J 0,I J 0,I Y 0,p9 ⟨#[]⟩,I Y 0,I J 0,O V 0 0]) 7 8) (by kernel_rfl) (fun _ _ _ _ _ _ h u=>h.C u) (fun _ _ _ _ h _ hR=>h.t hR) stA.zero ?_;simp only[Fg,Fu,Fh,Ft]
   repeat (refine RE.h (fun W=>∃x:Ks wr (fun b=>b=M∨b=w.heap.size+1),W=x.1) (dr.o _) Z Z Z stA.zero ?_;go_big_quiet_step (fail);refine vk ?_)
   refine RE.b Z Z ?_ (fun k5=>?_)
   ·intro W hC hS hE;obtain⟨s9,_,h9⟩:=hC;exact eL lM (vs:=[I J Q,I Y (P:Int),O z j B,I J 0,I J 0,I Y 0,p9 ⟨#[]⟩,I Y 0,I J 0,O V 0 0]) _ Z Z Z h9.u (fun v W' u ho=>⟨[v],Z,u,ApR.b u,ho⟩)
   simp only[Act.put,EV,Fe,Fc];refine RE.b Z Z ?_ (fun fI=>?_)
   ·intro W hC hS hE;obtain⟨x,rfl⟩:∃x:Wb wr,W=x.1:=hS Z;exact iH lM (p:=D) (n:=nC) (c:=cC) (w4:=wr) (vs:=[I J Q,I Y (P:Int),O z j B,I J 0,I J 0,I Y 0,p9 ⟨#[]⟩,I Y 0,I J 0,O V 0 0]) (xs:=us) _ _ Z Z (hE 7 k5 (by kernel_rfl) Z) Z (by simp[Value.oneCell']) x.2 dg.o (by omega) (fun v' W' h1 h2 h3=>⟨[v'],Z,h1,h2,h3⟩)
   simp only[Act.put,EV,Fe,Fc];refine RE.q ?_;intro W hS hE;have hS:ApS 53 10 wr D nC cC (us++[I J Q,I Y (P:Int),O z j B,I J 0,I J 0,I Y 0,p9 ⟨#[]⟩,I Y 0,I J 0,O V 0 0]) W:=hS;have hV:ApV 53 10 wr D nC cC (us++[I J Q,I Y (P:Int),O z j B,I J 0,I J 0,I Y 0,p9 ⟨#[]⟩,I Y 0,I J 0,O V 0 0]) W (fI.getD 0 tT):=hE 8 fI Z;obtain⟨g',cap,eg,X,hC,H⟩:=jq hS hV;rw[eg];have bc:Chg (fun b=>(O D cs.length cC).ownBlock=A b) wr W:=by rw[HN.o];exact hC
   have hJ:(O D cs.length cC).ownBlock=A g'∨wr.heap.size≤g':=by rw[HN.o];exact X
   have ld:(ft d).at_ wr (fun q=>(O z j B).ownBlock=A q) ⟨Q,(P:Int),args,.zero⟩ [I J Q,I Y (P:Int),O z j B,I J 0,I J 0,I Y 0,p9 ⟨#[]⟩,I Y 0,I J 0,O V 0 0]:=lS.2 ⟨(by rcases hf.o with ⟨_,h,_⟩|⟨_,h,_⟩<;>(show U8 Q;rw[h];exact⟨by decide,by decide⟩):U8 Q),⟨by show (-9223372036854775808:Int)≤(P:Int);omega,by show (P:Int)<9223372036854775808;omega⟩,⟨show U8 0 from ⟨by decide,by decide⟩,⟨show U8 0 from ⟨by decide,by decide⟩,show I64 0 from ⟨by decide,by decide⟩,(show (⟨#[]⟩:ByteArray).size≤maxLen by decide)⟩,show I64 0 from ⟨by decide,by decide⟩,show U8 0 from ⟨by decide,by decide⟩⟩,O z j B,O V 0 0,Z,hH.o,lL⟩
   obtain⟨a7,lf,hL⟩:=bk.o.pushC HN.o hv.o ld (fun q C=>⟨tS C,fun h=>by obtain⟨ds,h2⟩:=S.o.h C;have h3:=af.o.f q h;have:=cl.o q C;have:=bn.o q h;omega⟩) hJ bc (by rw[jG,gr];exact H);have hI:W.cell? ⟨M,6,V⟩=A (O D nC cC):=by rw[FR _ _ _ _ _ _ (hL.trans bk.o.m),←HN.o];rfl
   have oj:=bM (hL.trans bk.o.m) 6;have HP:Hid (kD F d M ts rs nm sal nv cs acs vT vR vV (O D cs.length cC) vA (vb (vs,⟨Q,(P:Int),args,.zero⟩)) w (Ending.returned (ur true)) (W.setCell ⟨M,6,V⟩ (O (A ⟨g',0,V⟩) (nC+1) cap))):=by
    refine⟨dz bq.o lf (fun x hx=>by rcases jY vV hx with h|h;exact tE h;exact (c5.o _ h).imp (fun h=>tS ⟨_,by simp,h⟩) id),Z,(fun q=>F q∨(O z j B).ownBlock=A q),ad,_,a7,c5.o,fun b u=>?_,fun _ h=>tE h,fun b h=>h.imp id (fun h=>by have:=cl.o b h;omega)⟩
    injection u with u
    have u:g'=b:=u;subst u;rcases hJ with h|h
    ·exact tE h
    ·have:=nR.o;exact tS (by omega)
   clear hS hV hE eg X hC H bc hJ a7 lf hL E0 E1 E2 E3 E4 E5 E6 E7 E8 E9 M2 dr ld;go_wp2_with fail
   go_ret;rw[lb.o];exact HP.o
