/- The rule checker: a condition that asks for a fact, or for none; by contract. Condition: as an expression's. Printed by tools/genCond.py. -/
import Derived.Test.YtoahnjkclckodaaGreatDoorNH
import Derived.Test.YtoahnjkclckodaaGreatDoorNB
open Except renaming error→zs,ok→xn
open Go.Value renaming agg→wP,int→I,string→r9,slice→O,pointer→vo,bool→xt
open Go.IntKind renaming u8→r8,i64→U
open Go renaming World→J,Value→tS,undef→xk,wpQuiet_nil→xL
open Option renaming none→Y,some→A
open Or renaming inl→wD,inr→wF
open Go.Obj renaming cells→r7
namespace Go.Proofs.YtoahnjkclckodaaGreatDoor
set_option maxHeartbeats 8000000
set_option maxRecDepth 100000
open Go.RowKit
def eh(binds:Bool) (kd:Int) (a:Except Flt Nat) (vars:List ByteArray) (Ts:List ac):Except Flt (List ByteArray×bj):=match a with
 | .error e=>zs e
 | .ok k=>match aV (cg binds) (vars,[]) Ts with
  | .error e=>zs e
  | .ok r=>xn (r.1,⟨kd,k,r.2,.zero⟩)
theorem Ag:Elem 267 161 5 48:=Elem.of (z:=wP #[I r8 0,I U 0,I r8 0,I U 0,r9 ByteArray.empty]) Tryz.underlying161 (by kernel_rfl) (by kernel_rfl) (by decide) (by decide)
theorem Fq{w:J}{F:Nat→Prop}{d:Nat}:fU w F d [] (O Y 0 0):=by
 cases d with
 | zero=>exact⟨Z,Y,0,Z⟩
 | succ d=>exact Rd.tk
def Jy:Except Flt (List ByteArray×fe)→fe
 | .ok x=>x.2
 | .error _=>⟨0,0,.zero⟩
theorem Fa(x:ByteArray)(l:List ByteArray)(k:Nat)(h:idxOf x l=A k):k<l.length:=by
 have:=(oQ x l 0 k h).2;omega
theorem zX{b:Bool}{vars:List ByteArray}{T:ac}{x:List ByteArray×fe}(c:T.h.size≤72007)(a:vars.length≤16)(h:cO b vars T=xn x):Au x.2∧x.1.length≤16:=by
 have z:gy aE.zero:=⟨⟨by decide,by decide⟩,⟨by decide,by decide⟩,by decide⟩;unfold cO at h
 split at h
 ·injection h with h;subst h;exact⟨⟨show U8 1 from ⟨by decide,by decide⟩,show I64 0 from ⟨by decide,by decide⟩,z⟩,a⟩
 ·split at h
  ·cases hi:idxOf T.h vars with
   | some k =>
    rw[hi]at h;injection h with h;subst h
    have:=Fa _ _ _ hi;exact⟨⟨show U8 3 from ⟨by decide,by decide⟩,⟨by show (-9223372036854775808:Int)≤(k:Int);omega,by show (k:Int)<9223372036854775808;omega⟩,z⟩,a⟩
   | none =>
    rw[hi]at h;dsimp only at h
    split at h
    ·cases h
    ·split at h
     ·cases h
     ·injection h with h;subst h
      refine⟨⟨show U8 2 from ⟨by decide,by decide⟩,⟨by show (-9223372036854775808:Int)≤(vars.length:Int);omega,by show (vars.length:Int)<9223372036854775808;omega⟩,z⟩,?_⟩
      show (vars++[T.h]).length≤16
      rw[J2];simp;omega
  ·injection h with h;subst h;exact⟨⟨show U8 4 from ⟨by decide,by decide⟩,show I64 0 from ⟨by decide,by decide⟩,tX T c⟩,a⟩
theorem kQ{M:Nat}{vT vR a vC vA:tS}{b:Nat}(vV:tS)(h:bh M [vT,vR,a,vC,vA] b):bh M [vT,vR,vV,vC,vA] b∨a.ownBlock=A b:=by
 rcases h with rfl|⟨v,d,c⟩
 ·exact wD (wD Z)
 ·simp only[Kk,Ki,o8]at d;rcases d with rfl|rfl|rfl|rfl|rfl
  ·exact wD (wF ⟨_,by simp,c⟩)
  ·exact wD (wF ⟨_,by simp,c⟩)
  ·exact wF c
  ·exact wD (wF ⟨_,by simp,c⟩)
  ·exact wD (wF ⟨_,by simp,c⟩)
def xy(F:Nat→Prop) (d M:Nat) (ts:List am) (rs:List aD) (vars:List ByteArray) (nm:ByteArray) (sal nv:Int) (cs:List bj) (acs:List dr) (vT vR vV vC vA:tS) (b:Bool) (K:ac) (c W:J):Prop:=
 Chg (bh M [vT,vR,vV,vC,vA]) c W∧∃x a,cO b vars K=xn x∧MkW F d M ts rs x.1 nm sal nv cs acs vT vR a vC vA W∧Grew vV a c.heap.size
theorem xy.C{F:Nat→Prop}{d M:Nat}{ts:List am}{rs:List aD}{vars:List ByteArray}{nm:ByteArray}{sal nv:Int}{cs:List bj}{acs:List dr}{vT vR vV vC vA:tS}{b:Bool}{K:ac}{c W W':J}(h:xy F d M ts rs vars nm sal nv cs acs vT vR vV vC vA b K c W)(e:Kr W W'):xy F d M ts rs vars nm sal nv cs acs vT vR vV vC vA b K c W':=by
 obtain⟨f,x,a,g,i,j⟩:=h;exact⟨f.h (Chg.u e),x,a,g,i.C e,j⟩
def AN(F:Nat→Prop) (d M:Nat) (ts:List am) (rs:List aD) (vars:List ByteArray) (nm:ByteArray) (sal nv:Int) (cs:List bj) (acs:List dr) (vT vR vV vC vA:tS) (T:ac) (k:Int) (w:J) (binds:Bool) (kd:Int) (b:Nat) (Ts:List ac) (n:Nat) (c i:tS) (W:J):Prop:=
 ∃(j:Nat) (vs:List ByteArray) (args:List fe) (v a:tS),j≤n∧i=I U (j:Int)∧aV (cg binds) (vars,[]) (Ts.take j)=xn (vs,args)∧args.length=j∧vs.length≤16∧
  W.heap[w.heap.size+1]?=A (r7 #[I r8 kd,I U b,v,I r8 0,I r8 0,I U 0,r9 ⟨#[]⟩,I U 0,I r8 0,O Y 0 0] 168 (0,0))∧W.heap[w.heap.size]?=A (r7 #[I r8 k,r9 T.h,I U T.u,I U T.C,c] 145 (0,0))∧
  aA W (fun _=>False) 267 t7 args v∧(∀g,v.ownBlock=A g→w.heap.size+2≤g)∧MkW F d M ts rs vs nm sal nv cs acs vT vR a vC vA W∧Grew vV a w.heap.size∧Chg (bh M [vT,vR,vV,vC,vA]) w W
theorem vl(kd R:Int)(bi:Bool)(gL:kd=5∧R=1∧bi=true∨kd=6∧R=2∧bi=false)(F:Nat→Prop)(d M:Nat)(ts:List am)(rs:List aD)(vars:List ByteArray)(nm:ByteArray)(sal nv:Int)(cs:List bj)(acs:List dr)(vT vR vV vC vA:tS)(T:ac)(Ts:List ac)(p:Option Addr)(n c B0 dd:Nat)(tr:Except Flt Nat)(w:J)
  (hw:MkW F d M ts rs vars nm sal nv cs acs vT vR vV vC vA w) (hk:T.q=kd) (mi:cs.length≤10000) (mn:vars.length≤16) (hQ:Ts.length=n) (hn:n≤10000) (bg:∀k,tr=xn k→k≤10000)
  (en:ax w B0 (dd+1) Ts (O p n c)) (mu:B0≤w.heap.size) (hO:∀b,bh M [vT,vR,vV,vC,vA] b→B0≤b) (cp:∀K∈Ts,(K.q=12∨K.q=13∨K.q=14∨K.q=15)∧K.h.size≤72007)
  (gM:∀W,Kr w W→Calls Tryz.prog 156 #[vo (A ⟨M,0,Y⟩),wP #[I r8 kd,r9 T.h,I U T.u,I U T.C,O p n c]] W (qL tr nL W)) :
  Calls Tryz.prog 130 #[vo (A ⟨M,0,Y⟩),wP #[I r8 T.q,r9 T.h,I U T.u,I U T.C,O p n c]] w (lQ F d M ts rs nm sal nv cs acs vT vR vV vC vA (eh bi R tr vars Ts) w):=by
 rw[hk];obtain⟨C,D,mv⟩:=hw.c.q;subst mv;obtain⟨nC,gN⟩:=zzy (cs.length);have HN:=Hd gN;rw[gN]at mi;obtain⟨w1,eo⟩:=zzx ((w.alloc (r7 #[I r8 kd,r9 T.h,I U T.u,I U T.C,O p n c] 145)).alloc (r7 #[I r8 0,I U 0,O Y 0 0,I r8 0,I r8 0,I U 0,r9 ⟨#[]⟩,I U 0,I r8 0,O Y 0 0] 168));obtain⟨et,cq,_⟩:=bc w (r7 #[I r8 kd,r9 T.h,I U T.u,I U T.C,O p n c] 145) (r7 #[I r8 0,I U 0,O Y 0 0,I r8 0,I r8 0,I U 0,r9 ⟨#[]⟩,I U 0,I r8 0,O Y 0 0] 168);have a1:Kr w w1:=by rw[eo];exact ((JO _ w).alloc (JM _) _).alloc (by simp) _
 rw[←eo]at et cq;obtain⟨hT,cr⟩:=zz2 (fun g hg=>hw.c.lt (g:=g) hg) (fun b u=>hw.h (b:=b) u);have ct:=Hd (fun b (u:F b)=>(hw.f b u).1);obtain⟨hU,gO,hX,nr⟩:=zz4 et cq a1 (hw.C a1);have ns:Hid (w.heap.size+2≤w1.heap.size):=by
  have h:=(JL.1 gO.o).1
  show _≤_
  omega
 obtain⟨gS,HO,gT,ha,nt⟩:=zz5 en hO cp hQ (fun (W:J) (h:Kr w1 W)=>gM W (a1.trans (h.mono a1.size)));obtain⟨Q,hf⟩:∃Q:Nat,Q=okN tr:=⟨_,rfl⟩;have m0:Hid (∀k,tr=xn k→Q=k):=fun k h=>by rw[hf,h];rfl
 have nu:Q≤10000:=by
  rw[hf]
  cases tr with
  | ok k=>exact bg k Z
  | error e=>exact J0 _
 have nx:=Hd (fun g hg=>hw.v.lt (g:=g) hg);obtain⟨e0,e1,e2,e3,e4⟩:=cells5 et;obtain⟨b0,b1,b2,b3,b4,b5,b6,b7,b8,b9⟩:=nH cq;have fz:=ee cq;obtain⟨hY,gf⟩:=zz2 hw gM;have ny:(kd==5)=bi:=by rcases gL with ⟨rfl,_,rfl⟩|⟨rfl,_,rfl⟩<;>rfl
 have hh:=Hd gL;clear et cq a1 hw hk gN en hO gM bg hQ hf cp gL
 go_enter Tryz.func130,Tryz.ntmps130
 go_upto_region 2 with fail
 change Code.wp _ _ _ _ ((w.alloc (r7 #[I r8 kd,r9 T.h,I U T.u,I U T.C,O p n c] 145)).alloc (r7 #[I r8 0,I U 0,O Y 0 0,I r8 0,I r8 0,I U 0,r9 ⟨#[]⟩,I U 0,I r8 0,O Y 0 0] 168));rw[←eo];clear eo
 go_upto_if 10 with fail
 go_cut [10] from 11 to 12 (fun v W=>v=xt true∧w1=W)
 case first =>
  rcases hh.o with ⟨rfl,rfl,rfl⟩|⟨rfl,rfl,rfl⟩
  all_goals
   go_wp2_with fail
   go_meet
   case rel=>exact⟨Z,Z⟩
 case rest =>
 obtain⟨rfl,rfl⟩:=hcut
 go_upto_if 16 with fail
 go_cut [] from 17 to 17 (fun W=>W.heap[w.heap.size+1]?=A (r7 #[I r8 R,I U 0,O Y 0 0,I r8 0,I r8 0,I U 0,r9 ⟨#[]⟩,I U 0,I r8 0,O Y 0 0] 168 (0,0))∧Kr w W∧W.heap[w.heap.size]?=A (r7 #[I r8 kd,r9 T.h,I U T.u,I U T.C,O p n c] 145 (0,0)))
 case first =>
  rcases hh.o with ⟨rfl,rfl,rfl⟩|⟨rfl,rfl,rfl⟩
  ·go_wp2_with fail
   go_meet
   case rel=>exact⟨heap_set gO.o 0 _,hX.o.setCell (p:=⟨w.heap.size+1,0,Y⟩) (J9 _) _,az hU.o (by omega) _ _⟩
  ·go_wp2_with fail
   go_meet
   case rel=>exact⟨heap_set (heap_set gO.o 0 _) 0 _,(hX.o.setCell (p:=⟨w.heap.size+1,0,Y⟩) (J9 _) _).setCell (p:=⟨w.heap.size+1,0,Y⟩) (J9 _) _,az (az hU.o (by omega) _ _) (by omega) _ _⟩
 case rest =>
 obtain⟨hl,cu,h7⟩:=hcut;obtain⟨h8,fm,hp⟩:=zz3 hl cu h7;have nA:Hid (w.heap.size+2≤wc.heap.size):=by show _≤_;have h:=(JL.1 hl).1;omega
 obtain⟨ih,m1,m2⟩:=zz3 (gf.o wc cu) (Chg.u (F:=bh M [vT,vR,vV,O C cs.length D,vA]) cu) (hY.o.C cu);clear hl cu h7 hY gf e0 e1 e2 e3 e4 b0 b1 b2 b3 b4 b5 b6 b7 b8 b9 fz;obtain⟨e0,e1,e2,e3,e4⟩:=cells5 hp.o;go_wp2_with fail
 refine ih.o.mono ?_;rintro e W3 ⟨cc,he⟩
 cases bg:tr with
 | error er =>
  rw[bg]at he;have he:e=aR er.1 er.2:=he;subst he;exact⟨Z,Chg.u (fm.o.trans (cc.mono fm.o.size)),Z⟩
 | ok k =>
 rw[bg]at he;obtain rfl:=m0.o k bg;have he:e=Ending.returned (I U (Q:Int)):=he;subst he;have ix:=Hd bg;clear he bg;have m3:=Hd (fm.o.trans (cc.mono fm.o.size));have fr:=aa cc h8.o (JL.1 h8.o).1;have iA:=aa cc hp.o (JL.1 hp.o).1;obtain⟨W4,cf⟩:=zzx (W3.setCell ⟨w.heap.size+1,1,Y⟩ (I U (Q:Int)));have m4:Hid (W4.heap[w.heap.size+1]?=A (r7 #[I r8 R,I U (Q:Int),O Y 0 0,I r8 0,I r8 0,I U 0,r9 ⟨#[]⟩,I U 0,I r8 0,O Y 0 0] 168 (0,0))):=by show _=_;rw[cf];exact heap_set fr 1 _
 have iB:Hid (W4.heap[w.heap.size]?=A (r7 #[I r8 kd,r9 T.h,I U T.u,I U T.C,O p n c] 145 (0,0))):=by show _=_;rw[cf,JQ _ _ _ _ (show w.heap.size≠w.heap.size+1 by omega)];exact iA
 have cl:¬bh M [vT,vR,vV,O C cs.length D,vA] (w.heap.size+1):=fun ho=>by have:=cr.o _ ho;omega
 have m5:Hid (MkW F d M ts rs vars nm sal nv cs acs vT vR vV (O C cs.length D) vA W4):=by
  show MkW _ _ _ _ _ _ _ _ _ _ _ _ _ _ _ _ _
  rw[cf];refine ((m2.o).C cc).upd (by simp[World.setCell]) (fun x hx=>JQ _ _ _ _ ?_);rcases hx with hx|hx
  ·have:=ct.o x hx;intro e;simp only at e;omega
  ·intro e;simp only at e;exact cl (e ▸ hx)
 have m6:Hid (Chg (bh M [vT,vR,vV,O C cs.length D,vA]) w W4):=by show Chg _ _ _;rw[cf];exact (Chg.u m3.o).K (p:=⟨w.heap.size+1,1,Y⟩) (wF (J9 _)) _
 obtain⟨b0,b1,b2,b3,b4,b5,b6,b7,b8,b9⟩:=nH fr;have fz:=ee fr;clear e0 e1 e2 e3 e4 cc iA fr cl;go_upto_region 10 with fail
 change Code.wp _ _ _ _ (W3.setCell ⟨w.heap.size+1,1,Y⟩ (I U (Q:Int)));rw[←cf];clear cf b0 b1 b2 b3 b4 b5 b6 b7 b8 b9 fz;obtain⟨e0,e1,e2,e3,e4⟩:=cells5 iB.o;go_wp2_with fail
 go_loopw [25] (AN F d M ts rs vars nm sal nv cs acs vT vR vV (O C cs.length D) vA T kd w bi R Q Ts n (O p n c)) (fun i _=>n-(intOf i).toNat)
 case atStart=>exact⟨0,vars,[],O Y 0 0,vV,J0 _,Z,Z,Z,mn,m4.o,iB.o,aA.nil,(fun g h=>by cases h),m5.o,fun b u=>wD u,m6.o⟩
 case round =>
  obtain⟨j,vs,args,v,ad,hj,rfl,cy,hlen,iX,gg,cA,N,jj,j2,kc,cR⟩:=hrel;obtain⟨z,B,kn⟩:=N.q;rw[hlen]at kn;subst kn;have nR:(0:Int)≤j:=by omega
  obtain⟨t,bt,V,cT,a6,cV,bB⟩:=zz7 gg cA N jj j2 kc cR;obtain⟨cW,c5⟩:=zz2 cy hlen;have gr:Hid (Below B0 w wr):=Chg.X (JO B0 w) cR HO.o mu;clear gg cA N jj j2 kc cR cy hlen e0 e1 e2 e3 e4;obtain⟨e0,e1,e2,e3,e4⟩:=cells5 bt.o
  by_cases m7:j<n
  ·have nT:(j:Int)<n:=by omega
   obtain⟨K,hK⟩:∃K,Ts[j]?=A K:=⟨_,JR (by rw[ha.o];exact m7)⟩;have en:=gS.o.C gr.o;rcases en with ⟨rfl,_⟩|⟨b,off,cap,h1,h2,h3,h4,he,h6⟩
   ·simp at hK
   rw[ha.o]at he;injection he with m9 _ na
   subst m9;subst na;obtain⟨bk,s,c0,c1,c2,c3,c4,cp⟩:=h6 j K hK;obtain⟨ps,c6,rfl⟩:=cp.h;obtain⟨nk,kv⟩:=zzy (K.z.length);rw[kv]at c4;have kI:=Hd ((iU (f:=cg bi) hK cW.o).trans (zO bi (vs,args) K))
   have nb:=Hd (fun er (h:cO bi vs K=zs er)=>jS (f:=cg bi) (l:=Ts) (k:=j+1) (s:=(vars,[])) (e:=er) (by
    rw[kI.o]
    show (match cO bi vs K with | .ok r=>_ | .error e=>_)=_
    rw[h]))
   obtain⟨af,hA⟩:=zzx (Jy (cO bi vs K));have HA:Hid (∀x,cO bi vs K=xn x→x.2=af):=fun x h=>by rw[hA,h];rfl
   have hs:=Hd (fun x (h:cO bi vs K=xn x)=>zX (b:=bi) (vars:=vs) (T:=K) (gT.o K (J8 hK)).2 iX h);obtain⟨G,fs⟩:=zzx (wr.alloc (r7 #[I r8 K.q,r9 K.h,I U K.u,I U K.C,O ps nk c6] 145));have aq:Kr wr G:=by rw[fs];exact (JO _ wr).alloc (JM _) _
   have c7:G.heap[wr.heap.size]?=A (r7 #[I r8 K.q,r9 K.h,I U K.u,I U K.C,O ps nk c6] 145 (0,0)):=by rw[fs];exact oc wr _
   obtain⟨cm,n5,k5⟩:=zz3 aq c7 (fun (W:J) (hW:Kr G W)=>Ig F d M ts rs vs nm sal nv cs acs vT vR ad (O C cs.length D) vA K ps nk c6 bi W ((a6.o.C aq).C hW) (gT.o K (J8 hK)).1 (gT.o K (J8 hK)).2 iX);have X:=aa aq t.o (JL.1 t.o).1;have P:=aa aq bt.o (JL.1 bt.o).1;obtain⟨ht,bR,hv⟩:=zz3 X P (fun b u=>(a6.o.C aq).h (b:=b) u);have cl:¬bh M [vT,vR,ad,O C cs.length D,vA] (w.heap.size+1):=fun ho=>by
    rcases kQ vV ho with h|h
    ·have:=cr.o _ h;omega
    ·exact row_ne X (a6.o.C aq).v (by decide) h
   have hy:¬bh M [vT,vR,ad,O C cs.length D,vA] w.heap.size:=(a6.o.C aq).q P (by kernel_rfl);have k6:¬bh M [vT,vR,ad,O C cs.length D,vA] wr.heap.size:=(a6.o.C aq).q c7 (by kernel_rfl);have k7:∀g,(O z j B).ownBlock=A g→¬bh M [vT,vR,ad,O C cs.length D,vA] g:=fun g hg=>by
    obtain⟨ds,h⟩:=V.o.u hg;exact a6.o.q h (by kernel_rfl)
   obtain⟨nc,k8,k9⟩:=zz3 cl hy k7;have c8:∀g,(O z j B).ownBlock=A g→g<wr.heap.size:=fun g hg=>V.o.lt hg
   have ca:=Hd c8;have bl:∀g,(O z j B).ownBlock=A g→g≠w.heap.size+1∧g≠w.heap.size∧g≠wr.heap.size:=fun g hg=>by
    have h1:=cT.o g hg;have h2:=c8 g hg;exact⟨by omega,by omega,by omega⟩
   have cb:=Hd bl;obtain⟨us,y,c9⟩:=V.o;rw[c5.o]at y;have y:wr.ownsRow 0 267 5 (O z j B) j us:=y;obtain⟨hz,dg⟩:=zz2 c9 (hH y aq)
   let AS:J→Prop:=xy F d M ts rs vs nm sal nv cs acs vT vR ad (O C cs.length D) vA bi K G
   let SS:Nat→J→Prop:=fun s W=>if s=0 then (∃x:Wb G,W=x.1) else if s=1 then AS W else ∃S,AS S∧ApS 267 5 S z j B (us++iy af) W
   have ft:SS 0 G.drew:=⟨⟨G.drew,(JO _ _).drew⟩,Z⟩;have la:∀(m s:Nat) (W:J),s≤m→SS s W→∃x:Ks G (fun b=>b=w.heap.size+1∨b=w.heap.size∨b=wr.heap.size),W=x.1:=fun m s W _ h=>by
    have l1:=(JL.1 X).1;have l2:=(JL.1 P).1;have l3:=(JL.1 c7).1;have h0:∀b,(b=w.heap.size+1∨b=w.heap.size∨b=wr.heap.size)→b<G.heap.size∧¬bh M [vT,vR,ad,O C cs.length D,vA] b∧(O z j B).ownBlock≠A b:=by
     rintro b (rfl|rfl|rfl)
     ·exact⟨l1,cl,fun e=>(bl _ e).1 Z⟩
     ·exact⟨l2,hy,fun e=>(bl _ e).2.1 Z⟩
     ·exact⟨l3,k6,fun e=>(bl _ e).2.2 Z⟩
    refine⟨⟨W,fun b u=>?_⟩,Z⟩;obtain⟨q1,q2,q3⟩:=h0 b u
    by_cases ba:s=0
    ·subst ba;obtain⟨x,rfl⟩:∃x:Wb G,W=x.1:=h;exact x.2.block b q1
    ·by_cases bb:s=1
     ·subst bb;have h:AS W:=h;exact h.1.q b q1 q2
     ·have h:∃S,AS S∧ApS 267 5 S z j B (us++iy af) W:=by
       have h':SS s W:=h
       show ∃S,AS S∧_
       simpa only [SS,oe ba,oe bb]using h'
      obtain⟨S,g1,g2⟩:=h;exact (g2.chg.q b (JS q1 g1.1.z) q3).trans (g1.1.q b q1 q2)
   have dn:=Hd la;obtain⟨k0,k1,k2,k3,k4⟩:=cells5 c7;obtain⟨n0,n1,n2,n3,n4⟩:=cells5 P;obtain⟨x0,x1,x2,x3,x4,x5,x6,x7,x8,x9⟩:=nH X;have B2:=fun x:Ks G (fun b=>b=w.heap.size+1∨b=w.heap.size∨b=wr.heap.size)=>x.h (wD Z) x2
   have N0:=fun x:Ks G (fun b=>b=w.heap.size+1∨b=w.heap.size∨b=wr.heap.size)=>x.h (wF (wD Z)) n0
   have K0:=fun x:Ks G (fun b=>b=w.heap.size+1∨b=w.heap.size∨b=wr.heap.size)=>x.h (wF (wF Z)) k0
   have K1:=fun x:Ks G (fun b=>b=w.heap.size+1∨b=w.heap.size∨b=wr.heap.size)=>x.h (wF (wF Z)) k1
   have K2:=fun x:Ks G (fun b=>b=w.heap.size+1∨b=w.heap.size∨b=wr.heap.size)=>x.h (wF (wF Z)) k2
   have K3:=fun x:Ks G (fun b=>b=w.heap.size+1∨b=w.heap.size∨b=wr.heap.size)=>x.h (wF (wF Z)) k3
   have K4:=fun x:Ks G (fun b=>b=w.heap.size+1∨b=w.heap.size∨b=wr.heap.size)=>x.h (wF (wF Z)) k4
   clear hA aq c7 X P cl hy k6 k7 c8 bl y c9 la k0 k1 k2 k3 k4 n0 n1 n2 n3 n4 x0 x1 x2 x3 x4 x5 x6 x7 x8 x9 bk cp h6 h1 h2 h3 h4 kv hK;go_upto_region 13 with fail
   change Code.wp _ _ _ _ (wr.alloc (r7 #[I r8 K.q,r9 K.h,I U K.u,I U K.C,O ps nk c6] 145));rw[←fs];clear fs c0 c1 c2 c3 c4 e0 e1 e2 e3 e4;refine RP.wp_region_effP (by kernel_rfl) 11 [7,8,9] [7,9] SS (ApR G) (fun i ys=>if i=7 then wP #[I r8 af.q,I U af.u,I r8 af.h.q,I U af.h.u,r9 af.h.h] else ys.getD 0 xk)
    (fun i W ys=>if i=7 then (∃x,cO bi vs K=xn x) else if i=8 then One 267 G.heap.size (iy af) W (ys.getD 0 xk) else if i=9 then ApV 267 5 G z j B (us++iy af) W (ys.getD 0 xk) else True)
    (fun ch W=>Chg (bh M [vT,vR,ad,O C cs.length D,vA]) G W∧∃er,cO bi vs K=zs er∧Ending.panicked ch=aR er.1 er.2) ?_ (by kernel_rfl) ?_ ?_ ft ?_
   ·rintro a ch W hd ⟨hc,er,h1,h2⟩;refine⟨hd,dI (bB.o.h (Chg.u cm.o)) hc (fun x hx=>?_),?_⟩
    ·rcases kQ vV hx with h|h
     ·exact wD h
     ·exact (cV.o _ h).imp (fun h=>wF ⟨_,by simp,h⟩) id
    ·show match eh bi R tr vars Ts with | .ok x=>_ | .error er=>_
     rw[ix.o]
     show match eh bi R (xn Q) vars Ts with | .ok x=>_ | .error er=>_
     unfold eh;dsimp only;rw[nb.o er h1];exact h2
   ·intro i he hc s W W' h u
    by_cases ba:s=0
    ·subst ba;exact du h u
    ·by_cases bb:s=1
     ·subst bb;have h:AS W:=h;exact xy.C h u
     ·have h:∃S,AS S∧ApS 267 5 S z j B (us++iy af) W:=by simpa only [SS,oe ba,oe bb]using h
      obtain⟨S,g1,g2⟩:=h;have h':∃S,AS S∧ApS 267 5 S z j B (us++iy af) W':=⟨S,g1,g2.C u⟩
      simpa only [SS,oe ba,oe bb]using h'
   ·intro k W W' ys h _ hR
    split at h
    ·rw[oj (by assumption)];exact h
    ·rw[oe (by assumption)]
     split at h
     ·rw[oj (by assumption)];exact h.K hR
     ·rw[oe (by assumption)]
      split at h
      ·rw[oj (by assumption)];exact h.K hR
      ·rw[oe (by assumption)];trivial
   simp only[JY,J7,JZ,J6]
   repeat (refine RP.q (fun W=>∃x:Ks G (fun b=>b=w.heap.size+1∨b=w.heap.size∨b=wr.heap.size),W=x.1) (dn.o _) Z Z Z ft ?_;go_big_quiet_step (fail);refine xL ?_)
   refine RP.h Z Z ?_ (fun lb=>?_)
   ·intro W hC hS hE;obtain⟨x,rfl⟩:∃x:Wb G,W=x.1:=hS Z;refine RP.uponP_call 157 _ _ Z (enters_of Tryz.func157 (by kernel_rfl) Z) #[vo (A ⟨M,0,Y⟩),wP #[I r8 K.q,r9 K.h,I U K.u,I U K.C,O ps nk c6],xt bi] (by simp[Act.eval]) ((k5.o x.1 x.2).mono ?_);rintro e W' ⟨u,he⟩
    cases hr:cO bi vs K with
    | error er =>
     rw[hr]at he;have he:e=aR er.1 er.2:=he;subst he;exact wF ⟨_,Z,(Chg.u x.2).h u,er,Z,Z⟩
    | ok xa =>
     rw[hr]at he;obtain⟨rfl,cn,g1,g2⟩:=he;have nd:=x.2.size;refine wD ⟨_,Z,[],?_,?_,?_,xa,Z⟩
     ·show wP (iy xa.2).toArray=wP (iy af).toArray
      rw[HA.o xa hr]
     ·exact⟨(Chg.u x.2).h u,xa,cn,hr,g1,fun b u=>(g2 b u).imp id (fun h=>JU nd h)⟩
     ·exact ApR.of_chg u hv.o
   simp only[Act.put,JP,JW,JV,Nat.reduceAdd,↓reduceIte];refine RP.h Z Z ?_ (fun fv=>?_)
   ·intro W hC hS hE;have ng:G.heap.size≤W.heap.size:=by
     obtain⟨s,_,h⟩:=hC;have h:SS s W:=h
     by_cases ba:s=0
     ·subst ba;obtain⟨x,rfl⟩:∃x:Wb G,W=x.1:=h;exact x.2.size
     ·by_cases bb:s=1
      ·subst bb;have h:AS W:=h;exact h.1.z
      ·have h:∃S,AS S∧ApS 267 5 S z j B (us++iy af) W:=by simpa only [SS,oe ba,oe bb]using h
       obtain⟨S,g1,g2⟩:=h;exact JU g1.1.z g2.chg.z
    exact RP.UponP.of (ek Ag (vs:=iy af) _ Z Z Z ng (fun v W' u ho=>⟨[v],Z,u,ApR.u u,ho⟩))
   simp only[Act.put,JP,JW,JV,Nat.reduceAdd,Nat.reduceEqDiff,↓reduceIte];refine RP.h Z Z ?_ (fun ld=>?_)
   ·intro W hC hS hE;have hS:AS W:=hS Z;have y:W.ownsRow 0 267 5 (O z j B) j us:=dj dg.o (fun g hg=>hS.1.q g (JS (ca.o g hg) cm.o.size) (k9.o g hg))
    exact RP.UponP.of (yF Ag (p:=z) (n:=j) (c:=B) (L:=G.heap.size) (vs:=iy af) (xs:=us) _ _ Z Z (hE 8 fv (by kernel_rfl) Z) Z (by simp[Value.oneCell',iy]) y (by omega) (fun v' W' h1 h2 =>
     ⟨[v'],Z,⟨W,hS,h1⟩,ApR.of_chg h1.chg (fun b u=>JS (ca.o b u) cm.o.size),h2.from hS.1.z⟩))
   simp only[Act.put,JP,JW,JV,Nat.reduceAdd,Nat.reduceEqDiff,↓reduceIte]
   repeat (refine RP.q (fun W=>∃x:Ks G (fun b=>b=w.heap.size+1∨b=w.heap.size∨b=wr.heap.size),W=x.1) (dn.o _) Z Z Z ft ?_;go_big_quiet_step (fail);refine xL ?_)
   refine RP.u ?_;intro W hS hE;obtain⟨S,ni,lf⟩:∃S,AS S∧ApS 267 5 S z j B (us++iy af) W:=hS;have hV:ApV 267 5 G z j B (us++iy af) W (ld.getD 0 xk):=hE 9 ld Z;obtain⟨g',dt,eg,hg,hC,N⟩:=Il lf hV;rw[eg];obtain⟨bm,x,cn,fI,bn,gD⟩:=ni;have hD:=HA.o x fI;have bk:=hs.o x fI;have gE:=cm.o.size;have hG:=ht.o;have lg:w.heap.size+2≤wr.heap.size:=by have:=(JL.1 t.o).1;omega
   have lr:∀g,(O z j B).ownBlock=A g→¬bh M [vT,vR,cn,O C cs.length D,vA] g:=fun g ar=>by
    obtain⟨ds,h⟩:=V.o.u ar;have h5:=aa cm.o h (ca.o g ar);have h1:=(bm.q g (JS (ca.o g ar) gE) (k9.o g ar)).trans h5;exact bn.q h1 (by kernel_rfl)
   have a1:S.heap[w.heap.size+1]?=A (r7 #[I r8 R,I U (Q:Int),O z j B,I r8 0,I r8 0,I U 0,r9 ⟨#[]⟩,I U 0,I r8 0,O Y 0 0] 168 (0,0)):=(bm.q _ (JL.1 hG).1 nc.o).trans hG;have hI:S.heap[w.heap.size]?=A (r7 #[I r8 kd,r9 T.h,I U T.u,I U T.C,O (A ⟨b,off,Y⟩) n c] 145 (0,0)):=(bm.q _ (JL.1 bR.o).1 k8.o).trans bR.o;have dv:W.heap[w.heap.size+1]?=A (r7 #[I r8 R,I U (Q:Int),O z j B,I r8 0,I r8 0,I U 0,r9 ⟨#[]⟩,I U 0,I r8 0,O Y 0 0] 168 (0,0)):=(hC.q _ (JL.1 a1).1 (fun e=>(cb.o _ e).1 Z)).trans a1;have l0:=(hC.q _ (JL.1 hI).1 (fun e=>(cb.o _ e).2.1 Z)).trans hI
   have ef:MkW F d M ts rs x.1 nm sal nv cs acs vT vR cn (O C cs.length D) vA W:=bn.upd hC.z (fun q H=>by
    rcases H with H|H
    ·exact hC.q q (bn.f q H).1 (fun e=>by have:=cT.o q e;have:=ct.o q H;omega)
    ·exact hC.q q (bn.h H) (fun e=>lr q e H))
   have hJ:g'≠w.heap.size+1∧g'≠w.heap.size∧w.heap.size+2≤g':=by
    rcases hg with h|h
    ·exact⟨(cb.o g' h).1,(cb.o g' h).2.1,cT.o g' h⟩
    ·exact⟨by omega,by omega,by omega⟩
   have gF:¬bh M [vT,vR,cn,O C cs.length D,vA] (w.heap.size+1):=fun ho=>by
    rcases kQ vV ho with h|h
    ·have:=cr.o _ h;omega
    ·exact row_ne dv ef.v (by decide) h
   obtain⟨W6,bd⟩:=zzx (W.setCell ⟨w.heap.size+1,2,Y⟩ (O (A ⟨g',0,Y⟩) (j+1) dt));have fT:∀q,q≠w.heap.size+1→W6.heap[q]?=W.heap[q]?:=fun q H=>by rw[bd];exact JQ W ⟨w.heap.size+1,2,Y⟩ _ q H
   have gH:W6.heap.size=W.heap.size:=by rw[bd];simp[World.setCell]
   have HR:Hid (AN F d M ts rs vars nm sal nv cs acs vT vR vV (O C cs.length D) vA T kd w bi R Q Ts n (O (A ⟨b,off,Y⟩) n c) (I U ((j+1:Nat):Int)) W6):=by
    refine⟨j+1,x.1,args++[x.2],O (A ⟨g',0,Y⟩) (j+1) dt,cn,by omega,Z,?_,by rw[J2,c5.o];rfl,bk.2,?_,(fT _ (by omega)).trans l0,?_,?_,?_,?_,?_⟩
    ·rw[kI.o]
     show (match cO bi vs K with | .ok r=>_ | .error e=>_)=_
     rw[fI]
    ·rw[bd];exact heap_set dv 2 _
    ·refine⟨us++iy af,?_,?_⟩
     ·rw[J2,c5.o];exact dj N (fun q H=>by injection H with H;have H:g'=q:=H;subst H;exact fT g' hJ.1)
     ·exact Rd.th (Rd.tE (fun _ u=>u.elim) hz.o) (by rw[hD];exact Jp.2 ⟨Z,by rw[←hD];exact bk.1⟩)
    ·intro g ar;injection ar with ar
     have ar:g'=g:=ar;subst ar;exact hJ.2.2
    ·refine ef.upd (by rw[gH];exact JM _) (fun q H=>fT q ?_);rcases H with H|H
     ·have:=ct.o q H;omega
     ·exact fun e=>gF (e ▸ H)
    ·intro q H;rcases gD q H with h|h
     ·exact cV.o q h
     ·exact wF (by omega)
    ·have h1:Chg (bh M [vT,vR,vV,O C cs.length D,vA]) w S:=dI (bB.o.h (Chg.u cm.o)) bm (fun x hx=>by
      rcases kQ vV hx with h|h
      ·exact wD h
      ·exact (cV.o _ h).imp (fun h=>wF ⟨_,by simp,h⟩) id)
     have h2:Chg (bh M [vT,vR,vV,O C cs.length D,vA]) w W:=dI h1 hC (fun x hx=>wF (by have:=cT.o x hx;omega));rw[bd];exact h2.K (p:=⟨w.heap.size+1,2,Y⟩) (wF (J9 _)) _
   obtain⟨x0,x1,x2,x3,x4,x5,x6,x7,x8,x9⟩:=nH dv;have fz:=ee dv;clear hE hV eg hg hC N bm fI bn gD hD bk gE hG lg lr a1 hI dv l0 ef hJ gF fT gH lf ft B2 N0 K0 K1 K2 K3 K4 x0 x1 x3 x4 x5 x6 x7 x8 x9;go_upto_region 14 with fail
   change Code.wp _ _ _ _ (W.setCell ⟨w.heap.size+1,2,Y⟩ (O (A ⟨g',0,Y⟩) (j+1) dt));rw[←bd];clear bd x2 fz;go_wp2_with fail
   refine⟨HR.o,?_⟩;simp[intOf];omega
  ·have HX:Hid (aV (cg bi) (vars,[]) Ts=xn (vs,args)):=by
    show _=_
    rw[←cW.o,J5 (by rw[ha.o];omega)]
   have l4:Hid (eh bi R tr vars Ts=xn (vs,⟨R,(Q:Int),args,.zero⟩)):=by
    show _=_
    rw[ix.o];unfold eh;dsimp only;rw[HX.o]
   have nn:Hid (w.heap.size≤wr.heap.size):=bB.o.z;have bq:Hid (MkW (fun q=>F q∨(O z j B).ownBlock=A q) d M ts rs vs nm sal nv cs acs vT vR ad (O C cs.length D) vA wr):=by
    refine a6.o.grow (fun _ h=>wD h) (fun q H=>?_);rcases H with H|H
    ·exact a6.o.f q H
    ·obtain⟨ds,h⟩:=V.o.u H;exact⟨V.o.lt H,a6.o.q h (by kernel_rfl)⟩
   have hL:Hid (t7.h wr (fun q=>F q∨(O z j B).ownBlock=A q) args (O z j B)):=V.o.h (fun _ h=>h.elim) (fun g hg=>wF hg);clear e0 e1 e2 e3 e4 gr;go_upto_region 17 with fail
   obtain⟨us,y,c9⟩:=bq.o.c;rw[HN.o,lX]at y;obtain⟨dg,hz⟩:=zz2 y c9;have e0:wr.cell? ⟨w.heap.size+1,0,Y⟩=A (I r8 R):=by rw[Kq _ _ _ _ _ _ t.o];rfl
   have e1:wr.cell? ⟨w.heap.size+1,1,Y⟩=A (I U (Q:Int)):=by rw[Kq _ _ _ _ _ _ t.o];rfl
   have e2:wr.cell? ⟨w.heap.size+1,2,Y⟩=A (O z j B):=by rw[Kq _ _ _ _ _ _ t.o];rfl
   have e3:wr.cell? ⟨w.heap.size+1,3,Y⟩=A (I r8 0):=by rw[Kq _ _ _ _ _ _ t.o];rfl
   have e4:wr.cell? ⟨w.heap.size+1,4,Y⟩=A (I r8 0):=by rw[Kq _ _ _ _ _ _ t.o];rfl
   have e5:wr.cell? ⟨w.heap.size+1,5,Y⟩=A (I U 0):=by rw[Kq _ _ _ _ _ _ t.o];rfl
   have e6:wr.cell? ⟨w.heap.size+1,6,Y⟩=A (r9 ⟨#[]⟩):=by rw[Kq _ _ _ _ _ _ t.o];rfl
   have e7:wr.cell? ⟨w.heap.size+1,7,Y⟩=A (I U 0):=by rw[Kq _ _ _ _ _ _ t.o];rfl
   have e8:wr.cell? ⟨w.heap.size+1,8,Y⟩=A (I r8 0):=by rw[Kq _ _ _ _ _ _ t.o];rfl
   have e9:wr.cell? ⟨w.heap.size+1,9,Y⟩=A (O Y 0 0):=by rw[Kq _ _ _ _ _ _ t.o];rfl
   have hM:wr.cell? ⟨M,6,Y⟩=A (O C nC D):=by rw[Kq _ _ _ _ _ _ bq.o.m,←HN.o];rfl
   have hK:∀b,(b=M∨b=w.heap.size+1)→b<wr.heap.size∧(O C nC D).ownBlock≠A b:=fun b u=>by
    rw[←HN.o];rcases u with rfl|rfl
    ·exact⟨bq.o.lt,row_ne bq.o.m bq.o.c (by decide)⟩
    ·exact⟨(JL.1 t.o).1,fun e=>by have:=hT.o _ e;omega⟩
   have dn:=Hd (jR (E:=168) (sz:=10) (row:=us++[I r8 R,I U (Q:Int),O z j B,I r8 0,I r8 0,I U 0,r9 ⟨#[]⟩,I U 0,I r8 0,O Y 0 0]) (K:=(fun b=>b=M∨b=w.heap.size+1)) hK);have E0:=fun x:Ks wr (fun b=>b=M∨b=w.heap.size+1)=>x.h (wF Z) e0
   have E1:=fun x:Ks wr (fun b=>b=M∨b=w.heap.size+1)=>x.h (wF Z) e1
   have E2:=fun x:Ks wr (fun b=>b=M∨b=w.heap.size+1)=>x.h (wF Z) e2
   have E3:=fun x:Ks wr (fun b=>b=M∨b=w.heap.size+1)=>x.h (wF Z) e3
   have E4:=fun x:Ks wr (fun b=>b=M∨b=w.heap.size+1)=>x.h (wF Z) e4
   have E5:=fun x:Ks wr (fun b=>b=M∨b=w.heap.size+1)=>x.h (wF Z) e5
   have E6:=fun x:Ks wr (fun b=>b=M∨b=w.heap.size+1)=>x.h (wF Z) e6
   have E7:=fun x:Ks wr (fun b=>b=M∨b=w.heap.size+1)=>x.h (wF Z) e7
   have E8:=fun x:Ks wr (fun b=>b=M∨b=w.heap.size+1)=>x.h (wF Z) e8
   have E9:=fun x:Ks wr (fun b=>b=M∨b=w.heap.size+1)=>x.h (wF Z) e9
   have M2:=fun x:Ks wr (fun b=>b=M∨b=w.heap.size+1)=>x.h (wD Z) hM
   clear y c9 e0 e1 e2 e3 e4 e5 e6 e7 e8 e9 hM hK;refine RE.z (by kernel_rfl) 9 [7,8] [8] (stA 168 10 wr C nC D (us++[I r8 R,I U (Q:Int),O z j B,I r8 0,I r8 0,I U 0,r9 ⟨#[]⟩,I U 0,I r8 0,O Y 0 0])) (ApR wr) (fun _ ys=>ys.getD 0 xk) (phA 168 10 wr C nC D [I r8 R,I U (Q:Int),O z j B,I r8 0,I r8 0,I U 0,r9 ⟨#[]⟩,I U 0,I r8 0,O Y 0 0] (us++[I r8 R,I U (Q:Int),O z j B,I r8 0,I r8 0,I U 0,r9 ⟨#[]⟩,I U 0,I r8 0,O Y 0 0]) 7 8) (by kernel_rfl) (fun _ _ _ _ _ _ h u=>h.C u) (fun _ _ _ _ h _ hR=>h.K hR) stA.zero ?_;simp only[JY,J7,JZ,J6]
   repeat (refine RE.q (fun W=>∃x:Ks wr (fun b=>b=M∨b=w.heap.size+1),W=x.1) (dn.o _) Z Z Z stA.zero ?_;go_big_quiet_step (fail);refine xL ?_)
   refine RE.h Z Z ?_ (fun lb=>?_)
   ·intro W hC hS hE;obtain⟨s9,_,h9⟩:=hC;exact ek nU (vs:=[I r8 R,I U (Q:Int),O z j B,I r8 0,I r8 0,I U 0,r9 ⟨#[]⟩,I U 0,I r8 0,O Y 0 0]) _ Z Z Z h9.z (fun v W' u ho=>⟨[v],Z,u,ApR.u u,ho⟩)
   simp only[Act.put,JP,JW,JV];refine RE.h Z Z ?_ (fun fv=>?_)
   ·intro W hC hS hE;obtain⟨x,rfl⟩:∃x:Wb wr,W=x.1:=hS Z;exact i9 nU (p:=C) (n:=nC) (c:=D) (w4:=wr) (vs:=[I r8 R,I U (Q:Int),O z j B,I r8 0,I r8 0,I U 0,r9 ⟨#[]⟩,I U 0,I r8 0,O Y 0 0]) (xs:=us) _ _ Z Z (hE 7 lb (by kernel_rfl) Z) Z (by simp[Value.oneCell']) x.2 dg.o (by omega) (fun v' W' h1 h2 h3=>⟨[v'],Z,h1,h2,h3⟩)
   simp only[Act.put,JP,JW,JV];refine RE.u ?_;intro W hS hE;have hS:ApS 168 10 wr C nC D (us++[I r8 R,I U (Q:Int),O z j B,I r8 0,I r8 0,I U 0,r9 ⟨#[]⟩,I U 0,I r8 0,O Y 0 0]) W:=hS;have hV:ApV 168 10 wr C nC D (us++[I r8 R,I U (Q:Int),O z j B,I r8 0,I r8 0,I U 0,r9 ⟨#[]⟩,I U 0,I r8 0,O Y 0 0]) W (fv.getD 0 xk):=hE 8 fv Z;obtain⟨g',cap,eg,hg,hC,N⟩:=jZ hS hV;rw[eg];have bm:Chg (fun b=>(O C cs.length D).ownBlock=A b) wr W:=by rw[HN.o];exact hC
   have hN:(O C cs.length D).ownBlock=A g'∨wr.heap.size≤g':=by rw[HN.o];exact hg
   have mb:(ie d).at_ wr (fun q=>F q∨(O z j B).ownBlock=A q) ⟨R,(Q:Int),args,.zero⟩ [I r8 R,I U (Q:Int),O z j B,I r8 0,I r8 0,I U 0,r9 ⟨#[]⟩,I U 0,I r8 0,O Y 0 0]:=qU.2 ⟨(by rcases hh.o with ⟨_,h,_⟩|⟨_,h,_⟩<;>(show U8 R;rw[h];exact⟨by decide,by decide⟩):U8 R),⟨by show (-9223372036854775808:Int)≤(Q:Int);omega,by show (Q:Int)<9223372036854775808;omega⟩,⟨show U8 0 from ⟨by decide,by decide⟩,⟨show U8 0 from ⟨by decide,by decide⟩,show I64 0 from ⟨by decide,by decide⟩,(show (⟨#[]⟩:ByteArray).size≤maxLen by decide)⟩,show I64 0 from ⟨by decide,by decide⟩,show U8 0 from ⟨by decide,by decide⟩⟩,O z j B,O Y 0 0,Z,hL.o,Fq⟩
   obtain⟨bd,mf,hP⟩:=bq.o.pushC HN.o hz.o mb hN bm (by rw[lX];exact N);have hM:W.cell? ⟨M,6,Y⟩=A (O C nC D):=by rw[Kq _ _ _ _ _ _ (hP.trans bq.o.m),←HN.o];rfl
   have n6:=aB (hP.trans bq.o.m) 6;have HP:Hid (lQ F d M ts rs nm sal nv cs acs vT vR vV (O C cs.length D) vA (xn (vs,⟨R,(Q:Int),args,.zero⟩)) w (Ending.returned (xt true)) (W.setCell ⟨M,6,Y⟩ (O (A ⟨g',0,Y⟩) (nC+1) cap))):=by
    refine⟨dI bB.o mf (fun x hx=>by rcases kQ vV hx with h|h;exact wD h;exact (cV.o _ h).imp (fun h=>wF ⟨_,by simp,h⟩) id),Z,(fun q=>F q∨(O z j B).ownBlock=A q),ad,_,bd,cV.o,fun b u=>?_,fun _ h=>wD h,fun b h=>h.imp id (fun h=>by have:=cT.o b h;omega)⟩
    injection u with u
    have u:g'=b:=u;subst u;rcases hN with h|h
    ·exact wD h
    ·have:=nn.o;exact wF (by omega)
   clear hS hV hE eg hg hC N bm hN bd mf hP E0 E1 E2 E3 E4 E5 E6 E7 E8 E9 M2 dn mb;go_wp2_with fail
   go_ret;rw[l4.o];exact HP.o
