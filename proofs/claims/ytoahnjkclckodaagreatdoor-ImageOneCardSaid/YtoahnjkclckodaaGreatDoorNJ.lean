/- The rule checker: a condition that asks for a fact, or for none; by contract. Condition: as an expression's. Printed by tools/genCond.py. -/
import Derived.Test.YtoahnjkclckodaaGreatDoorNH
import Derived.Test.YtoahnjkclckodaaGreatDoorNB
open Except renaming error→z6,ok→xt
open Go.Value renaming agg→xk,int→I,string→tS,slice→O,pointer→vv,bool→xv
open Go.IntKind renaming u8→tF,i64→U
open Go renaming World→J,Value→tT,undef→wF,wpQuiet_nil→xL
open Option renaming none→Y,some→A
open Or renaming inl→wD,inr→wP
open Go.Obj renaming cells→r9
namespace Go.Proofs.YtoahnjkclckodaaGreatDoor
set_option maxHeartbeats 8000000
set_option maxRecDepth 100000
open Go.RowKit
def dS(binds:Bool) (kd:Int) (a:Except Flt Nat) (vars:List ByteArray) (Ts:List ac):Except Flt (List ByteArray×br):=match a with
 | .error e=>z6 e
 | .ok k=>match be (dk binds) (vars,[]) Ts with
  | .error e=>z6 e
  | .ok r=>xt (r.1,⟨kd,k,r.2,.zero⟩)
theorem xp:Elem 267 161 5 48:=Elem.of (z:=xk #[I tF 0,I U 0,I tF 0,I U 0,tS ByteArray.empty]) Tryz.underlying161 (by kernel_rfl) (by kernel_rfl) (by decide) (by decide)
theorem BO{w:J}{F:Nat→Prop}{d:Nat}:fu w F d [] (O Y 0 0):=by
 cases d with
 | zero=>exact⟨Z,Y,0,Z⟩
 | succ d=>exact Rd.th
def Ff:Except Flt (List ByteArray×iJ)→iJ
 | .ok x=>x.2
 | .error _=>⟨0,0,.zero⟩
theorem BF(x:ByteArray)(l:List ByteArray)(k:Nat)(h:idxOf x l=A k):k<l.length:=by
 have:=(mV x l 0 k h).2;omega
theorem xd{b:Bool}{vars:List ByteArray}{T:ac}{x:List ByteArray×iJ}(c:T.h.size≤72007)(a:vars.length≤16)(h:co b vars T=xt x):xE x.2∧x.1.length≤16:=by
 have z:jF bj.zero:=⟨⟨by decide,by decide⟩,⟨by decide,by decide⟩,by decide⟩;unfold co at h
 split at h
 ·injection h with h;subst h;exact⟨⟨show U8 1 from ⟨by decide,by decide⟩,show I64 0 from ⟨by decide,by decide⟩,z⟩,a⟩
 ·split at h
  ·cases hi:idxOf T.h vars with
   | some k =>
    rw[hi]at h;injection h with h;subst h
    have:=BF _ _ _ hi;exact⟨⟨show U8 3 from ⟨by decide,by decide⟩,⟨by show (-9223372036854775808:Int)≤(k:Int);omega,by show (k:Int)<9223372036854775808;omega⟩,z⟩,a⟩
   | none =>
    rw[hi]at h;dsimp only at h
    split at h
    ·cases h
    ·split at h
     ·cases h
     ·injection h with h;subst h
      refine⟨⟨show U8 2 from ⟨by decide,by decide⟩,⟨by show (-9223372036854775808:Int)≤(vars.length:Int);omega,by show (vars.length:Int)<9223372036854775808;omega⟩,z⟩,?_⟩
      show (vars++[T.h]).length≤16
      rw[FT];simp;omega
  ·injection h with h;subst h;exact⟨⟨show U8 4 from ⟨by decide,by decide⟩,show I64 0 from ⟨by decide,by decide⟩,rp T c⟩,a⟩
theorem ke{M:Nat}{vT vR a vC vA:tT}{b:Nat}(vV:tT)(h:aZ M [vT,vR,a,vC,vA] b):aZ M [vT,vR,vV,vC,vA] b∨a.ownBlock=A b:=by
 rcases h with rfl|⟨v,d,c⟩
 ·exact wD (wD Z)
 ·simp only[Ge,Gc,o9]at d;rcases d with rfl|rfl|rfl|rfl|rfl
  ·exact wD (wP ⟨_,by simp,c⟩)
  ·exact wD (wP ⟨_,by simp,c⟩)
  ·exact wP c
  ·exact wD (wP ⟨_,by simp,c⟩)
  ·exact wD (wP ⟨_,by simp,c⟩)
def uw(F:Nat→Prop) (d M:Nat) (ts:List ay) (rs:List aK) (vars:List ByteArray) (nm:ByteArray) (sal nv:Int) (cs:List br) (acs:List dr) (vT vR vV vC vA:tT) (b:Bool) (K:ac) (c W:J):Prop:=
 Chg (aZ M [vT,vR,vV,vC,vA]) c W∧∃x a,co b vars K=xt x∧MkW F d M ts rs x.1 nm sal nv cs acs vT vR a vC vA W∧Grew vV a c.heap.size
theorem uw.C{F:Nat→Prop}{d M:Nat}{ts:List ay}{rs:List aK}{vars:List ByteArray}{nm:ByteArray}{sal nv:Int}{cs:List br}{acs:List dr}{vT vR vV vC vA:tT}{b:Bool}{K:ac}{c W W':J}(h:uw F d M ts rs vars nm sal nv cs acs vT vR vV vC vA b K c W)(e:Gl W W'):uw F d M ts rs vars nm sal nv cs acs vT vR vV vC vA b K c W':=by
 obtain⟨f,x,a,g,i,j⟩:=h;exact⟨f.h (Chg.t e),x,a,g,i.C e,j⟩
def xR(F:Nat→Prop) (d M:Nat) (ts:List ay) (rs:List aK) (vars:List ByteArray) (nm:ByteArray) (sal nv:Int) (cs:List br) (acs:List dr) (vT vR vV vC vA:tT) (T:ac) (k:Int) (w:J) (binds:Bool) (kd:Int) (b:Nat) (Ts:List ac) (n:Nat) (c i:tT) (W:J):Prop:=
 ∃(j:Nat) (vs:List ByteArray) (args:List iJ) (v a:tT),j≤n∧i=I U (j:Int)∧be (dk binds) (vars,[]) (Ts.take j)=xt (vs,args)∧args.length=j∧vs.length≤16∧
  W.heap[w.heap.size+1]?=A (r9 #[I tF kd,I U b,v,I tF 0,I tF 0,I U 0,tS ⟨#[]⟩,I U 0,I tF 0,O Y 0 0] 168 (0,0))∧W.heap[w.heap.size]?=A (r9 #[I tF k,tS T.h,I U T.u,I U T.t,c] 145 (0,0))∧
  aw W (fun _=>False) 267 rx args v∧(∀g,v.ownBlock=A g→w.heap.size+2≤g)∧MkW F d M ts rs vs nm sal nv cs acs vT vR a vC vA W∧Grew vV a w.heap.size∧Chg (aZ M [vT,vR,vV,vC,vA]) w W
theorem sP(kd R:Int)(bi:Bool)(gO:kd=5∧R=1∧bi=true∨kd=6∧R=2∧bi=false)(F:Nat→Prop)(d M:Nat)(ts:List ay)(rs:List aK)(vars:List ByteArray)(nm:ByteArray)(sal nv:Int)(cs:List br)(acs:List dr)(vT vR vV vC vA:tT)(T:ac)(Ts:List ac)(p:Option Addr)(n c B0 dd:Nat)(tr:Except Flt Nat)(w:J)
  (hw:MkW F d M ts rs vars nm sal nv cs acs vT vR vV vC vA w) (hk:T.q=kd) (mv:cs.length≤10000) (m0:vars.length≤16) (hX:Ts.length=n) (hn:n≤10000) (bk:∀k,tr=xt k→k≤10000)
  (et:ap w B0 (dd+1) Ts (O p n c)) (m1:B0≤w.heap.size) (hO:∀b,aZ M [vT,vR,vV,vC,vA] b→B0≤b) (cq:∀K∈Ts,(K.q=12∨K.q=13∨K.q=14∨K.q=15)∧K.h.size≤72007)
  (gS:∀W,Gl w W→Calls Tryz.prog 156 #[vv (A ⟨M,0,Y⟩),xk #[I tF kd,tS T.h,I U T.u,I U T.t,O p n c]] W (oS tr mh W)) :
  Calls Tryz.prog 130 #[vv (A ⟨M,0,Y⟩),xk #[I tF T.q,tS T.h,I U T.u,I U T.t,O p n c]] w (kV F d M ts rs nm sal nv cs acs vT vR vV vC vA (dS bi R tr vars Ts) w):=by
 rw[hk];obtain⟨C,D,m2⟩:=hw.c.q;subst m2;obtain⟨nC,gT⟩:=zzy (cs.length);have HN:=Hd gT;rw[gT]at mv;obtain⟨w1,fm⟩:=zzx ((w.alloc (r9 #[I tF kd,tS T.h,I U T.u,I U T.t,O p n c] 145)).alloc (r9 #[I tF 0,I U 0,O Y 0 0,I tF 0,I tF 0,I U 0,tS ⟨#[]⟩,I U 0,I tF 0,O Y 0 0] 168));obtain⟨fr,cr,_⟩:=aW w (r9 #[I tF kd,tS T.h,I U T.u,I U T.t,O p n c] 145) (r9 #[I tF 0,I U 0,O Y 0 0,I tF 0,I tF 0,I U 0,tS ⟨#[]⟩,I U 0,I tF 0,O Y 0 0] 168);have a1:Gl w w1:=by rw[fm];exact ((Fz _ w).alloc (Fy _) _).alloc (by simp) _
 rw[←fm]at fr cr;obtain⟨hY,ct⟩:=zz2 (fun g hg=>hw.c.lt (g:=g) hg) (fun b u=>hw.h (b:=b) u);have cu:=Hd (fun b (u:F b)=>(hw.f b u).1);obtain⟨h7,ha,h8,nx⟩:=zz4 fr cr a1 (hw.C a1);have ny:Hid (w.heap.size+2≤w1.heap.size):=by
  have h:=(Fx.1 ha.o).1
  show _≤_
  omega
 obtain⟨hf,HO,hh,hl,nA⟩:=zz5 et hO cq hX (fun (W:J) (h:Gl w1 W)=>gS W (a1.trans (h.mono a1.size)));obtain⟨Q,hp⟩:∃Q:Nat,Q=okN tr:=⟨_,rfl⟩;have m3:Hid (∀k,tr=xt k→Q=k):=fun k h=>by rw[hp,h];rfl
 have nR:Q≤10000:=by
  rw[hp]
  cases tr with
  | ok k=>exact bk k Z
  | error e=>exact FR _
 have nT:=Hd (fun g hg=>hw.v.lt (g:=g) hg);obtain⟨e0,e1,e2,e3,e4⟩:=cells5 fr;obtain⟨b0,b1,b2,b3,b4,b5,b6,b7,b8,b9⟩:=mg cr;have fz:=dR cr;obtain⟨ih,gD⟩:=zz2 hw gS;have n5:(kd==5)=bi:=by rcases gO with ⟨rfl,_,rfl⟩|⟨rfl,_,rfl⟩<;>rfl
 have hs:=Hd gO;clear fr cr a1 hw hk gT et hO gS bk hX hp cq gO
 go_enter Tryz.func130,Tryz.ntmps130
 go_upto_region 2 with fail
 change Code.wp _ _ _ _ ((w.alloc (r9 #[I tF kd,tS T.h,I U T.u,I U T.t,O p n c] 145)).alloc (r9 #[I tF 0,I U 0,O Y 0 0,I tF 0,I tF 0,I U 0,tS ⟨#[]⟩,I U 0,I tF 0,O Y 0 0] 168));rw[←fm];clear fm
 go_upto_if 10 with fail
 go_cut [10] from 11 to 12 (fun v W=>v=xv true∧w1=W)
 case first =>
  rcases hs.o with ⟨rfl,rfl,rfl⟩|⟨rfl,rfl,rfl⟩
  all_goals
   go_wp2_with fail
   go_meet
   case rel=>exact⟨Z,Z⟩
 case rest =>
 obtain⟨rfl,rfl⟩:=hcut
 go_upto_if 16 with fail
 go_cut [] from 17 to 17 (fun W=>W.heap[w.heap.size+1]?=A (r9 #[I tF R,I U 0,O Y 0 0,I tF 0,I tF 0,I U 0,tS ⟨#[]⟩,I U 0,I tF 0,O Y 0 0] 168 (0,0))∧Gl w W∧W.heap[w.heap.size]?=A (r9 #[I tF kd,tS T.h,I U T.u,I U T.t,O p n c] 145 (0,0)))
 case first =>
  rcases hs.o with ⟨rfl,rfl,rfl⟩|⟨rfl,rfl,rfl⟩
  ·go_wp2_with fail
   go_meet
   case rel=>exact⟨heap_set ha.o 0 _,h8.o.setCell (p:=⟨w.heap.size+1,0,Y⟩) (F3 _) _,av h7.o (by omega) _ _⟩
  ·go_wp2_with fail
   go_meet
   case rel=>exact⟨heap_set (heap_set ha.o 0 _) 0 _,(h8.o.setCell (p:=⟨w.heap.size+1,0,Y⟩) (F3 _) _).setCell (p:=⟨w.heap.size+1,0,Y⟩) (F3 _) _,av (av h7.o (by omega) _ _) (by omega) _ _⟩
 case rest =>
 obtain⟨ht,cy,ix⟩:=hcut;obtain⟨iA,fs,hv⟩:=zz3 ht cy ix;have n6:Hid (w.heap.size+2≤wc.heap.size):=by show _≤_;have h:=(Fx.1 ht).1;omega
 obtain⟨iB,m4,m5⟩:=zz3 (gD.o wc cy) (Chg.t (F:=aZ M [vT,vR,vV,O C cs.length D,vA]) cy) (ih.o.C cy);clear ht cy ix ih gD e0 e1 e2 e3 e4 b0 b1 b2 b3 b4 b5 b6 b7 b8 b9 fz;obtain⟨e0,e1,e2,e3,e4⟩:=cells5 hv.o;go_wp2_with fail
 refine iB.o.mono ?_;rintro e W3 ⟨cf,he⟩
 cases bk:tr with
 | error er =>
  rw[bk]at he;have he:e=aJ er.1 er.2:=he;subst he;exact⟨Z,Chg.t (fs.o.trans (cf.mono fs.o.size)),Z⟩
 | ok k =>
 rw[bk]at he;obtain rfl:=m3.o k bk;have he:e=Ending.returned (I U (Q:Int)):=he;subst he;have iX:=Hd bk;clear he bk;have m6:=Hd (fs.o.trans (cf.mono fs.o.size));have ft:=aa cf iA.o (Fx.1 iA.o).1;have jj:=aa cf hv.o (Fx.1 hv.o).1;obtain⟨W4,cl⟩:=zzx (W3.setCell ⟨w.heap.size+1,1,Y⟩ (I U (Q:Int)));have m7:Hid (W4.heap[w.heap.size+1]?=A (r9 #[I tF R,I U (Q:Int),O Y 0 0,I tF 0,I tF 0,I U 0,tS ⟨#[]⟩,I U 0,I tF 0,O Y 0 0] 168 (0,0))):=by show _=_;rw[cl];exact heap_set ft 1 _
 have j2:Hid (W4.heap[w.heap.size]?=A (r9 #[I tF kd,tS T.h,I U T.u,I U T.t,O p n c] 145 (0,0))):=by show _=_;rw[cl,FC _ _ _ _ (show w.heap.size≠w.heap.size+1 by omega)];exact jj
 have cm:¬aZ M [vT,vR,vV,O C cs.length D,vA] (w.heap.size+1):=fun ho=>by have:=ct.o _ ho;omega
 have na:Hid (MkW F d M ts rs vars nm sal nv cs acs vT vR vV (O C cs.length D) vA W4):=by
  show MkW _ _ _ _ _ _ _ _ _ _ _ _ _ _ _ _ _
  rw[cl];refine ((m5.o).C cf).upd (by simp[World.setCell]) (fun x hx=>FC _ _ _ _ ?_);rcases hx with hx|hx
  ·have:=cu.o x hx;intro e;simp only at e;omega
  ·intro e;simp only at e;exact cm (e ▸ hx)
 have nb:Hid (Chg (aZ M [vT,vR,vV,O C cs.length D,vA]) w W4):=by show Chg _ _ _;rw[cl];exact (Chg.t m6.o).z (p:=⟨w.heap.size+1,1,Y⟩) (wP (F3 _)) _
 obtain⟨b0,b1,b2,b3,b4,b5,b6,b7,b8,b9⟩:=mg ft;have fz:=dR ft;clear e0 e1 e2 e3 e4 cf jj ft cm;go_upto_region 10 with fail
 change Code.wp _ _ _ _ (W3.setCell ⟨w.heap.size+1,1,Y⟩ (I U (Q:Int)));rw[←cl];clear cl b0 b1 b2 b3 b4 b5 b6 b7 b8 b9 fz;obtain⟨e0,e1,e2,e3,e4⟩:=cells5 j2.o;go_wp2_with fail
 go_loopw [25] (xR F d M ts rs vars nm sal nv cs acs vT vR vV (O C cs.length D) vA T kd w bi R Q Ts n (O p n c)) (fun i _=>n-(intOf i).toNat)
 case atStart=>exact⟨0,vars,[],O Y 0 0,vV,FR _,Z,Z,Z,m0,m7.o,j2.o,aw.nil,(fun g h=>by cases h),na.o,fun b u=>wD u,nb.o⟩
 case round =>
  obtain⟨j,vs,args,v,ad,hj,rfl,cA,hlen,kc,gE,cR,N,kn,kv,kI,cT⟩:=hrel;obtain⟨z,B,k5⟩:=N.q;rw[hlen]at k5;subst k5;have n7:(0:Int)≤j:=by omega
  obtain⟨t,bB,V,cV,a6,cW,bR⟩:=zz7 gE cR N kn kv kI cT;obtain⟨c5,c6⟩:=zz2 cA hlen;have gF:Hid (Below B0 w wr):=Chg.K (Fz B0 w) cT HO.o m1;clear gE cR N kn kv kI cT cA hlen e0 e1 e2 e3 e4;obtain⟨e0,e1,e2,e3,e4⟩:=cells5 bB.o
  by_cases nc:j<n
  ·have n8:(j:Int)<n:=by omega
   obtain⟨K,hK⟩:∃K,Ts[j]?=A K:=⟨_,FD (by rw[hl.o];exact nc)⟩;have et:=hf.o.C gF.o;rcases et with ⟨rfl,_⟩|⟨b,off,cap,h1,h2,h3,h4,he,h6⟩
   ·simp at hK
   rw[hl.o]at he;injection he with nd _ ng
   subst nd;subst ng;obtain⟨bl,s,c0,c1,c2,c3,c4,cq⟩:=h6 j K hK;obtain⟨ps,c7,rfl⟩:=cq.h;obtain⟨nk,k6⟩:=zzy (K.z.length);rw[k6]at c4;have k7:=Hd ((it (f:=dk bi) hK c5.o).trans (wT bi (vs,args) K))
   have ni:=Hd (fun er (h:co bi vs K=z6 er)=>jq (f:=dk bi) (l:=Ts) (k:=j+1) (s:=(vars,[])) (e:=er) (by
    rw[k7.o]
    show (match co bi vs K with | .ok r=>_ | .error e=>_)=_
    rw[h]))
   obtain⟨af,hA⟩:=zzx (Ff (co bi vs K));have HA:Hid (∀x,co bi vs K=xt x→x.2=af):=fun x h=>by rw[hA,h];rfl
   have hy:=Hd (fun x (h:co bi vs K=xt x)=>xd (b:=bi) (vars:=vs) (T:=K) (hh.o K (FZ hK)).2 kc h);obtain⟨G,fv⟩:=zzx (wr.alloc (r9 #[I tF K.q,tS K.h,I U K.u,I U K.t,O ps nk c7] 145));have aq:Gl wr G:=by rw[fv];exact (Fz _ wr).alloc (Fy _) _
   have c8:G.heap[wr.heap.size]?=A (r9 #[I tF K.q,tS K.h,I U K.u,I U K.t,O ps nk c7] 145 (0,0)):=by rw[fv];exact oA wr _
   obtain⟨cn,n9,k8⟩:=zz3 aq c8 (fun (W:J) (hW:Gl G W)=>DO F d M ts rs vs nm sal nv cs acs vT vR ad (O C cs.length D) vA K ps nk c7 bi W ((a6.o.C aq).C hW) (hh.o K (FZ hK)).1 (hh.o K (FZ hK)).2 kc);have X:=aa aq t.o (Fx.1 t.o).1;have P:=aa aq bB.o (Fx.1 bB.o).1;obtain⟨hz,ca,hD⟩:=zz3 X P (fun b u=>(a6.o.C aq).h (b:=b) u);have cm:¬aZ M [vT,vR,ad,O C cs.length D,vA] (w.heap.size+1):=fun ho=>by
    rcases ke vV ho with h|h
    ·have:=ct.o _ h;omega
    ·exact row_ne X (a6.o.C aq).v (by decide) h
   have hG:¬aZ M [vT,vR,ad,O C cs.length D,vA] w.heap.size:=(a6.o.C aq).q P (by kernel_rfl);have k9:¬aZ M [vT,vR,ad,O C cs.length D,vA] wr.heap.size:=(a6.o.C aq).q c8 (by kernel_rfl);have la:∀g,(O z j B).ownBlock=A g→¬aZ M [vT,vR,ad,O C cs.length D,vA] g:=fun g hg=>by
    obtain⟨ds,h⟩:=V.o.u hg;exact a6.o.q h (by kernel_rfl)
   obtain⟨nn,lb,ld⟩:=zz3 cm hG la;have c9:∀g,(O z j B).ownBlock=A g→g<wr.heap.size:=fun g hg=>V.o.lt hg
   have cb:=Hd c9;have bm:∀g,(O z j B).ownBlock=A g→g≠w.heap.size+1∧g≠w.heap.size∧g≠wr.heap.size:=fun g hg=>by
    have h1:=cV.o g hg;have h2:=c9 g hg;exact⟨by omega,by omega,by omega⟩
   have cc:=Hd bm;obtain⟨us,y,dg⟩:=V.o;rw[c6.o]at y;have y:wr.ownsRow 0 267 5 (O z j B) j us:=y;obtain⟨hI,dn⟩:=zz2 dg (gj y aq)
   let AS:J→Prop:=uw F d M ts rs vs nm sal nv cs acs vT vR ad (O C cs.length D) vA bi K G
   let SS:Nat→J→Prop:=fun s W=>if s=0 then (∃x:Wb G,W=x.1) else if s=1 then AS W else ∃S,AS S∧ApS 267 5 S z j B (us++gQ af) W
   have fI:SS 0 G.drew:=⟨⟨G.drew,(Fz _ _).drew⟩,Z⟩;have lf:∀(m s:Nat) (W:J),s≤m→SS s W→∃x:Ks G (fun b=>b=w.heap.size+1∨b=w.heap.size∨b=wr.heap.size),W=x.1:=fun m s W _ h=>by
    have l1:=(Fx.1 X).1;have l2:=(Fx.1 P).1;have l3:=(Fx.1 c8).1;have h0:∀b,(b=w.heap.size+1∨b=w.heap.size∨b=wr.heap.size)→b<G.heap.size∧¬aZ M [vT,vR,ad,O C cs.length D,vA] b∧(O z j B).ownBlock≠A b:=by
     rintro b (rfl|rfl|rfl)
     ·exact⟨l1,cm,fun e=>(bm _ e).1 Z⟩
     ·exact⟨l2,hG,fun e=>(bm _ e).2.1 Z⟩
     ·exact⟨l3,k9,fun e=>(bm _ e).2.2 Z⟩
    refine⟨⟨W,fun b u=>?_⟩,Z⟩;obtain⟨q1,q2,q3⟩:=h0 b u
    by_cases ba:s=0
    ·subst ba;obtain⟨x,rfl⟩:∃x:Wb G,W=x.1:=h;exact x.2.block b q1
    ·by_cases bb:s=1
     ·subst bb;have h:AS W:=h;exact h.1.q b q1 q2
     ·have h:∃S,AS S∧ApS 267 5 S z j B (us++gQ af) W:=by
       have h':SS s W:=h
       show ∃S,AS S∧_
       simpa only [SS,oB ba,oB bb]using h'
      obtain⟨S,g1,g2⟩:=h;exact (g2.chg.q b (FG q1 g1.1.u) q3).trans (g1.1.q b q1 q2)
   have dt:=Hd lf;obtain⟨k0,k1,k2,k3,k4⟩:=cells5 c8;obtain⟨n0,n1,n2,n3,n4⟩:=cells5 P;obtain⟨x0,x1,x2,x3,x4,x5,x6,x7,x8,x9⟩:=mg X;have B2:=fun x:Ks G (fun b=>b=w.heap.size+1∨b=w.heap.size∨b=wr.heap.size)=>x.h (wD Z) x2
   have N0:=fun x:Ks G (fun b=>b=w.heap.size+1∨b=w.heap.size∨b=wr.heap.size)=>x.h (wP (wD Z)) n0
   have K0:=fun x:Ks G (fun b=>b=w.heap.size+1∨b=w.heap.size∨b=wr.heap.size)=>x.h (wP (wP Z)) k0
   have K1:=fun x:Ks G (fun b=>b=w.heap.size+1∨b=w.heap.size∨b=wr.heap.size)=>x.h (wP (wP Z)) k1
   have K2:=fun x:Ks G (fun b=>b=w.heap.size+1∨b=w.heap.size∨b=wr.heap.size)=>x.h (wP (wP Z)) k2
   have K3:=fun x:Ks G (fun b=>b=w.heap.size+1∨b=w.heap.size∨b=wr.heap.size)=>x.h (wP (wP Z)) k3
   have K4:=fun x:Ks G (fun b=>b=w.heap.size+1∨b=w.heap.size∨b=wr.heap.size)=>x.h (wP (wP Z)) k4
   clear hA aq c8 X P cm hG k9 la c9 bm y dg lf k0 k1 k2 k3 k4 n0 n1 n2 n3 n4 x0 x1 x2 x3 x4 x5 x6 x7 x8 x9 bl cq h6 h1 h2 h3 h4 k6 hK;go_upto_region 13 with fail
   change Code.wp _ _ _ _ (wr.alloc (r9 #[I tF K.q,tS K.h,I U K.u,I U K.t,O ps nk c7] 145));rw[←fv];clear fv c0 c1 c2 c3 c4 e0 e1 e2 e3 e4;refine RP.wp_region_effP (by kernel_rfl) 11 [7,8,9] [7,9] SS (ApR G) (fun i ys=>if i=7 then xk #[I tF af.q,I U af.t,I tF af.h.q,I U af.h.u,tS af.h.h] else ys.getD 0 wF)
    (fun i W ys=>if i=7 then (∃x,co bi vs K=xt x) else if i=8 then One 267 G.heap.size (gQ af) W (ys.getD 0 wF) else if i=9 then ApV 267 5 G z j B (us++gQ af) W (ys.getD 0 wF) else True)
    (fun ch W=>Chg (aZ M [vT,vR,ad,O C cs.length D,vA]) G W∧∃er,co bi vs K=z6 er∧Ending.panicked ch=aJ er.1 er.2) ?_ (by kernel_rfl) ?_ ?_ fI ?_
   ·rintro a ch W hd ⟨hc,er,h1,h2⟩;refine⟨hd,dw (bR.o.h (Chg.t cn.o)) hc (fun x hx=>?_),?_⟩
    ·rcases ke vV hx with h|h
     ·exact wD h
     ·exact (cW.o _ h).imp (fun h=>wP ⟨_,by simp,h⟩) id
    ·show match dS bi R tr vars Ts with | .ok x=>_ | .error er=>_
     rw[iX.o]
     show match dS bi R (xt Q) vars Ts with | .ok x=>_ | .error er=>_
     unfold dS;dsimp only;rw[ni.o er h1];exact h2
   ·intro i he hc s W W' h u
    by_cases ba:s=0
    ·subst ba;exact cY h u
    ·by_cases bb:s=1
     ·subst bb;have h:AS W:=h;exact uw.C h u
     ·have h:∃S,AS S∧ApS 267 5 S z j B (us++gQ af) W:=by simpa only [SS,oB ba,oB bb]using h
      obtain⟨S,g1,g2⟩:=h;have h':∃S,AS S∧ApS 267 5 S z j B (us++gQ af) W':=⟨S,g1,g2.C u⟩
      simpa only [SS,oB ba,oB bb]using h'
   ·intro k W W' ys h _ hR
    split at h
    ·rw[oE (by assumption)];exact h
    ·rw[oB (by assumption)]
     split at h
     ·rw[oE (by assumption)];exact h.t hR
     ·rw[oB (by assumption)]
      split at h
      ·rw[oE (by assumption)];exact h.t hR
      ·rw[oB (by assumption)];trivial
   simp only[FO,FY,FQ,FX]
   repeat (refine RP.q (fun W=>∃x:Ks G (fun b=>b=w.heap.size+1∨b=w.heap.size∨b=wr.heap.size),W=x.1) (dt.o _) Z Z Z fI ?_;go_big_quiet_step (fail);refine xL ?_)
   refine RP.h Z Z ?_ (fun lg=>?_)
   ·intro W hC hS hE;obtain⟨x,rfl⟩:∃x:Wb G,W=x.1:=hS Z;refine RP.uponP_call 157 _ _ Z (enters_of Tryz.func157 (by kernel_rfl) Z) #[vv (A ⟨M,0,Y⟩),xk #[I tF K.q,tS K.h,I U K.u,I U K.t,O ps nk c7],xv bi] (by simp[Act.eval]) ((k8.o x.1 x.2).mono ?_);rintro e W' ⟨u,he⟩
    cases hr:co bi vs K with
    | error er =>
     rw[hr]at he;have he:e=aJ er.1 er.2:=he;subst he;exact wP ⟨_,Z,(Chg.t x.2).h u,er,Z,Z⟩
    | ok xa =>
     rw[hr]at he;obtain⟨rfl,cp,g1,g2⟩:=he;have nr:=x.2.size;refine wD ⟨_,Z,[],?_,?_,?_,xa,Z⟩
     ·show xk (gQ xa.2).toArray=xk (gQ af).toArray
      rw[HA.o xa hr]
     ·exact⟨(Chg.t x.2).h u,xa,cp,hr,g1,fun b u=>(g2 b u).imp id (fun h=>FH nr h)⟩
     ·exact ApR.of_chg u hD.o
   simp only[Act.put,FA,FM,FK,Nat.reduceAdd,↓reduceIte];refine RP.h Z Z ?_ (fun fT=>?_)
   ·intro W hC hS hE;have ns:G.heap.size≤W.heap.size:=by
     obtain⟨s,_,h⟩:=hC;have h:SS s W:=h
     by_cases ba:s=0
     ·subst ba;obtain⟨x,rfl⟩:∃x:Wb G,W=x.1:=h;exact x.2.size
     ·by_cases bb:s=1
      ·subst bb;have h:AS W:=h;exact h.1.u
      ·have h:∃S,AS S∧ApS 267 5 S z j B (us++gQ af) W:=by simpa only [SS,oB ba,oB bb]using h
       obtain⟨S,g1,g2⟩:=h;exact FH g1.1.u g2.chg.u
    exact RP.UponP.of (dU xp (vs:=gQ af) _ Z Z Z ns (fun v W' u ho=>⟨[v],Z,u,ApR.t u,ho⟩))
   simp only[Act.put,FA,FM,FK,Nat.reduceAdd,Nat.reduceEqDiff,↓reduceIte];refine RP.h Z Z ?_ (fun lr=>?_)
   ·intro W hC hS hE;have hS:AS W:=hS Z;have y:W.ownsRow 0 267 5 (O z j B) j us:=cO dn.o (fun g hg=>hS.1.q g (FG (cb.o g hg) cn.o.size) (ld.o g hg))
    exact RP.UponP.of (vx xp (p:=z) (n:=j) (c:=B) (L:=G.heap.size) (vs:=gQ af) (xs:=us) _ _ Z Z (hE 8 fT (by kernel_rfl) Z) Z (by simp[Value.oneCell',gQ]) y (by omega) (fun v' W' h1 h2 =>
     ⟨[v'],Z,⟨W,hS,h1⟩,ApR.of_chg h1.chg (fun b u=>FG (cb.o b u) cn.o.size),h2.from hS.1.u⟩))
   simp only[Act.put,FA,FM,FK,Nat.reduceAdd,Nat.reduceEqDiff,↓reduceIte]
   repeat (refine RP.q (fun W=>∃x:Ks G (fun b=>b=w.heap.size+1∨b=w.heap.size∨b=wr.heap.size),W=x.1) (dt.o _) Z Z Z fI ?_;go_big_quiet_step (fail);refine xL ?_)
   refine RP.t ?_;intro W hS hE;obtain⟨S,nt,l0⟩:∃S,AS S∧ApS 267 5 S z j B (us++gQ af) W:=hS;have hV:ApV 267 5 G z j B (us++gQ af) W (lr.getD 0 wF):=hE 9 lr Z;obtain⟨g',dv,eg,hg,hC,N⟩:=DW l0 hV;rw[eg];obtain⟨bn,x,cp,gf,bq,gH⟩:=nt;have hJ:=HA.o x gf;have bl:=hy.o x gf;have gL:=cn.o.size;have hL:=hz.o;have l4:w.heap.size+2≤wr.heap.size:=by have:=(Fx.1 t.o).1;omega
   have mb:∀g,(O z j B).ownBlock=A g→¬aZ M [vT,vR,cp,O C cs.length D,vA] g:=fun g ar=>by
    obtain⟨ds,h⟩:=V.o.u ar;have h5:=aa cn.o h (cb.o g ar);have h1:=(bn.q g (FG (cb.o g ar) gL) (ld.o g ar)).trans h5;exact bq.q h1 (by kernel_rfl)
   have a1:S.heap[w.heap.size+1]?=A (r9 #[I tF R,I U (Q:Int),O z j B,I tF 0,I tF 0,I U 0,tS ⟨#[]⟩,I U 0,I tF 0,O Y 0 0] 168 (0,0)):=(bn.q _ (Fx.1 hL).1 nn.o).trans hL;have hM:S.heap[w.heap.size]?=A (r9 #[I tF kd,tS T.h,I U T.u,I U T.t,O (A ⟨b,off,Y⟩) n c] 145 (0,0)):=(bn.q _ (Fx.1 ca.o).1 lb.o).trans ca.o;have en:W.heap[w.heap.size+1]?=A (r9 #[I tF R,I U (Q:Int),O z j B,I tF 0,I tF 0,I U 0,tS ⟨#[]⟩,I U 0,I tF 0,O Y 0 0] 168 (0,0)):=(hC.q _ (Fx.1 a1).1 (fun e=>(cc.o _ e).1 Z)).trans a1;have mf:=(hC.q _ (Fx.1 hM).1 (fun e=>(cc.o _ e).2.1 Z)).trans hM
   have eo:MkW F d M ts rs x.1 nm sal nv cs acs vT vR cp (O C cs.length D) vA W:=bq.upd hC.u (fun q H=>by
    rcases H with H|H
    ·exact hC.q q (bq.f q H).1 (fun e=>by have:=cV.o q e;have:=cu.o q H;omega)
    ·exact hC.q q (bq.h H) (fun e=>mb q e H))
   have hN:g'≠w.heap.size+1∧g'≠w.heap.size∧w.heap.size+2≤g':=by
    rcases hg with h|h
    ·exact⟨(cc.o g' h).1,(cc.o g' h).2.1,cV.o g' h⟩
    ·exact⟨by omega,by omega,by omega⟩
   have gM:¬aZ M [vT,vR,cp,O C cs.length D,vA] (w.heap.size+1):=fun ho=>by
    rcases ke vV ho with h|h
    ·have:=ct.o _ h;omega
    ·exact row_ne en eo.v (by decide) h
   obtain⟨W6,bd⟩:=zzx (W.setCell ⟨w.heap.size+1,2,Y⟩ (O (A ⟨g',0,Y⟩) (j+1) dv));have gg:∀q,q≠w.heap.size+1→W6.heap[q]?=W.heap[q]?:=fun q H=>by rw[bd];exact FC W ⟨w.heap.size+1,2,Y⟩ _ q H
   have gN:W6.heap.size=W.heap.size:=by rw[bd];simp[World.setCell]
   have HR:Hid (xR F d M ts rs vars nm sal nv cs acs vT vR vV (O C cs.length D) vA T kd w bi R Q Ts n (O (A ⟨b,off,Y⟩) n c) (I U ((j+1:Nat):Int)) W6):=by
    refine⟨j+1,x.1,args++[x.2],O (A ⟨g',0,Y⟩) (j+1) dv,cp,by omega,Z,?_,by rw[FT,c6.o];rfl,bl.2,?_,(gg _ (by omega)).trans mf,?_,?_,?_,?_,?_⟩
    ·rw[k7.o]
     show (match co bi vs K with | .ok r=>_ | .error e=>_)=_
     rw[gf]
    ·rw[bd];exact heap_set en 2 _
    ·refine⟨us++gQ af,?_,?_⟩
     ·rw[FT,c6.o];exact cO N (fun q H=>by injection H with H;have H:g'=q:=H;subst H;exact gg g' hN.1)
     ·exact Rd.sI (Rd.tv (fun _ u=>u.elim) hI.o) (by rw[hJ];exact EW.2 ⟨Z,by rw[←hJ];exact bl.1⟩)
    ·intro g ar;injection ar with ar
     have ar:g'=g:=ar;subst ar;exact hN.2.2
    ·refine eo.upd (by rw[gN];exact Fy _) (fun q H=>gg q ?_);rcases H with H|H
     ·have:=cu.o q H;omega
     ·exact fun e=>gM (e ▸ H)
    ·intro q H;rcases gH q H with h|h
     ·exact cW.o q h
     ·exact wP (by omega)
    ·have h1:Chg (aZ M [vT,vR,vV,O C cs.length D,vA]) w S:=dw (bR.o.h (Chg.t cn.o)) bn (fun x hx=>by
      rcases ke vV hx with h|h
      ·exact wD h
      ·exact (cW.o _ h).imp (fun h=>wP ⟨_,by simp,h⟩) id)
     have h2:Chg (aZ M [vT,vR,vV,O C cs.length D,vA]) w W:=dw h1 hC (fun x hx=>wP (by have:=cV.o x hx;omega));rw[bd];exact h2.z (p:=⟨w.heap.size+1,2,Y⟩) (wP (F3 _)) _
   obtain⟨x0,x1,x2,x3,x4,x5,x6,x7,x8,x9⟩:=mg en;have fz:=dR en;clear hE hV eg hg hC N bn gf bq gH hJ bl gL hL l4 mb a1 hM en mf eo hN gM gg gN l0 fI B2 N0 K0 K1 K2 K3 K4 x0 x1 x3 x4 x5 x6 x7 x8 x9;go_upto_region 14 with fail
   change Code.wp _ _ _ _ (W.setCell ⟨w.heap.size+1,2,Y⟩ (O (A ⟨g',0,Y⟩) (j+1) dv));rw[←bd];clear bd x2 fz;go_wp2_with fail
   refine⟨HR.o,?_⟩;simp[intOf];omega
  ·have HX:Hid (be (dk bi) (vars,[]) Ts=xt (vs,args)):=by
    show _=_
    rw[←c5.o,FW (by rw[hl.o];omega)]
   have mi:Hid (dS bi R tr vars Ts=xt (vs,⟨R,(Q:Int),args,.zero⟩)):=by
    show _=_
    rw[iX.o];unfold dS;dsimp only;rw[HX.o]
   have nu:Hid (w.heap.size≤wr.heap.size):=bR.o.u;have bt:Hid (MkW (fun q=>F q∨(O z j B).ownBlock=A q) d M ts rs vs nm sal nv cs acs vT vR ad (O C cs.length D) vA wr):=by
    refine a6.o.grow (fun _ h=>wD h) (fun q H=>?_);rcases H with H|H
    ·exact a6.o.f q H
    ·obtain⟨ds,h⟩:=V.o.u H;exact⟨V.o.lt H,a6.o.q h (by kernel_rfl)⟩
   have hP:Hid (rx.h wr (fun q=>F q∨(O z j B).ownBlock=A q) args (O z j B)):=V.o.h (fun _ h=>h.elim) (fun g hg=>wP hg);clear e0 e1 e2 e3 e4 gF;go_upto_region 17 with fail
   obtain⟨us,y,dg⟩:=bt.o.c;rw[HN.o,lh]at y;obtain⟨dn,hI⟩:=zz2 y dg;have e0:wr.cell? ⟨w.heap.size+1,0,Y⟩=A (I tF R):=by rw[Gk _ _ _ _ _ _ t.o];rfl
   have e1:wr.cell? ⟨w.heap.size+1,1,Y⟩=A (I U (Q:Int)):=by rw[Gk _ _ _ _ _ _ t.o];rfl
   have e2:wr.cell? ⟨w.heap.size+1,2,Y⟩=A (O z j B):=by rw[Gk _ _ _ _ _ _ t.o];rfl
   have e3:wr.cell? ⟨w.heap.size+1,3,Y⟩=A (I tF 0):=by rw[Gk _ _ _ _ _ _ t.o];rfl
   have e4:wr.cell? ⟨w.heap.size+1,4,Y⟩=A (I tF 0):=by rw[Gk _ _ _ _ _ _ t.o];rfl
   have e5:wr.cell? ⟨w.heap.size+1,5,Y⟩=A (I U 0):=by rw[Gk _ _ _ _ _ _ t.o];rfl
   have e6:wr.cell? ⟨w.heap.size+1,6,Y⟩=A (tS ⟨#[]⟩):=by rw[Gk _ _ _ _ _ _ t.o];rfl
   have e7:wr.cell? ⟨w.heap.size+1,7,Y⟩=A (I U 0):=by rw[Gk _ _ _ _ _ _ t.o];rfl
   have e8:wr.cell? ⟨w.heap.size+1,8,Y⟩=A (I tF 0):=by rw[Gk _ _ _ _ _ _ t.o];rfl
   have e9:wr.cell? ⟨w.heap.size+1,9,Y⟩=A (O Y 0 0):=by rw[Gk _ _ _ _ _ _ t.o];rfl
   have hQ:wr.cell? ⟨M,6,Y⟩=A (O C nC D):=by rw[Gk _ _ _ _ _ _ bt.o.m,←HN.o];rfl
   have hK:∀b,(b=M∨b=w.heap.size+1)→b<wr.heap.size∧(O C nC D).ownBlock≠A b:=fun b u=>by
    rw[←HN.o];rcases u with rfl|rfl
    ·exact⟨bt.o.lt,row_ne bt.o.m bt.o.c (by decide)⟩
    ·exact⟨(Fx.1 t.o).1,fun e=>by have:=hY.o _ e;omega⟩
   have dt:=Hd (jp (E:=168) (sz:=10) (row:=us++[I tF R,I U (Q:Int),O z j B,I tF 0,I tF 0,I U 0,tS ⟨#[]⟩,I U 0,I tF 0,O Y 0 0]) (K:=(fun b=>b=M∨b=w.heap.size+1)) hK);have E0:=fun x:Ks wr (fun b=>b=M∨b=w.heap.size+1)=>x.h (wP Z) e0
   have E1:=fun x:Ks wr (fun b=>b=M∨b=w.heap.size+1)=>x.h (wP Z) e1
   have E2:=fun x:Ks wr (fun b=>b=M∨b=w.heap.size+1)=>x.h (wP Z) e2
   have E3:=fun x:Ks wr (fun b=>b=M∨b=w.heap.size+1)=>x.h (wP Z) e3
   have E4:=fun x:Ks wr (fun b=>b=M∨b=w.heap.size+1)=>x.h (wP Z) e4
   have E5:=fun x:Ks wr (fun b=>b=M∨b=w.heap.size+1)=>x.h (wP Z) e5
   have E6:=fun x:Ks wr (fun b=>b=M∨b=w.heap.size+1)=>x.h (wP Z) e6
   have E7:=fun x:Ks wr (fun b=>b=M∨b=w.heap.size+1)=>x.h (wP Z) e7
   have E8:=fun x:Ks wr (fun b=>b=M∨b=w.heap.size+1)=>x.h (wP Z) e8
   have E9:=fun x:Ks wr (fun b=>b=M∨b=w.heap.size+1)=>x.h (wP Z) e9
   have M2:=fun x:Ks wr (fun b=>b=M∨b=w.heap.size+1)=>x.h (wD Z) hQ
   clear y dg e0 e1 e2 e3 e4 e5 e6 e7 e8 e9 hQ hK;refine RE.u (by kernel_rfl) 9 [7,8] [8] (stA 168 10 wr C nC D (us++[I tF R,I U (Q:Int),O z j B,I tF 0,I tF 0,I U 0,tS ⟨#[]⟩,I U 0,I tF 0,O Y 0 0])) (ApR wr) (fun _ ys=>ys.getD 0 wF) (phA 168 10 wr C nC D [I tF R,I U (Q:Int),O z j B,I tF 0,I tF 0,I U 0,tS ⟨#[]⟩,I U 0,I tF 0,O Y 0 0] (us++[I tF R,I U (Q:Int),O z j B,I tF 0,I tF 0,I U 0,tS ⟨#[]⟩,I U 0,I tF 0,O Y 0 0]) 7 8) (by kernel_rfl) (fun _ _ _ _ _ _ h u=>h.C u) (fun _ _ _ _ h _ hR=>h.t hR) stA.zero ?_;simp only[FO,FY,FQ,FX]
   repeat (refine RE.q (fun W=>∃x:Ks wr (fun b=>b=M∨b=w.heap.size+1),W=x.1) (dt.o _) Z Z Z stA.zero ?_;go_big_quiet_step (fail);refine xL ?_)
   refine RE.h Z Z ?_ (fun lg=>?_)
   ·intro W hC hS hE;obtain⟨s9,_,h9⟩:=hC;exact dU mq (vs:=[I tF R,I U (Q:Int),O z j B,I tF 0,I tF 0,I U 0,tS ⟨#[]⟩,I U 0,I tF 0,O Y 0 0]) _ Z Z Z h9.u (fun v W' u ho=>⟨[v],Z,u,ApR.t u,ho⟩)
   simp only[Act.put,FA,FM,FK];refine RE.h Z Z ?_ (fun fT=>?_)
   ·intro W hC hS hE;obtain⟨x,rfl⟩:∃x:Wb wr,W=x.1:=hS Z;exact iF mq (p:=C) (n:=nC) (c:=D) (w4:=wr) (vs:=[I tF R,I U (Q:Int),O z j B,I tF 0,I tF 0,I U 0,tS ⟨#[]⟩,I U 0,I tF 0,O Y 0 0]) (xs:=us) _ _ Z Z (hE 7 lg (by kernel_rfl) Z) Z (by simp[Value.oneCell']) x.2 dn.o (by omega) (fun v' W' h1 h2 h3=>⟨[v'],Z,h1,h2,h3⟩)
   simp only[Act.put,FA,FM,FK];refine RE.t ?_;intro W hS hE;have hS:ApS 168 10 wr C nC D (us++[I tF R,I U (Q:Int),O z j B,I tF 0,I tF 0,I U 0,tS ⟨#[]⟩,I U 0,I tF 0,O Y 0 0]) W:=hS;have hV:ApV 168 10 wr C nC D (us++[I tF R,I U (Q:Int),O z j B,I tF 0,I tF 0,I U 0,tS ⟨#[]⟩,I U 0,I tF 0,O Y 0 0]) W (fT.getD 0 wF):=hE 8 fT Z;obtain⟨g',cap,eg,hg,hC,N⟩:=ju hS hV;rw[eg];have bn:Chg (fun b=>(O C cs.length D).ownBlock=A b) wr W:=by rw[HN.o];exact hC
   have hT:(O C cs.length D).ownBlock=A g'∨wr.heap.size≤g':=by rw[HN.o];exact hg
   have mn:(gu d).at_ wr (fun q=>F q∨(O z j B).ownBlock=A q) ⟨R,(Q:Int),args,.zero⟩ [I tF R,I U (Q:Int),O z j B,I tF 0,I tF 0,I U 0,tS ⟨#[]⟩,I U 0,I tF 0,O Y 0 0]:=pd.2 ⟨(by rcases hs.o with ⟨_,h,_⟩|⟨_,h,_⟩<;>(show U8 R;rw[h];exact⟨by decide,by decide⟩):U8 R),⟨by show (-9223372036854775808:Int)≤(Q:Int);omega,by show (Q:Int)<9223372036854775808;omega⟩,⟨show U8 0 from ⟨by decide,by decide⟩,⟨show U8 0 from ⟨by decide,by decide⟩,show I64 0 from ⟨by decide,by decide⟩,(show (⟨#[]⟩:ByteArray).size≤maxLen by decide)⟩,show I64 0 from ⟨by decide,by decide⟩,show U8 0 from ⟨by decide,by decide⟩⟩,O z j B,O Y 0 0,Z,hP.o,BO⟩
   obtain⟨bd,mu,hU⟩:=bt.o.pushC HN.o hI.o mn hT bn (by rw[lh];exact N);have hQ:W.cell? ⟨M,6,Y⟩=A (O C nC D):=by rw[Gk _ _ _ _ _ _ (hU.trans bt.o.m),←HN.o];rfl
   have oc:=ax (hU.trans bt.o.m) 6;have HP:Hid (kV F d M ts rs nm sal nv cs acs vT vR vV (O C cs.length D) vA (xt (vs,⟨R,(Q:Int),args,.zero⟩)) w (Ending.returned (xv true)) (W.setCell ⟨M,6,Y⟩ (O (A ⟨g',0,Y⟩) (nC+1) cap))):=by
    refine⟨dw bR.o mu (fun x hx=>by rcases ke vV hx with h|h;exact wD h;exact (cW.o _ h).imp (fun h=>wP ⟨_,by simp,h⟩) id),Z,(fun q=>F q∨(O z j B).ownBlock=A q),ad,_,bd,cW.o,fun b u=>?_,fun _ h=>wD h,fun b h=>h.imp id (fun h=>by have:=cV.o b h;omega)⟩
    injection u with u
    have u:g'=b:=u;subst u;rcases hT with h|h
    ·exact wD h
    ·have:=nu.o;exact wP (by omega)
   clear hS hV hE eg hg hC N bn hT bd mu hU E0 E1 E2 E3 E4 E5 E6 E7 E8 E9 M2 dt mn;go_wp2_with fail
   go_ret;rw[mi.o];exact HP.o
