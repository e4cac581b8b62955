/- Parts of one proof, joined; conditions stand in each theorem. -/
import Derived.Test.YtkhfjgjjhlnnnaaGreatDoorOE
import Derived.Test.YtkhfjgjjhlnnnaaGreatDoorNL
open Decidable renaming decide→wo
open Except renaming error→z8,ok→xL
open Bool renaming true→wg,false→wj
open Go renaming Value→vn,World→vk,wpQuiet_nil→z7,undef→xD
open Option renaming some→Y,none→U
open Go.Obj renaming cells→ur
open Go.Value renaming slice→A,int→I,tuple→AJ,pointer→wF,string→J
open Go.IntKind renaming i64→Z,u8→O
namespace Go.Proofs.YtkhfjgjjhlnnnaaGreatDoor
set_option maxHeartbeats 8000000
set_option maxRecDepth 100000
open Go.RowKit
theorem tK{fl:Flt}{a b:Bool}{c p:Int}(e:c≠0):az (az fl a c p) b c p=az fl (a||b) c p:=by
 obtain⟨f,g⟩:=fl;unfold az
 cases a<;>cases b<;>by_cases h:f=0<;>simp[h,e]
theorem ub(x:ByteArray):∀(l:List ByteArray) (k:Nat),(f7 x l k).isSome=l.any (fun y=>y.data.toList==x.data.toList)
 | [],_=>rfl
 | y::l,k=>by
  unfold f7;rw[List.any_cons]
  cases h:(y.data.toList==x.data.toList) with
  | true=>rfl
  | false=>rw[r5 (by simp),Bool.false_or];exact ub x l (k+1)
theorem sS(x:ByteArray)(l:List ByteArray):(idxOf x l).isSome=l.any (fun y=>y.data.toList==x.data.toList):=ub x l 0
theorem zE(o:Option Nat):wo (0≤bU o)=o.isSome:=by
 cases o with
 | none=>rfl
 | some j=>exact decide_eq_true (by show (0:Int)≤(j:Int);omega)
theorem yp{fl:Flt}{seen:List ByteArray}{T:ab}:Goes fl (fieldStep seen T) (az fl (seen.any (fun y=>y.data.toList==T.f.data.toList)) 210 T.t) (fun s=>seen++[T.f]=s):=by
 obtain⟨a,b⟩:=fl;unfold Goes fieldStep az;rw[sS];refine⟨fun h=>?_,fun h=>?_⟩
 ·have h:¬a=0:=h;simp[h]
 ·have h:a=0:=h;subst h
  cases (seen.any (fun y=>y.data.toList==T.f.data.toList))<;>simp
theorem zY{ts:List ae}{T:ab}{fl fl':Flt}{seen:List ByteArray}(l:T.b=2)
  (h:Goes (az (az fl (a9 T.f ts).isSome 210 T.t) (wo (32≤ts.length)||decide (6<T.q.length)) 204 T.t) (aG fieldStep [] T.q) fl' (fun s=>seen=s)):Goes fl (dm ts T) fl' (fun r=>ts++[⟨T.f,T.q.length⟩]=r):=by
 have e:dm ts T=if (a9 T.f ts).isSome then z8 (210,T.t)
  else if 32≤ts.length||6<T.q.length then z8 (204,T.t)
  else match aG fieldStep [] T.q with
   | .error e=>z8 e
   | .ok _=>xL (ts++[⟨T.f,T.q.length⟩]):=by
  unfold dm;rw[l];rfl
 rw[e];obtain⟨f,c⟩:=fl;refine⟨fun a=>?_,fun a=>?_⟩
 ·have a:¬f=0:=a;have b:az (az (f,c) (a9 T.f ts).isSome 210 T.t) (wo (32≤ts.length)||decide (6<T.q.length)) 204 T.t=(f,c):=by unfold az;simp[a]
  rw[b]at h;exact h.1 a
 ·have a:f=0:=a;subst a
  cases g:(a9 T.f ts).isSome with
  | true =>
   rw[g]at h;have b:az (az ((0:Int),c) wg 210 T.t) (wo (32≤ts.length)||decide (6<T.q.length)) 204 T.t=(210,T.t):=by unfold az;simp
   rw[b]at h;exact h.1 (by show (210:Int)≠0;decide)
  | false =>
   rw[g]at h
   cases i:(wo (32≤ts.length)||decide (6<T.q.length)) with
   | true =>
    rw[i]at h;have b:az (az ((0:Int),c) wj 210 T.t) wg 204 T.t=(204,T.t):=by unfold az;simp
    rw[b]at h;rw[r5 (by decide),r6 V];exact h.1 (by show (204:Int)≠0;decide)
   | false =>
    rw[i]at h;have b:az (az ((0:Int),c) wj 210 T.t) wj 204 T.t=(0,c):=rfl;rw[b]at h;have h:=h.2 V;rw[r5 (by decide),r5 (by decide)]
    cases j:aG fieldStep [] T.q with
    | error er=>rw[j]at h;exact h
    | ok r =>
     rw[j]at h;exact⟨h.1,V⟩
theorem rq{ts:List ae}{T:ab}(a:T.b≠2):dm ts T=xL ts:=by
 unfold dm;rw[r5 (by simpa using a)]
theorem EY{M:Nat}{ts:List ae}{k:Int}{fl:Flt}{vT vR:vn}{W:vk}(hm:W.heap[M]?=Y (ur #[vT,vR,A U 0 0,I Z k,I Z fl.1,I Z fl.2] 83 (0,0)))(b:aI W (fun _=>False) 52 bZ ts vT):RmW M ts [] k fl vT vR (A U 0 0) W:=
 ⟨hm,b.C (fun _ h=>h.elim) (fun g c=>⟨b.lt c,fun e=>by
  subst e;obtain⟨cs,a⟩:=b.f c;rw[hm]at a;injection a with a
  injection a with _ f
  exact absurd f (by decide)⟩),Rd.sm⟩
def rZ(M:Nat) (k:Int) (vR:vn) (n:Nat) (fl:Flt) (r:Except Flt (List ae)) (w:vk) (e:Ending) (w':vk):Prop:=
 ∃(fl':Flt) (ts:List ae) (vT:vn),e=Ending.returned (AJ #[])∧Chg (fun b=>b=M) w w'∧w'.heap[M]?=Y (ur #[vT,vR,A U 0 0,I Z k,I Z fl'.1,I Z fl'.2] 83 (0,0))∧aI w' (fun _=>False) 52 bZ ts vT∧(∀g,vT.ownBlock=Y g→w.heap.size≤g)∧ts.length≤n∧Goes fl r fl' (fun y=>ts=y)
def kY(M:Nat) (k:Int) (vR:vn) (n:Nat) (fl:Flt) (Ts:List ab) (c:Array vn) (w:vk) (e:vn) (W:vk):Prop:=
 ∃(i:Nat) (a:Flt) (ts:List ae) (vT:vn),i≤n∧e=I Z (i:Int)∧Chg (fun b=>b=M) w W∧W.heap[M]?=Y (ur #[vT,vR,A U 0 0,I Z k,I Z a.1,I Z a.2] 83 (0,0))∧W.heap[w.heap.size]?=Y (ur c 25 (0,0))∧aI W (fun _=>False) 52 bZ ts vT∧(∀g,vT.ownBlock=Y g→w.heap.size+1≤g)∧ts.length≤i∧Goes fl (aG dm [] (Ts.take i)) a (fun y=>ts=y)
def nh(M:Nat) (ts:List ae) (k:Int) (vT vR:vn) (fl:Flt) (Ks:List ab) (n g:Nat) (b:Array vn) (c:vk) (e:vn) (W:vk):Prop:=
 ∃(i:Nat) (a:Flt),i≤n∧e=I Z (i:Int)∧aD M ts [] k vT vR (A U 0 0) c a W∧W.heap[g]?=Y (ur b 25 (0,0))∧Goes fl (aG fieldStep [] (Ks.take i)) a (fun y=>(Ks.take i).map ab.f=y)
def nM(M:Nat) (ts:List ae) (k:Int) (vT vR:vn) (a:Flt) (Ks:List ab) (K:ab) (i g:Nat) (b:Array vn) (c:vk) (e:vn) (W:vk):Prop:=
 ∃j:Nat,j≤i∧e=I Z (j:Int)∧aD M ts [] k vT vR (A U 0 0) c (az a (((Ks.take j).map ab.f).any (fun y=>y.data.toList==K.f.data.toList)) 210 K.t) W∧W.heap[g]?=Y (ur b 25 (0,0))
theorem uO{α:Type}(l:List α)(x:α)(f:α→Bool):(l++[x]).any f=(l.any f||f x):=by rw[List.any_append];simp
theorem take_snoc{α:Type}{l:List α}{i:Nat}{x:α}(h:l[i]?=Y x):l.take (i+1)=l.take i++[x]:=by rw[FY,h];rfl
def EE(M B d:Nat) (K:ab) (a:Nat) (b:Option Addr) (cs:Nat) (W:vk):Prop:=K.q.length=a∧B≤M∧aj W B (d+1) K.q (A b a cs)
theorem ww(d M B:Nat)(k:Int)(vR:vn)(fl:Flt)(T:ab)(sl:vn)(w:vk)(hm:w.heap[M]?=Y (ur #[A U 0 0,vR,A U 0 0,I Z k,I Z fl.1,I Z fl.2] 83 (0,0)))(hK:B≤M)(R:aj w B (d+2) T.q sl)(e6:T.q.length≤10000)
  (S:∀K∈T.q,K.f.size≤72007∧K.q.length≤20000) :
  Calls Tryz.prog 25 #[wF (Y ⟨M,0,U⟩),Value.agg #[I O T.b,J T.f,I Z T.h,I Z T.t,sl]] w (rZ M k vR T.q.length fl (aG dm [] T.q) w):=by
 obtain⟨Ts,e7⟩:=zzy (T.q);rw[e7]at R e6 S ⊢;obtain⟨n,hn⟩:=zzy (Ts.length);obtain⟨p,c,hL⟩:∃p c,sl=A p n c:=by
  rcases R with ⟨rfl,sp,cap,rfl⟩|⟨b,off,cap,h1,h2,h3,h4,rfl,h6⟩
  ·exact⟨sp,cap,by rw[←hn];rfl⟩
  ·exact⟨_,_,by rw[hn]⟩
 subst hL;have e8:M<w.heap.size:=(Fi.1 hm).1;obtain⟨HK,hM⟩:=zz2 R S;rw[hn]at e6 ⊢;have HN:=Hd hn;obtain⟨w1,cl⟩:=zzx (w.alloc (ur #[I O T.b,J T.f,I Z T.h,I Z T.t,A p n c] 25));have dc:Gc w w1:=by rw[cl];exact (Fl _ w).alloc (Fj _) _
 have dd:=qv w (ur #[I O T.b,J T.f,I Z T.h,I Z T.t,A p n c] 25);rw[←cl]at dd;have e9:Hid (kY M k vR n fl Ts #[I O T.b,J T.f,I Z T.h,I Z T.t,A p n c] w (I Z 0) w1):=
  ⟨0,fl,[],A U 0 0,FA _,V,Chg.f dc,(dc.block M e8).trans hm,dd,aI.nil,(fun g h=>by cases h),Fj _,fL V V⟩
 have fe:=Hd cl;clear R S hn cl dc dd e7 hm
 go_enter Tryz.func25,Tryz.ntmps25
 go_upto_region 1 with fail
 change Code.wp _ _ _ _ (w.alloc (ur #[I O T.b,J T.f,I Z T.h,I Z T.t,A p n c] 25));rw[←fe.o];clear fe;go_wp2_with fail
 go_loopw [4] (kY M k vR n fl Ts #[I O T.b,J T.f,I Z T.h,I Z T.t,A p n c] w) (fun i _=>n-(intOf i).toNat)
 case atStart=>exact e9.o
 case round =>
  generalize wr=N at *;obtain⟨i,bq,ts,vT,hi,rfl,fm,hm,al,br,fp,hN,fv⟩:=hrel;obtain⟨G,H,fz⟩:=br.b;obtain⟨l,dg⟩:=zzy (ts.length);rw[dg]at fz hN;subst fz;have k1:(0:Int)≤i:=by omega
  obtain⟨b0,b1,b2,b3,b4⟩:=cells5 al;obtain⟨bb,HM,dp,HR,HG,ds,bc⟩:=zz7 fm hm al br fp fv dg;clear fm hm al br fp fv dg
  by_cases av:i<n
  ·have hO:(i:Int)<n:=by omega
   obtain⟨K,hT⟩:∃K,Ts[i]?=Y K:=⟨_,Fq (by rw[HN.o];exact av)⟩;have R:=HK.o.u (eI bb.o hK e8);rcases R with ⟨rfl,_⟩|⟨b,off,cap,h1,h2,h3,h4,he,h6⟩
   ·simp at hT
   rw[HN.o]at he;injection he with e1 _ e3
   subst e1;subst e3;obtain⟨fI,s,c0,c1,c2,c3,c4,S⟩:=h6 i K hT;obtain⟨ps,cs,rfl⟩:=S.f;obtain⟨f,cq⟩:=zzy (K.q.length);rw[cq]at c4 S;obtain⟨fT,hP⟩:=hM.o K (FM hT);rw[cq]at hP;obtain⟨kd,bt⟩:∃kd:Int,(K.b:Int)=kd:=⟨_,rfl⟩;rw[bt]at c0;obtain⟨gf,gg,hQ,bd⟩:=zz4 bt hT fT cq;obtain⟨z,cr⟩:=zzx (N.alloc (ur #[I O kd,J K.f,I Z K.h,I Z K.t,A ps f cs] 25));have bl:Gc N z:=by rw[cr];exact (Fl _ N).alloc (Fj _) _
   have dv:=qv N (ur #[I O kd,J K.f,I Z K.h,I Z K.t,A ps f cs] 25);rw[←cr]at dv;have ea:M<N.heap.size:=(Fi.1 HM.o).1;obtain⟨bn,aq,eb,gD,ct,bB,hX⟩:=zz7 ea dv bl ((bl.block M ea).trans HM.o) (HR.o.u bl (F':=fun _=>False) (fun _ h=>h.elim) (fun _ h=>h)) (aa bl dp.o (Fi.1 dp.o).1) S;obtain⟨cC,gE⟩:=zz2 (bb.o.b (Chg.f bl)) cr;have k2:=bb.o.h;clear fI S h6 h1 h2 h3 h4 hT fT bl dv cr bt cq ea;go_upto_region 5 with fail
   change Code.wp _ _ _ _ (N.alloc (ur #[I O kd,J K.f,I Z K.h,I Z K.t,A ps f cs] 25));rw[←gE.o];clear gE b0 b1 b2 b3 b4 c0 c1 c2 c3 c4;obtain⟨b0,b1,b2,b3,b4⟩:=cells5 aq.o
   by_cases gF:kd=2
   ·have bR:K.b=2:=by have:=gf.o;omega
    have hY:=Hd bR;subst gF;clear bR;go_upto_region 6 with fail
    have b5:=Hd (EY gD.o ct.o);have ec:=Hd (fun W (hW:Gc z W)=>qs (b5.o.u hW) K.f);obtain⟨q,hq⟩:=zzy (bU (a9 K.f ts));have HQ:=Hd hq;rw[hq]at ec;have h5:-9223372036854775808≤q∧q<9223372036854775808:=by
     rw[←hq];have h7:=Rd.T b5.o.t;unfold maxLen at h7
     cases hx:a9 K.f ts with
     | none=>exact⟨by decide,by decide⟩
     | some j =>
      have:j<(ts.map ae.a).length:=nY _ _ _ hx;rw[List.length_map]at this
      show _≤(j:Int)∧(j:Int)<_
      omega
    obtain⟨k3,k4⟩:=h5;have E0:=fun x:Wb z=>x.b b0
    have E1:=fun x:Wb z=>x.b b1
    have E2:=fun x:Wb z=>x.b b2
    have E3:=fun x:Wb z=>x.b b3
    have E4:=fun x:Wb z=>x.b b4
    clear hq b0 b1 b2 b3 b4;refine RE.q (by kernel_rfl) 7 [4] [] (fun _ W=>∃x:Wb z,W=x.1) (fun W W'=>Gc W W') (fun _ _=>I Z q) (fun _ _ _=>True) (by kernel_rfl) (fun _ _ _ _ _ _ h u=>bE h u) (fun _ _ _ _ _ _ _=>trivial) ⟨⟨z.drew,(Fl _ _).drew⟩,V⟩ ?_;simp only[Fy,FK,Fz,FI]
    repeat (refine RE.b (fun W=>∃x:Wb z,W=x.1) (fun _ _ _ h=>h) V V V ⟨⟨z.drew,(Fl _ _).drew⟩,V⟩ ?_;go_big_quiet_step (fail);refine z7 ?_)
    refine RE.f V V ?_ (fun k5=>?_)
    ·intro W hC _ hE;obtain⟨s9,_,x,rfl⟩:=hC;refine RE.t 49 _ _ V (enters_of Tryz.func49 (by kernel_rfl) V) #[wF (Y ⟨M,0,U⟩),J K.f] (by simp[Act.eval]) ((ec.o x.1 x.2).mono ?_);rintro e W' ⟨rfl,u⟩;exact⟨_,V,[],V,u,u,trivial⟩
    simp only[Act.put,Fo,Fw,Fv]
    repeat (refine RE.b (fun W=>∃x:Wb z,W=x.1) (fun _ _ _ h=>h) V V V ⟨⟨z.drew,(Fl _ _).drew⟩,V⟩ ?_;go_big_quiet_step (fail);refine z7 ?_)
    refine RE.h ?_;intro W6 hS hE;obtain⟨x6,rfl⟩:=hS;obtain⟨h8,gH⟩:=zz2 x6.2 (aD.f b5.o x6.2);have gL:=Hd (fun b6=>dH gH.o.2 b6 210 2 K.f K.h K.t ps f cs);clear hE E0 E1 E2 E3 E4 ec;generalize x6.1=W6 at *;go_wp2_with fail
    refine (gL.o _).mono ?_;rintro e P ⟨rfl,ek⟩;obtain⟨L,gM⟩:=zz2 (gH.o.b ek) (aa h8.o aq.o (Fi.1 aq.o).1);have gN:=Hd (bv ek.1 gM.o (Fi.1 gM.o).1 (fun e=>by have:=bn.o;omega));clear ek gL;obtain⟨X,b7⟩:=zzy (az bq (wo (0≤q)) 210 K.t);have gO:Hid (az bq (a9 K.f ts).isSome 210 K.t=X):=by
     show _=_
     rw[←b7,←zE,HQ.o]
    rw[b7]at L;clear b7;have cu:=Hd (fun (W:vk) (hW:Gc P W) b6=>dH (L.o.2.u hW) b6 204 2 K.f K.h K.t ps f cs);go_upto_region 7 with fail
    go_cut [] from 31 to 46 (fun W=>aD M ts [] k (A G l H) vR (A U 0 0) z (az X (wo ((32:Int)≤l)||decide ((6:Int)<f)) 204 K.t) W)
    case first =>
     obtain⟨b0,b1,b2,b3,b4⟩:=cells5 gN.o;obtain⟨m0,m1,m2,m3,m4,m5⟩:=cU L.o.2.m;have E0:=fun x:Wb P=>x.b b0
     have E1:=fun x:Wb P=>x.b b1
     have E2:=fun x:Wb P=>x.b b2
     have E3:=fun x:Wb P=>x.b b3
     have E4:=fun x:Wb P=>x.b b4
     have M0:=fun x:Wb P=>x.b m0
     clear b0 b1 b2 b3 b4 m0 m1 m2 m3 m4 m5
     by_cases cR:(32:Int)≤l
     ·have cv:wo ((32:Int)≤l)=true:=decide_eq_true cR;refine RE.q (by kernel_rfl) 15 [] [] (fun _ W=>∃x:Wb P,W=x.1) (fun W W'=>Gc W W') (fun _ _=>xD) (fun _ _ _=>True) (by kernel_rfl) (fun _ _ _ _ _ _ h u=>bE h u) (fun _ _ _ _ _ _ _=>trivial) ⟨⟨P.drew,(Fl _ _).drew⟩,V⟩ ?_;simp only[Fy,FK,Fz,FI]
      repeat (refine RE.b (fun W=>∃x:Wb P,W=x.1) (fun _ _ _ h=>h) V V V ⟨⟨P.drew,(Fl _ _).drew⟩,V⟩ ?_;go_big_quiet_step (fail);refine z7 ?_)
      refine RE.h ?_;intro W hS hE;obtain⟨x,rfl⟩:=hS;obtain⟨ad,af⟩:=zz2 (cu.o x.1 x.2 wg) (L.o.b (aD.f L.o.2 x.2));clear hE E0 E1 E2 E3 E4 M0;go_wp2_with fail
      refine ad.o.mono ?_;rintro e b8 ⟨rfl,r⟩;have HP:Hid (aD M ts [] k (A G l H) vR (A U 0 0) z (az X (wo ((32:Int)≤l)||decide ((6:Int)<f)) 204 K.t) b8):=by
       show aD _ _ _ _ _ _ _ _ _ _
       rw[cv];exact af.o.b r
      clear r ad;go_wp2_with fail
      go_meet
      case rel=>exact HP.o
     ·have cv:wo ((32:Int)≤l)=false:=r7 cR
      by_cases av:(6:Int)<f
      ·have el:wo ((6:Int)<f)=true:=decide_eq_true av;refine RE.q (by kernel_rfl) 15 [] [] (fun _ W=>∃x:Wb P,W=x.1) (fun W W'=>Gc W W') (fun _ _=>xD) (fun _ _ _=>True) (by kernel_rfl) (fun _ _ _ _ _ _ h u=>bE h u) (fun _ _ _ _ _ _ _=>trivial) ⟨⟨P.drew,(Fl _ _).drew⟩,V⟩ ?_;simp only[Fy,FK,Fz,FI]
       repeat (refine RE.b (fun W=>∃x:Wb P,W=x.1) (fun _ _ _ h=>h) V V V ⟨⟨P.drew,(Fl _ _).drew⟩,V⟩ ?_;go_big_quiet_step (fail);refine z7 ?_)
       refine RE.h ?_;intro W hS hE;obtain⟨x,rfl⟩:=hS;obtain⟨ad,af⟩:=zz2 (cu.o x.1 x.2 wg) (L.o.b (aD.f L.o.2 x.2));clear hE E0 E1 E2 E3 E4 M0;go_wp2_with fail
       refine ad.o.mono ?_;rintro e b8 ⟨rfl,r⟩;have HP:Hid (aD M ts [] k (A G l H) vR (A U 0 0) z (az X (wo ((32:Int)≤l)||decide ((6:Int)<f)) 204 K.t) b8):=by
        show aD _ _ _ _ _ _ _ _ _ _
        rw[cv,el];exact af.o.b r
       clear r ad;go_wp2_with fail
       go_meet
       case rel=>exact HP.o
      ·have el:wo ((6:Int)<f)=false:=r7 av;refine RE.q (by kernel_rfl) 15 [] [] (fun _ W=>∃x:Wb P,W=x.1) (fun W W'=>Gc W W') (fun _ _=>xD) (fun _ _ _=>True) (by kernel_rfl) (fun _ _ _ _ _ _ h u=>bE h u) (fun _ _ _ _ _ _ _=>trivial) ⟨⟨P.drew,(Fl _ _).drew⟩,V⟩ ?_;simp only[Fy,FK,Fz,FI]
       repeat (refine RE.b (fun W=>∃x:Wb P,W=x.1) (fun _ _ _ h=>h) V V V ⟨⟨P.drew,(Fl _ _).drew⟩,V⟩ ?_;go_big_quiet_step (fail);refine z7 ?_)
       refine RE.h ?_;intro W hS hE;obtain⟨x,rfl⟩:=hS;obtain⟨ad,af⟩:=zz2 (cu.o x.1 x.2 wj) (L.o.b (aD.f L.o.2 x.2));clear hE E0 E1 E2 E3 E4 M0;go_wp2_with fail
       refine ad.o.mono ?_;rintro e b8 ⟨rfl,r⟩;have HP:Hid (aD M ts [] k (A G l H) vR (A U 0 0) z (az X (wo ((32:Int)≤l)||decide ((6:Int)<f)) 204 K.t) b8):=by
        show aD _ _ _ _ _ _ _ _ _ _
        rw[cv,el];exact af.o.b r
       clear r ad;go_wp2_with fail
       go_meet
       case rel=>exact HP.o
    case rest =>
     obtain⟨gS,gT⟩:=zz2 hcut (bv hcut.1 aq.o (Fi.1 aq.o).1 (fun e=>by have:=bn.o;omega));obtain⟨Q,b9⟩:=zzy (az X (wo ((32:Int)≤l)||decide ((6:Int)<f)) 204 K.t);have hc:Hid (az (az bq (a9 K.f ts).isSome 210 K.t) (wo (32≤ts.length)||decide (6<K.q.length)) 204 K.t=Q):=by
      show _=_
      rw[gO.o,bc.o,bd.o,←b9]
      congr 1
      rw[show wo ((32:Int)≤l)=wo (32≤l) from tk.2 (by omega),show wo ((6:Int)<f)=wo (6<f) from tk.2 (by omega)]
     rw[b9]at gS;have ih:Hid (EE M B d K f ps cs z):=by
      have iv:=bb.o.h;exact⟨bd.o,by omega,hX.o.u (eb.o.mono (by have:=bn.o;omega))⟩
     clear hcut b9 L gN cu;obtain⟨b0,b1,b2,b3,b4⟩:=cells5 gT.o
     go_upto_block 2 with fail
     go_cut [] from 6 to 78 (fun W=>∃ar,aD M ts [] k (A G l H) vR (A U 0 0) z ar W∧Goes Q (aG fieldStep [] K.q) ar (fun y=>K.q.map ab.f=y))
     case first =>
      have en:Hid (nh M ts k (A G l H) vR Q K.q f N.heap.size #[I O 2,J K.f,I Z K.h,I Z K.t,A ps f cs] z (I Z 0) wc):=⟨0,Q,FA _,V,gS.o,gT.o,fL V V⟩;clear b0 b1 b2 b3 b4;go_wp2_with fail
      go_loopw [6] (nh M ts k (A G l H) vR Q K.q f N.heap.size #[I O 2,J K.f,I Z K.h,I Z K.t,A ps f cs] z) (fun i _=>f-(intOf i).toNat)
      case atStart=>exact en.o
      case round =>
       generalize wr=wp at *;obtain⟨a,cx,ha,rfl,hd,eo,cV⟩:=hrel;have k6:(0:Int)≤a:=by omega
       obtain⟨b0,b1,b2,b3,b4⟩:=cells5 eo;obtain⟨hf,ix,cW⟩:=zz3 hd eo cV;clear hd eo cV
       by_cases iA:a<f
       ·have iB:(a:Int)<f:=by omega
        obtain⟨cb,hA⟩:∃cb,K.q[a]?=Y cb:=⟨_,Fq (by rw[bd.o];exact iA)⟩;have HA:=Hd hA;have iX:Hid (nM M ts k (A G l H) vR cx K.q cb a N.heap.size #[I O 2,J K.f,I Z K.h,I Z K.t,A ps f cs] z (I Z 0) wp):=⟨0,FA _,V,hf.o,ix.o⟩;clear hA;go_wp2_with fail
        go_loopw [7] (nM M ts k (A G l H) vR cx K.q cb a N.heap.size #[I O 2,J K.f,I Z K.h,I Z K.t,A ps f cs] z) (fun j _=>a-(intOf j).toNat)
        case atStart=>exact iX.o
        case round =>
         obtain⟨j,hj,rfl,c5,c6⟩:=hrel;have k7:(0:Int)≤j:=by omega
         obtain⟨a1,a6⟩:=zz2 c5 c6;clear c5 c6
         by_cases k8:j<a
         ·have i1:(j:Int)<a:=by omega
          have k9:(j:Int)<f:=by omega
          obtain⟨C,cc⟩:∃C,K.q[j]?=Y C:=⟨_,Fq (by rw[bd.o];omega)⟩;obtain⟨c7,hh,c8⟩:=ih.o;have R:=c8.u (eI a1.o.1 hh (by have:=bn.o;have:=eb.o.size;omega));rcases R with ⟨h0,_⟩|⟨bk,ok,ck,h1,h2,h3,h4,he,h6⟩
          ·rw[h0]at cc;simp at cc
          rw[c7]at he;injection he with e1 _ e3
          subst e1;subst e3;obtain⟨jj,sA,u0,u1,u2,u3,u4,hk⟩:=h6 a cb HA.o;obtain⟨jv,sC,z0,z1,z2,z3,z4,j2⟩:=h6 j C cc;obtain⟨pa,ca,rfl⟩:=hk.f;have hl:(K.q.take (j+1)).map ab.f=(K.q.take j).map ab.f++[C.f]:=by rw[take_snoc cc,List.map_append];rfl
          have kc:=Hd hl;obtain⟨b0,b1,b2,b3,b4⟩:=cells5 a6.o;clear c7 hh c8 h1 h2 h3 h4 h6 jj jv hk j2 cc hl z0 z2 z3 z4
          go_wp2
          go_still_tail 19,(by kernel_rfl)
          change wpList _ _ _ _ _ wr.drew;obtain⟨w9,ep⟩:=zzx (wr.drew);have er:Gc wr w9:=by rw[ep];exact (Fl _ wr).drew
          rw[←ep];obtain⟨af,hp⟩:=zz2 (a1.o.b (aD.f a1.o.2 er)) (aa er a6.o (Fi.1 a6.o).1);have hr:=Hd (fun b6=>dH af.o.2 b6 210 cb.b cb.f cb.h cb.t pa cb.q.length ca);clear ep er b0 b1 b2 b3 b4 u0 u1 u2 u3 u4 z1;go_wp2_with fail
          refine (hr.o _).mono ?_;rintro e kf ⟨rfl,r⟩;have hs:=Hd (bv r.1 hp.o (Fi.1 hp.o).1 (fun e=>by have:=bn.o;omega));have ba:=af.o.b r;rw[tK (by decide)]at ba;have HP:Hid (nM M ts k (A G l H) vR cx K.q cb a N.heap.size #[I O 2,J K.f,I Z K.h,I Z K.t,A (Y ⟨bk,ok,U⟩) f cs] z (I Z ((j+1:Nat):Int)) kf):=by
           refine⟨j+1,by omega,V,?_,hs.o⟩;rw[kc.o,uO];rw[FB,FB]at ba;exact ba
          clear r ba hr;go_wp2_with fail
          refine⟨HP.o,?_⟩;simp[intOf];omega
         ·have ht:j=a:=by omega
          have HP:Hid (nh M ts k (A G l H) vR Q K.q f N.heap.size #[I O 2,J K.f,I Z K.h,I Z K.t,A ps f cs] z (I Z ((a+1:Nat):Int)) wr):=by
           subst ht;refine⟨j+1,_,by omega,V,a1.o,a6.o,?_⟩;have h1:=iu lJ HA.o cW.o yp;rw[take_snoc HA.o,List.map_append];rw[take_snoc HA.o]at h1;exact h1
          have i1:¬(j:Int)<a:=by omega
          clear ht;go_wp2_with fail
          refine⟨HP.o,?_⟩;simp[intOf];omega
       ·have HP:Hid (∃ar,aD M ts [] k (A G l H) vR (A U 0 0) z ar wp∧Goes Q (aG fieldStep [] K.q) ar (fun y=>K.q.map ab.f=y)):=by
         have h1:K.q.take a=K.q:=FH (by rw[bd.o];omega);have h2:=cW.o;rw[h1]at h2;exact⟨cx,hf.o,h2⟩
        have iB:¬(a:Int)<f:=by omega
        go_wp2_with fail
        go_meet
        case rel=>exact HP.o
     case rest =>
      generalize wc=wd at *;obtain⟨ar,D,c9⟩:=hcut;obtain⟨et,kk,hv⟩:=zz3 D c9 (bv D.1 aq.o (Fi.1 aq.o).1 (fun e=>by have:=bn.o;omega));have kn:aI wd (fun _=>False) 52 bZ ts (A G l H):=ct.o.z (fun g hg=>D.1.q g (ct.o.lt hg) (fun e=>by have:=HG.o g hg;omega)) (fun _ h=>h.elim) (fun _ h=>h);have da:=Hd (bv D.1 bB.o (Fi.1 bB.o).1 (fun e=>by omega));obtain⟨us,ak,hy⟩:=kn;rw[bc.o]at ak;have ak:wd.ownsRow 0 52 2 (A G l H) l us:=ak;obtain⟨hz,kp⟩:=zz2 ak hy;have hD:wd.cell? ⟨M,0,U⟩=Y (A G l H):=by rw[Gb _ _ _ _ _ _ D.2.m];rfl
      have la:=D.1.h;have iv:=eb.o.size;have hG:∀b,(b=M∨b=N.heap.size)→b<wd.heap.size∧(A G l H).ownBlock≠Y b:=fun b u=>by
       rcases u with rfl|rfl
       ·exact⟨D.2.lt,fun e=>by have:=HG.o _ e;omega⟩
       ·exact⟨(Fi.1 hv.o).1,fun e=>by have:=HR.o.lt e;omega⟩
      have ev:=Hd (js (E:=52) (sz:=2) (row:=us++[J K.f,I Z (f:Int)]) (K:=fun b=>b=M∨b=N.heap.size) hG);obtain⟨e0,e1,e2,e3,e4⟩:=cells5 hv.o;have E1:=fun x:Ks wd (fun b=>b=M∨b=N.heap.size)=>x.b (Or.inr V) e1
      have E4:=fun x:Ks wd (fun b=>b=M∨b=N.heap.size)=>x.b (Or.inr V) e4
      have M0:=fun x:Ks wd (fun b=>b=M∨b=N.heap.size)=>x.b (Or.inl V) hD
      clear ak hy hD hG e0 e1 e2 e3 e4 D c9;go_upto_region 15 with fail
      refine RE.q (by kernel_rfl) 17 [12,13] [13] (stA 52 2 wd G l H (us++[J K.f,I Z (f:Int)])) (ApR wd) (fun _ ys=>ys.getD 0 xD) (phA 52 2 wd G l H [J K.f,I Z (f:Int)] (us++[J K.f,I Z (f:Int)]) 12 13) (by kernel_rfl) (fun _ _ _ _ _ _ h u=>h.u u) (fun _ _ _ _ h _ hR=>h.z hR) stA.zero ?_;simp only[Fy,FK,Fz,FI]
      repeat (refine RE.b (fun W=>∃x:Ks wd (fun b=>b=M∨b=N.heap.size),W=x.1) (ev.o _) V V V stA.zero ?_;go_big_quiet_step (fail);refine z7 ?_)
      refine RE.f V V ?_ (fun ks=>?_)
      ·intro W hC hS hE;obtain⟨s9,_,h9⟩:=hC;exact dO ml (vs:=[J K.f,I Z (f:Int)]) _ V V V h9.h (fun v W' u ho=>⟨[v],V,u,ApR.f u,ho⟩)
      simp only[Act.put,Fo,Fw,Fv];refine RE.f V V ?_ (fun hI=>?_)
      ·intro W hC hS hE;obtain⟨x,rfl⟩:∃x:Wb wd,W=x.1:=hS V;exact gq ml (p:=G) (n:=l) (c:=H) (w4:=wd) (vs:=[J K.f,I Z (f:Int)]) (xs:=us) _ _ V V (hE 12 ks (by kernel_rfl) V) V (by simp[Value.oneCell']) x.2 hz.o (by omega) (fun v' W' h1 h2 h3=>⟨[v'],V,h1,h2,h3⟩)
      simp only[Act.put,Fo,Fw,Fv]
      repeat (refine RE.b (fun W=>∃x:Ks wd (fun b=>b=M∨b=N.heap.size),W=x.1) (ev.o _) V V V stA.zero ?_;go_big_quiet_step (fail);refine z7 ?_)
      refine RE.h ?_;intro W hS hE;have hS:ApS 52 2 wd G l H (us++[J K.f,I Z (f:Int)]) W:=hS;have hV:ApV 52 2 wd G l H (us++[J K.f,I Z (f:Int)]) W (hI.getD 0 xD):=hE 13 hI V;obtain⟨g',cap,eg,hg,hC,ch⟩:=ik hS hV;rw[eg];have lb:=hC.h;have cA:W.heap[M]?=_:=(hC.q M et.o.2.lt (fun e=>by have:=HG.o _ e;omega)).trans et.o.2.m;have HP:Hid (kY M k vR n fl Ts #[I O T.b,J T.f,I Z T.h,I Z T.t,A (Y ⟨b,off,U⟩) n c] w (I Z ((i+1:Nat):Int)) (W.setCell ⟨M,0,U⟩ (A (Y ⟨g',0,U⟩) (l+1) cap))):=by
       have kv:w.heap.size+1≤g':=by
        rcases hg with h|h
        ·exact HG.o g' h
        ·have:=bb.o.h;have:=(Fi.1 dp.o).1;omega
       have e5:Chg (fun b=>b=M) W (W.setCell ⟨M,0,U⟩ (A (Y ⟨g',0,U⟩) (l+1) cap)):=Chg.t (F:=fun b=>b=M) (p:=⟨M,0,U⟩) (Chg.refl _ _) (Or.inl V) _;have kI:Chg (fun b=>b=M) w W:=cp (cC.o.b et.o.1) hC (fun b u=>Or.inr (by have:=HG.o b u;omega));refine⟨i+1,ar,ts++[⟨K.f,(f:Int)⟩],_,by omega,V,kI.b e5,heap_set cA 0 _,?_,?_,fun b u=>?_,by rw[FC,bc.o];show l+1≤i+1;omega,?_⟩
       ·have h1:=(hC.q _ (Fi.1 da.o).1 (fun e=>by have:=HG.o _ e;omega)).trans da.o;exact (e5.q _ (Fi.1 h1).1 (fun e=>by omega)).trans h1
       ·have k0:bZ.at_ wd (fun _=>False) ⟨K.f,(f:Int)⟩ [J K.f,I Z (f:Int)]:=gl.2 ⟨V,by have:=hQ.o;show K.f.size≤maxLen;unfold maxLen;omega,by show (-9223372036854775808:Int)≤(f:Int);omega,by show (f:Int)<9223372036854775808;omega⟩;have hJ:aI W (fun _=>False) 52 bZ (ts++[⟨K.f,(f:Int)⟩]) (A (Y ⟨g',0,U⟩) (l+1) cap):=⟨us++[J K.f,I Z (f:Int)],by rw[FC,bc.o];exact ch,Rd.qv (fun _ h=>h.elim) (Rd.sn kp.o k0)⟩
        exact hJ.z (fun b u=>by
         injection u with u
         have u:g'=b:=u;subst u
         exact e5.q g' (hJ.lt V) (fun e=>by omega)) (fun _ h=>h.elim) (fun _ h=>h)
       ·injection u with u
        have u:g'=b:=u;subst u;exact kv
       ·refine iu kq gg.o ds.o ?_;rw[←bd.o];refine zY (seen:=K.q.map ab.f) hY.o ?_;rw[hc.o];exact kk.o
      obtain⟨m0,m1,m2,m3,m4,m5⟩:=cU cA;have fM:=aE cA;clear hS hV hE eg hg hC ch E1 E4 M0 ev cA;go_wp2_with fail
      refine⟨HP.o,?_⟩;simp[intOf];omega
   ·have bR:K.b≠2:=fun e=>gF (by have:=gf.o;omega)
    have HP:Hid (kY M k vR n fl Ts #[I O T.b,J T.f,I Z T.h,I Z T.t,A _ n _] w (I Z ((i+1:Nat):Int)) z):=
     ⟨i+1,bq,ts,_,by omega,V,cC.o,gD.o,bB.o,ct.o,HG.o,by rw[bc.o];omega,iu kq gg.o ds.o (j3 (rq bR))⟩
    clear bR;go_wp2_with fail
    refine⟨HP.o,?_⟩;simp[intOf];omega
  ·have HX:Hid (rZ M k vR n fl (aG dm [] Ts) w (Ending.returned (AJ #[])) N):=
    ⟨bq,ts,_,V,bb.o,HM.o,HR.o,fun g hg=>by have:=HG.o g hg;omega,by rw[bc.o];omega,iU ds.o (Or.inr (by rw[HN.o];omega))⟩
   have hO:¬(i:Int)<n:=by omega
   go_wp2_with fail
   go_returns
   exact HX.o
theorem xI{l:List ab}(h:rowB l=wg):(l.filter aP).length=dr l:=by
 have b:∀x∈l.dropWhile aP,aP x=false:=fun x a=>by
  unfold rowB bI at h;have:=FW.1 h x a;have c:x.b=8∨x.b=9∨x.b=10∨x.b=11:=by simpa using this
  unfold aP;rcases c with e|e|e|e<;>rw[e]<;>rfl
 have f:l.filter aP=l.takeWhile aP:=by
  have e:=List.takeWhile_append_dropWhile (p:=aP) (l:=l);have:(l.takeWhile aP++l.dropWhile aP).filter aP=l.takeWhile aP:=by rw[List.filter_append,List.filter_eq_self.2 (fun x a=>FW.1 List.all_takeWhile x a),List.filter_eq_nil_iff.2 (fun x a=>by rw[b x a];decide),List.append_nil]
  rw[e]at this;exact this
 rw[f];rfl
theorem Bf{d:Nat}{ts:List ae}{rs:List ap}{T:ab}{fl fl':Flt}{s:RSt}(n:T.b=4)
  (h:Goes (az (az (az fl ((rs.map ap.a).any (fun y=>y.data.toList==T.f.data.toList)) 210 T.t) (wo (T.h < -1000)||decide (1000<T.h)) 2 T.t) (wo (64≤rs.length)||decide (8<dr T.q)||decide (8<T.q.length-dr T.q)) 204 T.t) (aG (aC d ts) ⟨[],[],[]⟩ T.q) fl' (fun y=>s=y)) :
  Goes fl (cI d ts rs T) fl' (fun r=>rs++[⟨T.f,T.h,s.b.length,s.c,s.d⟩]=r):=by
 have e:cI d ts rs T=if (idxOf T.f (rs.map ap.a)).isSome then z8 (210,T.t)
  else if T.h < -1000||1000<T.h then z8 (2,T.t)
  else if 64≤rs.length||8<dr T.q||8<T.q.length-dr T.q then z8 (204,T.t)
  else match aG (aC d ts) ⟨[],[],[]⟩ T.q with
   | .error e=>z8 e
   | .ok s=>xL (rs++[⟨T.f,T.h,s.b.length,s.c,s.d⟩]):=by
  unfold cI;rw[n];rfl
 rw[e,sS];obtain⟨f,c⟩:=fl;generalize ((rs.map ap.a).any (fun y=>y.data.toList==T.f.data.toList))=l at *;generalize o:(wo (T.h < -1000)||decide (1000<T.h))=i at *;generalize p:(wo (64≤rs.length)||decide (8<dr T.q)||decide (8<T.q.length-dr T.q))=g at *;refine⟨fun b=>?_,fun b=>?_⟩
 ·have b:¬f=0:=b;have a:az (az (az (f,c) l 210 T.t) i 2 T.t) g 204 T.t=(f,c):=by unfold az;simp[b]
  rw[a]at h;exact h.1 b
 ·have b:f=0:=b;subst b
  cases l with
  | true =>
   have a:az (az (az ((0:Int),c) wg 210 T.t) i 2 T.t) g 204 T.t=(210,T.t):=by unfold az;simp
   rw[a]at h;exact h.1 (by show (210:Int)≠0;decide)
  | false =>
   cases i with
   | true =>
    have a:az (az (az ((0:Int),c) wj 210 T.t) wg 2 T.t) g 204 T.t=(2,T.t):=by unfold az;simp
    rw[a]at h;exact h.1 (by show (2:Int)≠0;decide)
   | false =>
    cases g with
    | true =>
     have a:az (az (az ((0:Int),c) wj 210 T.t) wj 2 T.t) wg 204 T.t=(204,T.t):=by unfold az;simp
     rw[a]at h;exact h.1 (by show (204:Int)≠0;decide)
    | false =>
     have a:az (az (az ((0:Int),c) wj 210 T.t) wj 2 T.t) wj 204 T.t=(0,c):=rfl;rw[a]at h;have h:=h.2 V
     cases m:aG (aC d ts) ⟨[],[],[]⟩ T.q with
     | error er=>rw[m]at h;exact h
     | ok r =>
      rw[m]at h;obtain⟨q,j⟩:=h;have j:s=r:=j;subst j;exact⟨q,V⟩
theorem qY{d:Nat}{ts:List ae}{rs:List ap}{T:ab}(a:T.b≠4):cI d ts rs T=xL rs:=by
 unfold cI;rw[r5 (by simpa using a)]
structure jL (d M:Nat) (ts:List ae) (vars:List ByteArray) (k:Int) (fl:Flt) (vT vR vV:vn) (rs:List ap) (FR DT:Nat→Prop) (W:vk):Prop where
 m:W.heap[M]?=Y (ur #[vT,vR,vV,I Z k,I Z fl.1,I Z fl.2] 83 (0,0))
 t:bZ.C W DT ts vT
 v:Rd.str.C W (fun b=>b<W.heap.size∧b≠M) vars vV
 x:aI W FR 50 (cf d) rs vR
 dt:∀b,DT b→b<W.heap.size∧b≠M∧vR.ownBlock≠Y b
 fr:∀b,FR b→b<W.heap.size∧b≠M∧vR.ownBlock≠Y b
section
variable {d M:Nat} {ts:List ae} {vars:List ByteArray} {k k':Int} {fl fl':Flt} {vT vR vV:vn} {rs:List ap} {FR DT:Nat→Prop} {W W':vk}
theorem jL.lt(h:jL d M ts vars k fl vT vR vV rs FR DT W):M<W.heap.size:=(Fi.1 h.m).1
theorem jL.own(h:jL d M ts vars k fl vT vR vV rs FR DT W):vR.ownBlock≠Y M:=fun e=>by
 obtain⟨cs,a⟩:=h.x.f e;rw[h.m]at a;injection a with a
 injection a with _ b
 exact absurd b (by decide)
theorem jL.rm(h:jL d M ts vars k fl vT vR vV rs FR DT W):RmW M ts vars k fl vT vR vV W:=⟨h.m,Rd.q (fun b a=>⟨(h.dt b a).1,(h.dt b a).2.1⟩) h.t,h.v⟩
theorem jL.C(h:jL d M ts vars k fl vT vR vV rs FR DT W):(cf d).C W (fun b=>b<W.heap.size∧b≠M) rs vR:=
 h.x.C (fun b a=>⟨(h.fr b a).1,(h.fr b a).2.1⟩) (fun _g c=>⟨h.x.lt c,fun e=>h.own (e ▸ c)⟩)
end
def px(d M:Nat) (ts:List ae) (vT vR:vn) (g:Nat) (FR DT:Nat→Prop) (fl:Flt) (r:Except Flt (List ap)) (w:vk) (e:Ending) (w':vk):Prop:=
 ∃(fl':Flt) (vars':List ByteArray) (k':Int) (a:List ap) (c f:vn),e=Ending.returned (AJ #[])∧Chg (fun b=>b=M∨vR.ownBlock=Y b) w w'∧jL d M ts vars' k' fl' vT c f a (fun b=>FR b∨(am w w' b∧c.ownBlock≠Y b)) DT w'∧Grew vR c w.heap.size∧a.length≤g+1∧Goes fl r fl' (fun y=>a=y)
def nD(M:Nat) (ts:List ae) (vars:List ByteArray) (k:Int) (vT vR vV:vn) (rs:List ap) (a:Nat) (fl:Flt) (T:ab) (b:Array vn) (w:vk) (c:vn) (W:vk):Prop:=
 ∃i:Nat,i≤a∧c=I Z (i:Int)∧aD M ts vars k vT vR vV w (az fl (((rs.take i).map ap.a).any (fun y=>y.data.toList==T.f.data.toList)) 210 T.t) W∧W.heap[w.heap.size]?=Y (ur b 25 (0,0))
def lr(Ts:List ab) (n:Nat) (a:vk) (b c:vn) (W:vk):Prop:=
 ∃i:Nat,i≤n∧c=I Z (i:Int)∧b=I Z (((Ts.take i).filter aP).length:Int)∧Gc a W
def nU(d M L:Nat) (DT:Nat→Prop) (ts:List ae) (vT vR:vn) (T:ab) (Ks:List ab) (n g c:Nat) (fl:Flt) (e:Array vn) (f:vk) (h:vn) (W:vk):Prop:=
 ∃(i:Nat) (a:Flt) (s:RSt) (k:Int) (vV vC vA:vn) (D:Nat→Prop),i≤n∧h=I Z (i:Int)∧Chg (fun b=>b=M∨b=g∨L≤b) f W∧W.heap[g]?=Y (ur #[J T.f,I Z T.h,I Z 0,vC,vA] 50 (0,0))∧W.heap[c]?=Y (ur e 25 (0,0))∧
  St2 64 70 (bg d) (bD d) M L DT ts s.b k a vT vR vV s.c vC s.d vA D W∧k=bG s.c∧s.b.length≤17∧(a.1=0→s.b.length≤16)∧s.c.length≤i∧s.d.length≤i∧Goes fl (aG (aC d ts) ⟨[],[],[]⟩ (Ks.take i)) a (fun y=>s=y)
def sj(d M L:Nat) (DT:Nat→Prop) (ts:List ae) (vT vR:vn) (T:ab) (Ks:List ab) (n g:Nat) (fl:Flt) (c W:vk):Prop:=
 ∃(a:Flt) (s:RSt) (k:Int) (vV vC vA:vn) (D:Nat→Prop),Chg (fun b=>b=M∨b=g∨L≤b) c W∧W.heap[g]?=Y (ur #[J T.f,I Z T.h,I Z 0,vC,vA] 50 (0,0))∧
  St2 64 70 (bg d) (bD d) M L DT ts s.b k a vT vR vV s.c vC s.d vA D W∧s.b.length≤17∧s.c.length≤n∧s.d.length≤n∧Goes fl (aG (aC d ts) ⟨[],[],[]⟩ Ks) a (fun y=>s=y)
