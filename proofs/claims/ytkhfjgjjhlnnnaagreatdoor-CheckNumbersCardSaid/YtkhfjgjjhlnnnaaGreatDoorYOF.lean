/- Parts of one proof, joined; conditions stand in each theorem. -/
import Derived.Test.YtkhfjgjjhlnnnaaGreatDoorYOE
import Derived.Test.YtkhfjgjjhlnnnaaGreatDoorYNL
open Decidable renaming decide→xv
open Except renaming error→BT,ok→AF
open Bool renaming true→wP,false→xj
open Go renaming Value→wF,World→wD,wpQuiet_nil→Bk,undef→At
open Option renaming some→Y,none→U
open Go.Obj renaming cells→wq
open Go.Value renaming slice→A,int→I,tuple→CA,pointer→xV,string→J
open Go.IntKind renaming i64→Z,u8→O
namespace Go.Proofs.YtkhfjgjjhlnnnaaGreatDoor
set_option maxHeartbeats 8000000
set_option maxRecDepth 100000
open Go.RowKit
theorem tK{fl:Flt}{a b:Bool}{c p:Int}(e:c≠0):az (az fl a c p) b c p=az fl (a||b) c p:=by
 obtain⟨f,g⟩:=fl;unfold az
 cases a<;>cases b<;>by_cases h:f=0<;>simp[h,e]
theorem t9(x:ByteArray):∀(l:List ByteArray) (k:Nat),(gb x l k).isSome=l.any (fun y=>y.data.toList==x.data.toList)
 | [],_=>rfl
 | y::l,k=>by
  unfold gb;rw[List.any_cons]
  cases h:(y.data.toList==x.data.toList) with
  | true=>rfl
  | false=>rw[qv (by simp),Bool.false_or];exact t9 x l (k+1)
theorem sU(x:ByteArray)(l:List ByteArray):(idxOf x l).isSome=l.any (fun y=>y.data.toList==x.data.toList):=t9 x l 0
theorem zw(o:Option Nat):xv (0≤bP o)=o.isSome:=by
 cases o with
 | none=>rfl
 | some j=>exact decide_eq_true (by show (0:Int)≤(j:Int);omega)
theorem yk{fl:Flt}{seen:List ByteArray}{T:ab}:Goes fl (fieldStep seen T) (az fl (seen.any (fun y=>y.data.toList==T.f.data.toList)) 210 T.y) (fun s=>seen++[T.f]=s):=by
 obtain⟨a,b⟩:=fl;unfold Goes fieldStep az;rw[sU];refine⟨fun h=>?_,fun h=>?_⟩
 ·have h:¬a=0:=h;simp[h]
 ·have h:a=0:=h;subst h
  cases (seen.any (fun y=>y.data.toList==T.f.data.toList))<;>simp
theorem zR{ts:List ae}{T:ab}{fl fl':Flt}{seen:List ByteArray}(l:T.b=2)
  (h:Goes (az (az fl (a8 T.f ts).isSome 210 T.y) (xv (32≤ts.length)||decide (6<T.u.length)) 204 T.y) (aG fieldStep [] T.u) fl' (fun s=>seen=s)):Goes fl (dk ts T) fl' (fun r=>ts++[⟨T.f,T.u.length⟩]=r):=by
 have e:dk ts T=if (a8 T.f ts).isSome then BT (210,T.y)
  else if 32≤ts.length||6<T.u.length then BT (204,T.y)
  else match aG fieldStep [] T.u with
   | .error e=>BT e
   | .ok _=>AF (ts++[⟨T.f,T.u.length⟩]):=by
  unfold dk;rw[l];rfl
 rw[e];obtain⟨f,c⟩:=fl;refine⟨fun a=>?_,fun a=>?_⟩
 ·have a:¬f=0:=a;have b:az (az (f,c) (a8 T.f ts).isSome 210 T.y) (xv (32≤ts.length)||decide (6<T.u.length)) 204 T.y=(f,c):=by unfold az;simp[a]
  rw[b]at h;exact h.1 a
 ·have a:f=0:=a;subst a
  cases g:(a8 T.f ts).isSome with
  | true =>
   rw[g]at h;have b:az (az ((0:Int),c) wP 210 T.y) (xv (32≤ts.length)||decide (6<T.u.length)) 204 T.y=(210,T.y):=by unfold az;simp
   rw[b]at h;exact h.1 (by show (210:Int)≠0;decide)
  | false =>
   rw[g]at h
   cases i:(xv (32≤ts.length)||decide (6<T.u.length)) with
   | true =>
    rw[i]at h;have b:az (az ((0:Int),c) xj 210 T.y) wP 204 T.y=(204,T.y):=by unfold az;simp
    rw[b]at h;rw[qv (by decide),rv V];exact h.1 (by show (204:Int)≠0;decide)
   | false =>
    rw[i]at h;have b:az (az ((0:Int),c) xj 210 T.y) xj 204 T.y=(0,c):=rfl;rw[b]at h;have h:=h.2 V;rw[qv (by decide),qv (by decide)]
    cases j:aG fieldStep [] T.u with
    | error er=>rw[j]at h;exact h
    | ok r =>
     rw[j]at h;exact⟨h.1,V⟩
theorem ry{ts:List ae}{T:ab}(a:T.b≠2):dk ts T=AF ts:=by
 unfold dk;rw[qv (by simpa using a)]
theorem EE{M:Nat}{ts:List ae}{k:Int}{fl:Flt}{vT vR:wF}{W:wD}(hm:W.heap[M]?=Y (wq #[vT,vR,A U 0 0,I Z k,I Z fl.1,I Z fl.2] 83 (0,0)))(b:aH W (fun _=>False) 52 bV ts vT):RmW M ts [] k fl vT vR (A U 0 0) W:=
 ⟨hm,b.K (fun _ h=>h.elim) (fun g c=>⟨b.lt c,fun e=>by
  subst e;obtain⟨cs,a⟩:=b.f c;rw[hm]at a;injection a with a
  injection a with _ f
  exact absurd f (by decide)⟩),Rd.vn⟩
def sf(M:Nat) (k:Int) (vR:wF) (n:Nat) (fl:Flt) (r:Except Flt (List ae)) (w:wD) (e:Ending) (w':wD):Prop:=
 ∃(fl':Flt) (ts:List ae) (vT:wF),e=Ending.returned (CA #[])∧Chg (fun b=>b=M) w w'∧w'.heap[M]?=Y (wq #[vT,vR,A U 0 0,I Z k,I Z fl'.1,I Z fl'.2] 83 (0,0))∧aH w' (fun _=>False) 52 bV ts vT∧(∀g,vT.ownBlock=Y g→w.heap.size≤g)∧ts.length≤n∧Goes fl r fl' (fun y=>ts=y)
def lk(M:Nat) (k:Int) (vR:wF) (n:Nat) (fl:Flt) (Ts:List ab) (c:Array wF) (w:wD) (e:wF) (W:wD):Prop:=
 ∃(i:Nat) (a:Flt) (ts:List ae) (vT:wF),i≤n∧e=I Z (i:Int)∧Chg (fun b=>b=M) w W∧W.heap[M]?=Y (wq #[vT,vR,A U 0 0,I Z k,I Z a.1,I Z a.2] 83 (0,0))∧W.heap[w.heap.size]?=Y (wq c 25 (0,0))∧aH W (fun _=>False) 52 bV ts vT∧(∀g,vT.ownBlock=Y g→w.heap.size+1≤g)∧ts.length≤i∧Goes fl (aG dk [] (Ts.take i)) a (fun y=>ts=y)
def np(M:Nat) (ts:List ae) (k:Int) (vT vR:wF) (fl:Flt) (Ks:List ab) (n g:Nat) (b:Array wF) (c:wD) (e:wF) (W:wD):Prop:=
 ∃(i:Nat) (a:Flt),i≤n∧e=I Z (i:Int)∧aD M ts [] k vT vR (A U 0 0) c a W∧W.heap[g]?=Y (wq b 25 (0,0))∧Goes fl (aG fieldStep [] (Ks.take i)) a (fun y=>(Ks.take i).map ab.f=y)
def nS(M:Nat) (ts:List ae) (k:Int) (vT vR:wF) (a:Flt) (Ks:List ab) (K:ab) (i g:Nat) (b:Array wF) (c:wD) (e:wF) (W:wD):Prop:=
 ∃j:Nat,j≤i∧e=I Z (j:Int)∧aD M ts [] k vT vR (A U 0 0) c (az a (((Ks.take j).map ab.f).any (fun y=>y.data.toList==K.f.data.toList)) 210 K.y) W∧W.heap[g]?=Y (wq b 25 (0,0))
theorem uK{α:Type}(l:List α)(x:α)(f:α→Bool):(l++[x]).any f=(l.any f||f x):=by rw[List.any_append];simp
theorem take_snoc{α:Type}{l:List α}{i:Nat}{x:α}(h:l[i]?=Y x):l.take (i+1)=l.take i++[x]:=by rw[Fz,h];rfl
def Eg(M B d:Nat) (K:ab) (a:Nat) (b:Option Addr) (cs:Nat) (W:wD):Prop:=K.u.length=a∧B≤M∧ao W B (d+1) K.u (A b a cs)
theorem wu(d M B:Nat)(k:Int)(vR:wF)(fl:Flt)(T:ab)(sl:wF)(w:wD)(hm:w.heap[M]?=Y (wq #[A U 0 0,vR,A U 0 0,I Z k,I Z fl.1,I Z fl.2] 83 (0,0)))(hK:B≤M)(R:ao w B (d+2) T.u sl)(e6:T.u.length≤10000)
  (S:∀K∈T.u,K.f.size≤72007∧K.u.length≤20000) :
  Calls Tryz.prog 25 #[xV (Y ⟨M,0,U⟩),Value.agg #[I O T.b,J T.f,I Z T.h,I Z T.y,sl]] w (sf M k vR T.u.length fl (aG dk [] T.u) w):=by
 obtain⟨Ts,e7⟩:=zzy (T.u);rw[e7]at R e6 S ⊢;obtain⟨n,hn⟩:=zzy (Ts.length);obtain⟨p,c,hL⟩:∃p c,sl=A p n c:=by
  rcases R with ⟨rfl,sp,cap,rfl⟩|⟨b,off,cap,h1,h2,h3,h4,rfl,h6⟩
  ·exact⟨sp,cap,by rw[←hn];rfl⟩
  ·exact⟨_,_,by rw[hn]⟩
 subst hL;have e8:M<w.heap.size:=(EN.1 hm).1;obtain⟨HK,hM⟩:=zz2 R S;rw[hn]at e6 ⊢;have HN:=Hd hn;obtain⟨w1,cl⟩:=zzx (w.alloc (wq #[I O T.b,J T.f,I Z T.h,I Z T.y,A p n c] 25));have dc:FK w w1:=by rw[cl];exact (EP _ w).alloc (EO _) _
 have dd:=p9 w (wq #[I O T.b,J T.f,I Z T.h,I Z T.y,A p n c] 25);rw[←cl]at dd;have e9:Hid (lk M k vR n fl Ts #[I O T.b,J T.f,I Z T.h,I Z T.y,A p n c] w (I Z 0) w1):=
  ⟨0,fl,[],A U 0 0,Fa _,V,Chg.f dc,(dc.block M e8).trans hm,dd,aH.nil,(fun g h=>by cases h),EO _,fO V V⟩
 have fe:=Hd cl;clear R S hn cl dc dd e7 hm
 go_enter Tryz.func25,Tryz.ntmps25
 go_upto_region 1 with fail
 change Code.wp _ _ _ _ (w.alloc (wq #[I O T.b,J T.f,I Z T.h,I Z T.y,A p n c] 25));rw[←fe.o];clear fe;go_wp2_with fail
 go_loopw [4] (lk M k vR n fl Ts #[I O T.b,J T.f,I Z T.h,I Z T.y,A p n c] w) (fun i _=>n-(intOf i).toNat)
 case atStart=>exact e9.o
 case round =>
  generalize wr=N at *;obtain⟨i,bq,ts,vT,hi,rfl,fm,hm,al,br,fp,hN,fv⟩:=hrel;obtain⟨G,H,fz⟩:=br.b;obtain⟨l,dg⟩:=zzy (ts.length);rw[dg]at fz hN;subst fz;have k0:(0:Int)≤i:=by omega
  obtain⟨b0,b1,b2,b3,b4⟩:=cells5 al;obtain⟨bb,HM,dp,HR,HG,ds,bc⟩:=zz7 fm hm al br fp fv dg;clear fm hm al br fp fv dg
  by_cases av:i<n
  ·have hO:(i:Int)<n:=by omega
   obtain⟨K,hT⟩:∃K,Ts[i]?=Y K:=⟨_,ES (by rw[HN.o];exact av)⟩;have R:=HK.o.z (eI bb.o hK e8);rcases R with ⟨rfl,_⟩|⟨b,off,cap,h1,h2,h3,h4,he,h6⟩
   ·simp at hT
   rw[HN.o]at he;injection he with e1 _ e3
   subst e1;subst e3;obtain⟨fI,s,c0,c1,c2,c3,c4,S⟩:=h6 i K hT;obtain⟨ps,cs,rfl⟩:=S.f;obtain⟨f,cq⟩:=zzy (K.u.length);rw[cq]at c4 S;obtain⟨fT,hP⟩:=hM.o K (Fj hT);rw[cq]at hP;obtain⟨kd,bt⟩:∃kd:Int,(K.b:Int)=kd:=⟨_,rfl⟩;rw[bt]at c0;obtain⟨gf,gg,hQ,bd⟩:=zz4 bt hT fT cq;obtain⟨z,cr⟩:=zzx (N.alloc (wq #[I O kd,J K.f,I Z K.h,I Z K.y,A ps f cs] 25));have bl:FK N z:=by rw[cr];exact (EP _ N).alloc (EO _) _
   have dv:=p9 N (wq #[I O kd,J K.f,I Z K.h,I Z K.y,A ps f cs] 25);rw[←cr]at dv;have ea:M<N.heap.size:=(EN.1 HM.o).1;obtain⟨bn,aq,eb,gD,ct,bB,hX⟩:=zz7 ea dv bl ((bl.block M ea).trans HM.o) (HR.o.z bl (F':=fun _=>False) (fun _ h=>h.elim) (fun _ h=>h)) (aa bl dp.o (EN.1 dp.o).1) S;obtain⟨cC,gE⟩:=zz2 (bb.o.b (Chg.f bl)) cr;have k1:=bb.o.h;clear fI S h6 h1 h2 h3 h4 hT fT bl dv cr bt cq ea;go_upto_region 5 with fail
   change Code.wp _ _ _ _ (N.alloc (wq #[I O kd,J K.f,I Z K.h,I Z K.y,A ps f cs] 25));rw[←gE.o];clear gE b0 b1 b2 b3 b4 c0 c1 c2 c3 c4;obtain⟨b0,b1,b2,b3,b4⟩:=cells5 aq.o
   by_cases gF:kd=2
   ·have bR:K.b=2:=by have:=gf.o;omega
    have hY:=Hd bR;subst gF;clear bR;go_upto_region 6 with fail
    have b5:=Hd (EE gD.o ct.o);have ec:=Hd (fun W (hW:FK z W)=>qy (b5.o.z hW) K.f);obtain⟨q,hq⟩:=zzy (bP (a8 K.f ts));have HQ:=Hd hq;rw[hq]at ec;have h5:-9223372036854775808≤q∧q<9223372036854775808:=by
     rw[←hq];have h7:=Rd.tT b5.o.t;unfold maxLen at h7
     cases hx:a8 K.f ts with
     | none=>exact⟨by decide,by decide⟩
     | some j =>
      have:j<(ts.map ae.a).length:=og _ _ _ hx;rw[List.length_map]at this
      show _≤(j:Int)∧(j:Int)<_
      omega
    obtain⟨k2,k3⟩:=h5;have E0:=fun x:Wb z=>x.b b0
    have E1:=fun x:Wb z=>x.b b1
    have E2:=fun x:Wb z=>x.b b2
    have E3:=fun x:Wb z=>x.b b3
    have E4:=fun x:Wb z=>x.b b4
    clear hq b0 b1 b2 b3 b4;refine RE.u (by kernel_rfl) 7 [4] [] (fun _ W=>∃x:Wb z,W=x.1) (fun W W'=>FK W W') (fun _ _=>I Z q) (fun _ _ _=>True) (by kernel_rfl) (fun _ _ _ _ _ _ h u=>bC h u) (fun _ _ _ _ _ _ _=>trivial) ⟨⟨z.drew,(EP _ _).drew⟩,V⟩ ?_;simp only[EY,Fi,EZ,Fh]
    repeat (refine RE.b (fun W=>∃x:Wb z,W=x.1) (fun _ _ _ h=>h) V V V ⟨⟨z.drew,(EP _ _).drew⟩,V⟩ ?_;go_big_quiet_step (fail);refine Bk ?_)
    refine RE.f V V ?_ (fun k4=>?_)
    ·intro W hC _ hE;obtain⟨s9,_,x,rfl⟩:=hC;refine RE.y 49 _ _ V (enters_of Tryz.func49 (by kernel_rfl) V) #[xV (Y ⟨M,0,U⟩),J K.f] (by simp[Act.eval]) ((ec.o x.1 x.2).mono ?_);rintro e W' ⟨rfl,u⟩;exact⟨_,V,[],V,u,u,trivial⟩
    simp only[Act.put,EQ,EW,EV]
    repeat (refine RE.b (fun W=>∃x:Wb z,W=x.1) (fun _ _ _ h=>h) V V V ⟨⟨z.drew,(EP _ _).drew⟩,V⟩ ?_;go_big_quiet_step (fail);refine Bk ?_)
    refine RE.h ?_;intro W6 hS hE;obtain⟨x6,rfl⟩:=hS;obtain⟨h8,gH⟩:=zz2 x6.2 (aD.f b5.o x6.2);have gL:=Hd (fun b6=>dI gH.o.2 b6 210 2 K.f K.h K.y ps f cs);clear hE E0 E1 E2 E3 E4 ec;generalize x6.1=W6 at *;go_wp2_with fail
    refine (gL.o _).mono ?_;rintro e P ⟨rfl,ek⟩;obtain⟨L,gM⟩:=zz2 (gH.o.b ek) (aa h8.o aq.o (EN.1 aq.o).1);have gN:=Hd (bu ek.1 gM.o (EN.1 gM.o).1 (fun e=>by have:=bn.o;omega));clear ek gL;obtain⟨X,b7⟩:=zzy (az bq (xv (0≤q)) 210 K.y);have gO:Hid (az bq (a8 K.f ts).isSome 210 K.y=X):=by
     show _=_
     rw[←b7,←zw,HQ.o]
    rw[b7]at L;clear b7;have cu:=Hd (fun (W:wD) (hW:FK P W) b6=>dI (L.o.2.z hW) b6 204 2 K.f K.h K.y ps f cs);go_upto_region 7 with fail
    go_cut [] from 31 to 46 (fun W=>aD M ts [] k (A G l H) vR (A U 0 0) z (az X (xv ((32:Int)≤l)||decide ((6:Int)<f)) 204 K.y) W)
    case first =>
     obtain⟨b0,b1,b2,b3,b4⟩:=cells5 gN.o;obtain⟨m0,m1,m2,m3,m4,m5⟩:=cQ L.o.2.m;have E0:=fun x:Wb P=>x.b b0
     have E1:=fun x:Wb P=>x.b b1
     have E2:=fun x:Wb P=>x.b b2
     have E3:=fun x:Wb P=>x.b b3
     have E4:=fun x:Wb P=>x.b b4
     have M0:=fun x:Wb P=>x.b m0
     clear b0 b1 b2 b3 b4 m0 m1 m2 m3 m4 m5
     by_cases cR:(32:Int)≤l
     ·have cv:xv ((32:Int)≤l)=true:=decide_eq_true cR;refine RE.u (by kernel_rfl) 15 [] [] (fun _ W=>∃x:Wb P,W=x.1) (fun W W'=>FK W W') (fun _ _=>At) (fun _ _ _=>True) (by kernel_rfl) (fun _ _ _ _ _ _ h u=>bC h u) (fun _ _ _ _ _ _ _=>trivial) ⟨⟨P.drew,(EP _ _).drew⟩,V⟩ ?_;simp only[EY,Fi,EZ,Fh]
      repeat (refine RE.b (fun W=>∃x:Wb P,W=x.1) (fun _ _ _ h=>h) V V V ⟨⟨P.drew,(EP _ _).drew⟩,V⟩ ?_;go_big_quiet_step (fail);refine Bk ?_)
      refine RE.h ?_;intro W hS hE;obtain⟨x,rfl⟩:=hS;obtain⟨ad,af⟩:=zz2 (cu.o x.1 x.2 wP) (L.o.b (aD.f L.o.2 x.2));clear hE E0 E1 E2 E3 E4 M0;go_wp2_with fail
      refine ad.o.mono ?_;rintro e b8 ⟨rfl,r⟩;have HP:Hid (aD M ts [] k (A G l H) vR (A U 0 0) z (az X (xv ((32:Int)≤l)||decide ((6:Int)<f)) 204 K.y) b8):=by
       show aD _ _ _ _ _ _ _ _ _ _
       rw[cv];exact af.o.b r
      clear r ad;go_wp2_with fail
      go_meet
      case rel=>exact HP.o
     ·have cv:xv ((32:Int)≤l)=false:=r6 cR
      by_cases av:(6:Int)<f
      ·have el:xv ((6:Int)<f)=true:=decide_eq_true av;refine RE.u (by kernel_rfl) 15 [] [] (fun _ W=>∃x:Wb P,W=x.1) (fun W W'=>FK W W') (fun _ _=>At) (fun _ _ _=>True) (by kernel_rfl) (fun _ _ _ _ _ _ h u=>bC h u) (fun _ _ _ _ _ _ _=>trivial) ⟨⟨P.drew,(EP _ _).drew⟩,V⟩ ?_;simp only[EY,Fi,EZ,Fh]
       repeat (refine RE.b (fun W=>∃x:Wb P,W=x.1) (fun _ _ _ h=>h) V V V ⟨⟨P.drew,(EP _ _).drew⟩,V⟩ ?_;go_big_quiet_step (fail);refine Bk ?_)
       refine RE.h ?_;intro W hS hE;obtain⟨x,rfl⟩:=hS;obtain⟨ad,af⟩:=zz2 (cu.o x.1 x.2 wP) (L.o.b (aD.f L.o.2 x.2));clear hE E0 E1 E2 E3 E4 M0;go_wp2_with fail
       refine ad.o.mono ?_;rintro e b8 ⟨rfl,r⟩;have HP:Hid (aD M ts [] k (A G l H) vR (A U 0 0) z (az X (xv ((32:Int)≤l)||decide ((6:Int)<f)) 204 K.y) b8):=by
        show aD _ _ _ _ _ _ _ _ _ _
        rw[cv,el];exact af.o.b r
       clear r ad;go_wp2_with fail
       go_meet
       case rel=>exact HP.o
      ·have el:xv ((6:Int)<f)=false:=r6 av;refine RE.u (by kernel_rfl) 15 [] [] (fun _ W=>∃x:Wb P,W=x.1) (fun W W'=>FK W W') (fun _ _=>At) (fun _ _ _=>True) (by kernel_rfl) (fun _ _ _ _ _ _ h u=>bC h u) (fun _ _ _ _ _ _ _=>trivial) ⟨⟨P.drew,(EP _ _).drew⟩,V⟩ ?_;simp only[EY,Fi,EZ,Fh]
       repeat (refine RE.b (fun W=>∃x:Wb P,W=x.1) (fun _ _ _ h=>h) V V V ⟨⟨P.drew,(EP _ _).drew⟩,V⟩ ?_;go_big_quiet_step (fail);refine Bk ?_)
       refine RE.h ?_;intro W hS hE;obtain⟨x,rfl⟩:=hS;obtain⟨ad,af⟩:=zz2 (cu.o x.1 x.2 xj) (L.o.b (aD.f L.o.2 x.2));clear hE E0 E1 E2 E3 E4 M0;go_wp2_with fail
       refine ad.o.mono ?_;rintro e b8 ⟨rfl,r⟩;have HP:Hid (aD M ts [] k (A G l H) vR (A U 0 0) z (az X (xv ((32:Int)≤l)||decide ((6:Int)<f)) 204 K.y) b8):=by
        show aD _ _ _ _ _ _ _ _ _ _
        rw[cv,el];exact af.o.b r
       clear r ad;go_wp2_with fail
       go_meet
       case rel=>exact HP.o
    case rest =>
     obtain⟨gS,gT⟩:=zz2 hcut (bu hcut.1 aq.o (EN.1 aq.o).1 (fun e=>by have:=bn.o;omega));obtain⟨Q,b9⟩:=zzy (az X (xv ((32:Int)≤l)||decide ((6:Int)<f)) 204 K.y);have hc:Hid (az (az bq (a8 K.f ts).isSome 210 K.y) (xv (32≤ts.length)||decide (6<K.u.length)) 204 K.y=Q):=by
      show _=_
      rw[gO.o,bc.o,bd.o,←b9]
      congr 1
      rw[show xv ((32:Int)≤l)=xv (32≤l) from tf.2 (by omega),show xv ((6:Int)<f)=xv (6<f) from tf.2 (by omega)]
     rw[b9]at gS;have ih:Hid (Eg M B d K f ps cs z):=by
      have iv:=bb.o.h;exact⟨bd.o,by omega,hX.o.z (eb.o.mono (by have:=bn.o;omega))⟩
     clear hcut b9 L gN cu;obtain⟨b0,b1,b2,b3,b4⟩:=cells5 gT.o
     go_upto_block 2 with fail
     go_cut [] from 6 to 78 (fun W=>∃ar,aD M ts [] k (A G l H) vR (A U 0 0) z ar W∧Goes Q (aG fieldStep [] K.u) ar (fun y=>K.u.map ab.f=y))
     case first =>
      have en:Hid (np M ts k (A G l H) vR Q K.u f N.heap.size #[I O 2,J K.f,I Z K.h,I Z K.y,A ps f cs] z (I Z 0) wc):=⟨0,Q,Fa _,V,gS.o,gT.o,fO V V⟩;clear b0 b1 b2 b3 b4;go_wp2_with fail
      go_loopw [6] (np M ts k (A G l H) vR Q K.u f N.heap.size #[I O 2,J K.f,I Z K.h,I Z K.y,A ps f cs] z) (fun i _=>f-(intOf i).toNat)
      case atStart=>exact en.o
      case round =>
       generalize wr=wp at *;obtain⟨a,cx,ha,rfl,hd,eo,cV⟩:=hrel;have k5:(0:Int)≤a:=by omega
       obtain⟨b0,b1,b2,b3,b4⟩:=cells5 eo;obtain⟨hf,ix,cW⟩:=zz3 hd eo cV;clear hd eo cV
       by_cases iA:a<f
       ·have iB:(a:Int)<f:=by omega
        obtain⟨cb,hA⟩:∃cb,K.u[a]?=Y cb:=⟨_,ES (by rw[bd.o];exact iA)⟩;have HA:=Hd hA;have iX:Hid (nS M ts k (A G l H) vR cx K.u cb a N.heap.size #[I O 2,J K.f,I Z K.h,I Z K.y,A ps f cs] z (I Z 0) wp):=⟨0,Fa _,V,hf.o,ix.o⟩;clear hA;go_wp2_with fail
        go_loopw [7] (nS M ts k (A G l H) vR cx K.u cb a N.heap.size #[I O 2,J K.f,I Z K.h,I Z K.y,A ps f cs] z) (fun j _=>a-(intOf j).toNat)
        case atStart=>exact iX.o
        case round =>
         obtain⟨j,hj,rfl,c5,c6⟩:=hrel;have k6:(0:Int)≤j:=by omega
         obtain⟨a1,a6⟩:=zz2 c5 c6;clear c5 c6
         by_cases k7:j<a
         ·have i1:(j:Int)<a:=by omega
          have k8:(j:Int)<f:=by omega
          obtain⟨C,cc⟩:∃C,K.u[j]?=Y C:=⟨_,ES (by rw[bd.o];omega)⟩;obtain⟨c7,hh,c8⟩:=ih.o;have R:=c8.z (eI a1.o.1 hh (by have:=bn.o;have:=eb.o.size;omega));rcases R with ⟨h0,_⟩|⟨bk,ok,ck,h1,h2,h3,h4,he,h6⟩
          ·rw[h0]at cc;simp at cc
          rw[c7]at he;injection he with e1 _ e3
          subst e1;subst e3;obtain⟨jj,sA,u0,u1,u2,u3,u4,hk⟩:=h6 a cb HA.o;obtain⟨jo,sC,z0,z1,z2,z3,z4,jv⟩:=h6 j C cc;obtain⟨pa,ca,rfl⟩:=hk.f;have hl:(K.u.take (j+1)).map ab.f=(K.u.take j).map ab.f++[C.f]:=by rw[take_snoc cc,List.map_append];rfl
          have j2:=Hd hl;obtain⟨b0,b1,b2,b3,b4⟩:=cells5 a6.o;clear c7 hh c8 h1 h2 h3 h4 h6 jj jo hk jv cc hl z0 z2 z3 z4
          go_wp2
          go_still_tail 19,(by kernel_rfl)
          change wpList _ _ _ _ _ wr.drew;obtain⟨w9,ep⟩:=zzx (wr.drew);have er:FK wr w9:=by rw[ep];exact (EP _ wr).drew
          rw[←ep];obtain⟨af,hp⟩:=zz2 (a1.o.b (aD.f a1.o.2 er)) (aa er a6.o (EN.1 a6.o).1);have hr:=Hd (fun b6=>dI af.o.2 b6 210 cb.b cb.f cb.h cb.y pa cb.u.length ca);clear ep er b0 b1 b2 b3 b4 u0 u1 u2 u3 u4 z1;go_wp2_with fail
          refine (hr.o _).mono ?_;rintro e kc ⟨rfl,r⟩;have hs:=Hd (bu r.1 hp.o (EN.1 hp.o).1 (fun e=>by have:=bn.o;omega));have ba:=af.o.b r;rw[tK (by decide)]at ba;have HP:Hid (nS M ts k (A G l H) vR cx K.u cb a N.heap.size #[I O 2,J K.f,I Z K.h,I Z K.y,A (Y ⟨bk,ok,U⟩) f cs] z (I Z ((j+1:Nat):Int)) kc):=by
           refine⟨j+1,by omega,V,?_,hs.o⟩;rw[j2.o,uK];rw[Fb,Fb]at ba;exact ba
          clear r ba hr;go_wp2_with fail
          refine⟨HP.o,?_⟩;simp[intOf];omega
         ·have ht:j=a:=by omega
          have HP:Hid (np M ts k (A G l H) vR Q K.u f N.heap.size #[I O 2,J K.f,I Z K.h,I Z K.y,A ps f cs] z (I Z ((a+1:Nat):Int)) wr):=by
           subst ht;refine⟨j+1,_,by omega,V,a1.o,a6.o,?_⟩;have h1:=iy lO HA.o cW.o yk;rw[take_snoc HA.o,List.map_append];rw[take_snoc HA.o]at h1;exact h1
          have i1:¬(j:Int)<a:=by omega
          clear ht;go_wp2_with fail
          refine⟨HP.o,?_⟩;simp[intOf];omega
       ·have HP:Hid (∃ar,aD M ts [] k (A G l H) vR (A U 0 0) z ar wp∧Goes Q (aG fieldStep [] K.u) ar (fun y=>K.u.map ab.f=y)):=by
         have h1:K.u.take a=K.u:=Fg (by rw[bd.o];omega);have h2:=cW.o;rw[h1]at h2;exact⟨cx,hf.o,h2⟩
        have iB:¬(a:Int)<f:=by omega
        go_wp2_with fail
        go_meet
        case rel=>exact HP.o
     case rest =>
      generalize wc=wd at *;obtain⟨ar,D,c9⟩:=hcut;obtain⟨et,kf,hv⟩:=zz3 D c9 (bu D.1 aq.o (EN.1 aq.o).1 (fun e=>by have:=bn.o;omega));have kk:aH wd (fun _=>False) 52 bV ts (A G l H):=ct.o.C (fun g hg=>D.1.u g (ct.o.lt hg) (fun e=>by have:=HG.o g hg;omega)) (fun _ h=>h.elim) (fun _ h=>h);have da:=Hd (bu D.1 bB.o (EN.1 bB.o).1 (fun e=>by omega));obtain⟨us,ak,hy⟩:=kk;rw[bc.o]at ak;have ak:wd.ownsRow 0 52 2 (A G l H) l us:=ak;obtain⟨hz,kn⟩:=zz2 ak hy;have hD:wd.cell? ⟨M,0,U⟩=Y (A G l H):=by rw[FI _ _ _ _ _ _ D.2.m];rfl
      have k9:=D.1.h;have iv:=eb.o.size;have hG:∀b,(b=M∨b=N.heap.size)→b<wd.heap.size∧(A G l H).ownBlock≠Y b:=fun b u=>by
       rcases u with rfl|rfl
       ·exact⟨D.2.lt,fun e=>by have:=HG.o _ e;omega⟩
       ·exact⟨(EN.1 hv.o).1,fun e=>by have:=HR.o.lt e;omega⟩
      have ev:=Hd (gl (E:=52) (sz:=2) (row:=us++[J K.f,I Z (f:Int)]) (K:=fun b=>b=M∨b=N.heap.size) hG);obtain⟨e0,e1,e2,e3,e4⟩:=cells5 hv.o;have E1:=fun x:Ks wd (fun b=>b=M∨b=N.heap.size)=>x.b (Or.inr V) e1
      have E4:=fun x:Ks wd (fun b=>b=M∨b=N.heap.size)=>x.b (Or.inr V) e4
      have M0:=fun x:Ks wd (fun b=>b=M∨b=N.heap.size)=>x.b (Or.inl V) hD
      clear ak hy hD hG e0 e1 e2 e3 e4 D c9;go_upto_region 15 with fail
      refine RE.u (by kernel_rfl) 17 [12,13] [13] (stA 52 2 wd G l H (us++[J K.f,I Z (f:Int)])) (ApR wd) (fun _ ys=>ys.getD 0 At) (phA 52 2 wd G l H [J K.f,I Z (f:Int)] (us++[J K.f,I Z (f:Int)]) 12 13) (by kernel_rfl) (fun _ _ _ _ _ _ h u=>h.z u) (fun _ _ _ _ h _ hR=>h.C hR) stA.zero ?_;simp only[EY,Fi,EZ,Fh]
      repeat (refine RE.b (fun W=>∃x:Ks wd (fun b=>b=M∨b=N.heap.size),W=x.1) (ev.o _) V V V stA.zero ?_;go_big_quiet_step (fail);refine Bk ?_)
      refine RE.f V V ?_ (fun kp=>?_)
      ·intro W hC hS hE;obtain⟨s9,_,h9⟩:=hC;exact cB mw (vs:=[J K.f,I Z (f:Int)]) _ V V V h9.h (fun v W' u ho=>⟨[v],V,u,ApR.f u,ho⟩)
      simp only[Act.put,EQ,EW,EV];refine RE.f V V ?_ (fun hI=>?_)
      ·intro W hC hS hE;obtain⟨x,rfl⟩:∃x:Wb wd,W=x.1:=hS V;exact eC mw (p:=G) (n:=l) (c:=H) (w4:=wd) (vs:=[J K.f,I Z (f:Int)]) (xs:=us) _ _ V V (hE 12 kp (by kernel_rfl) V) V (by simp[Value.oneCell']) x.2 hz.o (by omega) (fun v' W' h1 h2 h3=>⟨[v'],V,h1,h2,h3⟩)
      simp only[Act.put,EQ,EW,EV]
      repeat (refine RE.b (fun W=>∃x:Ks wd (fun b=>b=M∨b=N.heap.size),W=x.1) (ev.o _) V V V stA.zero ?_;go_big_quiet_step (fail);refine Bk ?_)
      refine RE.h ?_;intro W hS hE;have hS:ApS 52 2 wd G l H (us++[J K.f,I Z (f:Int)]) W:=hS;have hV:ApV 52 2 wd G l H (us++[J K.f,I Z (f:Int)]) W (hI.getD 0 At):=hE 13 hI V;obtain⟨g',cap,eg,hg,hC,ch⟩:=eZ hS hV;rw[eg];have la:=hC.h;have cA:W.heap[M]?=_:=(hC.u M et.o.2.lt (fun e=>by have:=HG.o _ e;omega)).trans et.o.2.m;have HP:Hid (lk M k vR n fl Ts #[I O T.b,J T.f,I Z T.h,I Z T.y,A (Y ⟨b,off,U⟩) n c] w (I Z ((i+1:Nat):Int)) (W.setCell ⟨M,0,U⟩ (A (Y ⟨g',0,U⟩) (l+1) cap))):=by
       have ks:w.heap.size+1≤g':=by
        rcases hg with h|h
        ·exact HG.o g' h
        ·have:=bb.o.h;have:=(EN.1 dp.o).1;omega
       have e5:Chg (fun b=>b=M) W (W.setCell ⟨M,0,U⟩ (A (Y ⟨g',0,U⟩) (l+1) cap)):=Chg.y (F:=fun b=>b=M) (p:=⟨M,0,U⟩) (Chg.refl _ _) (Or.inl V) _;have kv:Chg (fun b=>b=M) w W:=cj (cC.o.b et.o.1) hC (fun b u=>Or.inr (by have:=HG.o b u;omega));refine⟨i+1,ar,ts++[⟨K.f,(f:Int)⟩],_,by omega,V,kv.b e5,heap_set cA 0 _,?_,?_,fun b u=>?_,by rw[Fc,bc.o];show l+1≤i+1;omega,?_⟩
       ·have h1:=(hC.u _ (EN.1 da.o).1 (fun e=>by have:=HG.o _ e;omega)).trans da.o;exact (e5.u _ (EN.1 h1).1 (fun e=>by omega)).trans h1
       ·have kI:bV.at_ wd (fun _=>False) ⟨K.f,(f:Int)⟩ [J K.f,I Z (f:Int)]:=gp.2 ⟨V,by have:=hQ.o;show K.f.size≤maxLen;unfold maxLen;omega,by show (-9223372036854775808:Int)≤(f:Int);omega,by show (f:Int)<9223372036854775808;omega⟩;have hJ:aH W (fun _=>False) 52 bV (ts++[⟨K.f,(f:Int)⟩]) (A (Y ⟨g',0,U⟩) (l+1) cap):=⟨us++[J K.f,I Z (f:Int)],by rw[Fc,bc.o];exact ch,Rd.vk (fun _ h=>h.elim) (Rd.wg kn.o kI)⟩
        exact hJ.C (fun b u=>by
         injection u with u
         have u:g'=b:=u;subst u
         exact e5.u g' (hJ.lt V) (fun e=>by omega)) (fun _ h=>h.elim) (fun _ h=>h)
       ·injection u with u
        have u:g'=b:=u;subst u;exact ks
       ·refine iy kx gg.o ds.o ?_;rw[←bd.o];refine zR (seen:=K.u.map ab.f) hY.o ?_;rw[hc.o];exact kf.o
      obtain⟨m0,m1,m2,m3,m4,m5⟩:=cQ cA;have fM:=aE cA;clear hS hV hE eg hg hC ch E1 E4 M0 ev cA;go_wp2_with fail
      refine⟨HP.o,?_⟩;simp[intOf];omega
   ·have bR:K.b≠2:=fun e=>gF (by have:=gf.o;omega)
    have HP:Hid (lk M k vR n fl Ts #[I O T.b,J T.f,I Z T.h,I Z T.y,A _ n _] w (I Z ((i+1:Nat):Int)) z):=
     ⟨i+1,bq,ts,_,by omega,V,cC.o,gD.o,bB.o,ct.o,HG.o,by rw[bc.o];omega,iy kx gg.o ds.o (j7 (ry bR))⟩
    clear bR;go_wp2_with fail
    refine⟨HP.o,?_⟩;simp[intOf];omega
  ·have HX:Hid (sf M k vR n fl (aG dk [] Ts) w (Ending.returned (CA #[])) N):=
    ⟨bq,ts,_,V,bb.o,HM.o,HR.o,fun g hg=>by have:=HG.o g hg;omega,by rw[bc.o];omega,iY ds.o (Or.inr (by rw[HN.o];omega))⟩
   have hO:¬(i:Int)<n:=by omega
   go_wp2_with fail
   go_returns
   exact HX.o
theorem xG{l:List ab}(h:rowB l=wP):(l.filter aO).length=dn l:=by
 have b:∀x∈l.dropWhile aO,aO x=false:=fun x a=>by
  unfold rowB bG at h;have:=Fx.1 h x a;have c:x.b=8∨x.b=9∨x.b=10∨x.b=11:=by simpa using this
  unfold aO;rcases c with e|e|e|e<;>rw[e]<;>rfl
 have f:l.filter aO=l.takeWhile aO:=by
  have e:=List.takeWhile_append_dropWhile (p:=aO) (l:=l);have:(l.takeWhile aO++l.dropWhile aO).filter aO=l.takeWhile aO:=by rw[List.filter_append,List.filter_eq_self.2 (fun x a=>Fx.1 List.all_takeWhile x a),List.filter_eq_nil_iff.2 (fun x a=>by rw[b x a];decide),List.append_nil]
  rw[e]at this;exact this
 rw[f];rfl
theorem AZ{d:Nat}{ts:List ae}{rs:List an}{T:ab}{fl fl':Flt}{s:RSt}(n:T.b=4)
  (h:Goes (az (az (az fl ((rs.map an.a).any (fun y=>y.data.toList==T.f.data.toList)) 210 T.y) (xv (T.h < -1000)||decide (1000<T.h)) 2 T.y) (xv (64≤rs.length)||decide (8<dn T.u)||decide (8<T.u.length-dn T.u)) 204 T.y) (aG (aC d ts) ⟨[],[],[]⟩ T.u) fl' (fun y=>s=y)) :
  Goes fl (cG d ts rs T) fl' (fun r=>rs++[⟨T.f,T.h,s.b.length,s.c,s.d⟩]=r):=by
 have e:cG d ts rs T=if (idxOf T.f (rs.map an.a)).isSome then BT (210,T.y)
  else if T.h < -1000||1000<T.h then BT (2,T.y)
  else if 64≤rs.length||8<dn T.u||8<T.u.length-dn T.u then BT (204,T.y)
  else match aG (aC d ts) ⟨[],[],[]⟩ T.u with
   | .error e=>BT e
   | .ok s=>AF (rs++[⟨T.f,T.h,s.b.length,s.c,s.d⟩]):=by
  unfold cG;rw[n];rfl
 rw[e,sU];obtain⟨f,c⟩:=fl;generalize ((rs.map an.a).any (fun y=>y.data.toList==T.f.data.toList))=l at *;generalize o:(xv (T.h < -1000)||decide (1000<T.h))=i at *;generalize p:(xv (64≤rs.length)||decide (8<dn T.u)||decide (8<T.u.length-dn T.u))=g at *;refine⟨fun b=>?_,fun b=>?_⟩
 ·have b:¬f=0:=b;have a:az (az (az (f,c) l 210 T.y) i 2 T.y) g 204 T.y=(f,c):=by unfold az;simp[b]
  rw[a]at h;exact h.1 b
 ·have b:f=0:=b;subst b
  cases l with
  | true =>
   have a:az (az (az ((0:Int),c) wP 210 T.y) i 2 T.y) g 204 T.y=(210,T.y):=by unfold az;simp
   rw[a]at h;exact h.1 (by show (210:Int)≠0;decide)
  | false =>
   cases i with
   | true =>
    have a:az (az (az ((0:Int),c) xj 210 T.y) wP 2 T.y) g 204 T.y=(2,T.y):=by unfold az;simp
    rw[a]at h;exact h.1 (by show (2:Int)≠0;decide)
   | false =>
    cases g with
    | true =>
     have a:az (az (az ((0:Int),c) xj 210 T.y) xj 2 T.y) wP 204 T.y=(204,T.y):=by unfold az;simp
     rw[a]at h;exact h.1 (by show (204:Int)≠0;decide)
    | false =>
     have a:az (az (az ((0:Int),c) xj 210 T.y) xj 2 T.y) xj 204 T.y=(0,c):=rfl;rw[a]at h;have h:=h.2 V
     cases m:aG (aC d ts) ⟨[],[],[]⟩ T.u with
     | error er=>rw[m]at h;exact h
     | ok r =>
      rw[m]at h;obtain⟨q,j⟩:=h;have j:s=r:=j;subst j;exact⟨q,V⟩
theorem rf{d:Nat}{ts:List ae}{rs:List an}{T:ab}(a:T.b≠4):cG d ts rs T=AF rs:=by
 unfold cG;rw[qv (by simpa using a)]
structure jO (d M:Nat) (ts:List ae) (vars:List ByteArray) (k:Int) (fl:Flt) (vT vR vV:wF) (rs:List an) (FR DT:Nat→Prop) (W:wD):Prop where
 m:W.heap[M]?=Y (wq #[vT,vR,vV,I Z k,I Z fl.1,I Z fl.2] 83 (0,0))
 t:bV.K W DT ts vT
 v:Rd.str.K W (fun b=>b<W.heap.size∧b≠M) vars vV
 x:aH W FR 50 (bX d) rs vR
 dt:∀b,DT b→b<W.heap.size∧b≠M∧vR.ownBlock≠Y b
 fr:∀b,FR b→b<W.heap.size∧b≠M∧vR.ownBlock≠Y b
section
variable {d M:Nat} {ts:List ae} {vars:List ByteArray} {k k':Int} {fl fl':Flt} {vT vR vV:wF} {rs:List an} {FR DT:Nat→Prop} {W W':wD}
theorem jO.lt(h:jO d M ts vars k fl vT vR vV rs FR DT W):M<W.heap.size:=(EN.1 h.m).1
theorem jO.own(h:jO d M ts vars k fl vT vR vV rs FR DT W):vR.ownBlock≠Y M:=fun e=>by
 obtain⟨cs,a⟩:=h.x.f e;rw[h.m]at a;injection a with a
 injection a with _ b
 exact absurd b (by decide)
theorem jO.rm(h:jO d M ts vars k fl vT vR vV rs FR DT W):RmW M ts vars k fl vT vR vV W:=⟨h.m,Rd.y (fun b a=>⟨(h.dt b a).1,(h.dt b a).2.1⟩) h.t,h.v⟩
theorem jO.K(h:jO d M ts vars k fl vT vR vV rs FR DT W):(bX d).K W (fun b=>b<W.heap.size∧b≠M) rs vR:=
 h.x.K (fun b a=>⟨(h.fr b a).1,(h.fr b a).2.1⟩) (fun _g c=>⟨h.x.lt c,fun e=>h.own (e ▸ c)⟩)
end
def pE(d M:Nat) (ts:List ae) (vT vR:wF) (g:Nat) (FR DT:Nat→Prop) (fl:Flt) (r:Except Flt (List an)) (w:wD) (e:Ending) (w':wD):Prop:=
 ∃(fl':Flt) (vars':List ByteArray) (k':Int) (a:List an) (c f:wF),e=Ending.returned (CA #[])∧Chg (fun b=>b=M∨vR.ownBlock=Y b) w w'∧jO d M ts vars' k' fl' vT c f a (fun b=>FR b∨(ai w w' b∧c.ownBlock≠Y b)) DT w'∧Grew vR c w.heap.size∧a.length≤g+1∧Goes fl r fl' (fun y=>a=y)
def nI(M:Nat) (ts:List ae) (vars:List ByteArray) (k:Int) (vT vR vV:wF) (rs:List an) (a:Nat) (fl:Flt) (T:ab) (b:Array wF) (w:wD) (c:wF) (W:wD):Prop:=
 ∃i:Nat,i≤a∧c=I Z (i:Int)∧aD M ts vars k vT vR vV w (az fl (((rs.take i).map an.a).any (fun y=>y.data.toList==T.f.data.toList)) 210 T.y) W∧W.heap[w.heap.size]?=Y (wq b 25 (0,0))
def ly(Ts:List ab) (n:Nat) (a:wD) (b c:wF) (W:wD):Prop:=
 ∃i:Nat,i≤n∧c=I Z (i:Int)∧b=I Z (((Ts.take i).filter aO).length:Int)∧FK a W
def nZ(d M L:Nat) (DT:Nat→Prop) (ts:List ae) (vT vR:wF) (T:ab) (Ks:List ab) (n g c:Nat) (fl:Flt) (e:Array wF) (f:wD) (h:wF) (W:wD):Prop:=
 ∃(i:Nat) (a:Flt) (s:RSt) (k:Int) (vV vC vA:wF) (D:Nat→Prop),i≤n∧h=I Z (i:Int)∧Chg (fun b=>b=M∨b=g∨L≤b) f W∧W.heap[g]?=Y (wq #[J T.f,I Z T.h,I Z 0,vC,vA] 50 (0,0))∧W.heap[c]?=Y (wq e 25 (0,0))∧
  St2 64 70 (bf d) (bA d) M L DT ts s.b k a vT vR vV s.c vC s.d vA D W∧k=bE s.c∧s.b.length≤17∧(a.1=0→s.b.length≤16)∧s.c.length≤i∧s.d.length≤i∧Goes fl (aG (aC d ts) ⟨[],[],[]⟩ (Ks.take i)) a (fun y=>s=y)
def su(d M L:Nat) (DT:Nat→Prop) (ts:List ae) (vT vR:wF) (T:ab) (Ks:List ab) (n g:Nat) (fl:Flt) (c W:wD):Prop:=
 ∃(a:Flt) (s:RSt) (k:Int) (vV vC vA:wF) (D:Nat→Prop),Chg (fun b=>b=M∨b=g∨L≤b) c W∧W.heap[g]?=Y (wq #[J T.f,I Z T.h,I Z 0,vC,vA] 50 (0,0))∧
  St2 64 70 (bf d) (bA d) M L DT ts s.b k a vT vR vV s.c vC s.d vA D W∧s.b.length≤17∧s.c.length≤n∧s.d.length≤n∧Goes fl (aG (aC d ts) ⟨[],[],[]⟩ Ks) a (fun y=>s=y)
