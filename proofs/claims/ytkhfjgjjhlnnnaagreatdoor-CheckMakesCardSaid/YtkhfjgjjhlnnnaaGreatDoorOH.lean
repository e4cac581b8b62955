/- Parts of one proof, joined; conditions stand in each theorem. -/
import Derived.Test.YtkhfjgjjhlnnnaaGreatDoorMA
import Derived.Test.YtkhfjgjjhlnnnaaGreatDoorMZK
import Derived.Test.YtkhfjgjjhlnnnaaGreatDoorNA
import Derived.Test.YtkhfjgjjhlnnnaaGreatDoorNO
import Derived.Test.YtkhfjgjjhlnnnaaGreatDoorNQG
import Derived.Test.YtkhfjgjjhlnnnaaGreatDoorNZ
import Derived.Test.YtkhfjgjjhlnnnaaGreatDoorMJ
import Derived.Test.YtkhfjgjjhlnnnaaGreatDoorOG
import Derived.Test.YtkhfjgjjhlnnnaaGreatDoorMKG
import Derived.Test.YtkhfjgjjhlnnnaaGreatDoorMD
open Go renaming Value→vn,World→vk,Calls→wB,undef→xD
open Go.Proofs.Tryz renaming prog→wq
open Go.Obj renaming cells→ur
open Go.Value renaming int→I,string→J,slice→A,pointer→wF,tuple→AJ,agg→wD
open Go.IntKind renaming u8→O,i64→Z
open Option renaming some→Y,none→U
open Go.World renaming cell?→B3
open Except renaming ok→xL,error→z8
namespace Go.Proofs.YtkhfjgjjhlnnnaaGreatDoor
set_option maxHeartbeats 8000000
set_option maxRecDepth 100000
open Go.RowKit
theorem yI(d:Nat)(T:ab)(v:vn)(B:Nat)(w:vk)(j:bz w B d T v)(hB:B≤w.heap.size):wB wq 7 #[v] w (ao (decide (eK d T 1500≤1500)) w):=by
 have b:=j;obtain⟨m,s,rfl,f⟩:=j;obtain⟨p,c,rfl,_,_⟩:=f.rows;have a:Gc w (w.alloc (ur #[I O T.b,J T.f,I Z T.h,I Z T.t,A p T.q.length c] 25)):=(Fl _ w).alloc (Fj _) _;obtain⟨k,l⟩:=zz2 (wJ d T _ B _ 1500 (b.u (a.mono hB)) (Fu hB a.size) (by omega) (by omega)) a;clear a b m f;generalize eK d T 1500=n at *
 go_enter Tryz.func7,Tryz.ntmps7
 go_wp2_with fail
 refine Fx k.o ?_;rintro e w1 ⟨rfl,g⟩;have i:=Hd (l.o.trans (g.mono l.o.size));clear g k
 by_cases h:n≤1500
 ·go_wp2_with fail
  go_ret;exact⟨by simp[h],i.o⟩
 ·go_wp2_with fail
  go_ret;exact⟨by simp,i.o⟩
theorem Bt{l:List ab}(h:rowB l=true):∀K∈l,5≤K.b∧K.b≤11:=by
 intro K c;rw[←List.takeWhile_append_dropWhile (p:=aP) (l:=l)]at c;rcases List.mem_append.1 c with b|b
 ·have a:=FW.1 (List.all_takeWhile (p:=aP) (l:=l)) K b;unfold aP at a;have:K.b=5∨K.b=6∨K.b=7:=by simpa using a
  omega
 ·unfold rowB bI at h;have a:=FW.1 h K b;have:K.b=8∨K.b=9∨K.b=10∨K.b=11:=by simpa using a
  omega
theorem sf{T:ab}(b:T.b=4)(a:aK T=true):rowB T.q=true:=by
 have h:=kB a;unfold bw at h;rw[b]at h;exact h
theorem CW{T:ab}(b:T.b=4)(a:aK T=true):-1000000000000≤T.h∧T.h≤1000000000000:=by
 unfold aK at a;simp only[FG]at a;have h:=a.1.1.2;unfold bN at h;rw[b]at h;have h:(decide (-2147483647≤T.h)&&decide (T.h≤2147483647))=true:=h;simp only[FG,r8]at h;omega
theorem CV{d d':Nat}{T:ab}(he:fA d T)(h:okF d T=true)(a:d≤d'):okF d' T=true:=by
 obtain⟨k,rfl⟩:=Nat.exists_eq_add_of_le a;clear a
 induction k with
 | zero=>exact h
 | succ k b=>exact tW (d+k) T (qf he (by omega)) b
theorem mz{W:vk}{tmps:Array vn}{R:Ending→vk→Prop}{r f:Nat}{a b x y:vn}(h:tmps.getD 2 xD=wF (Y ⟨r,0,U⟩))(i:tmps.getD 3 xD=wF (Y ⟨f,0,U⟩))
  (e:W.heap[r]?=Y (ur #[a,b] 32 (0,0))) (g:W.heap[f]?=Y (ur #[x,y] 35 (0,0))) (j:R (Ending.returned (AJ #[wD #[a,b],wD #[x,y]])) W):bodyPost wq Tryz.f10 R .ret ⟨tmps,[]⟩ W:=by
 have k:W.cell? ⟨r,0,U⟩=Y a:=by simp[B3,e]
 have l:W.cell? ⟨r,1,U⟩=Y b:=by simp[B3,e]
 have d0:W.cell? ⟨f,0,U⟩=Y x:=by simp[B3,g]
 have d1:W.cell? ⟨f,1,U⟩=Y y:=by simp[B3,g]
 have c:tmps[2]?.getD xD=wF (Y ⟨r,0,U⟩):=by simpa using h
 have d:tmps[3]?.getD xD=wF (Y ⟨f,0,U⟩):=by simpa using i
 refine bodyPost_ret (v:=AJ #[wD #[a,b],wD #[x,y]]) ?_ V j;simp[results,Tryz.results10,go_sem,c,d,k,l,d0,d1]
def mC(d M:Nat) (ts:List ae) (vT:vn) (DT:Nat→Prop) (Ts:List ab) (n:Nat) (fl:Flt) (c:vk) (e:vn) (W:vk):Prop:=
 ∃(i:Nat) (a:Flt) (vars:List ByteArray) (k:Int) (rs:List ap) (vR vV:vn) (FR:Nat→Prop),i≤n∧e=I Z (i:Int)∧Chg (fun b=>b=M) c W∧jL d M ts vars k a vT vR vV rs FR DT W∧(∀g,vR.ownBlock=Y g→c.heap.size≤g)∧(∀b,FR b→c.heap.size≤b)∧rs.length≤i∧Goes fl (aG (cI d ts) [] (Ts.take i)) a (fun y=>rs=y)
def tI(d M:Nat) (ts:List ae) (vT:vn) (DT:Nat→Prop) (Ts:List ab) (fl:Flt) (c W:vk):Prop:=
 ∃(a:Flt) (vars:List ByteArray) (k:Int) (rs:List ap) (vR vV:vn) (FR:Nat→Prop),Chg (fun b=>b=M) c W∧jL d M ts vars k a vT vR vV rs FR DT W∧(∀g,vR.ownBlock=Y g→c.heap.size≤g)∧(∀b,FR b→c.heap.size≤b)∧Goes fl (aG (cI d ts) [] Ts) a (fun y=>rs=y)
theorem Au{d:Nat}{T:ab}{ts:List ae}{rs:List ap}{f a:Flt}(c:Goes (0,0) (aG dm [] T.q) f (fun y=>ts=y))(b:Goes f (aG (cI d ts) [] T.q) a (fun y=>rs=y)):if a.1=0 then kC d T=xL ⟨ts,rs⟩ else kC d T=z8 a:=by
 have c:=c.2 V;unfold kC
 cases i:aG dm [] T.q with
 | error er =>
  rw[i]at c;have c:f=er:=c;subst c;have h:=fQ kq _ _ _ i;have e:=b.1 h;subst e;rw[r5 h]
 | ok y =>
  rw[i]at c;obtain⟨j,g⟩:=c;have g:ts=y:=g;subst j;subst g;have b:=b.2 V;dsimp only
  cases k:aG (cI d ts) [] T.q with
  | error er =>
   rw[k]at b;have b:a=er:=b;subst b;rw[r5 (fQ (kl d ts) _ _ _ k)]
  | ok z =>
   rw[k]at b;obtain⟨j,g⟩:=b;have g:rs=z:=g;subst j;subst g;rw[r6 V]
theorem yL(d:Nat)(T:ab)(v:vn)(B:Nat)(w:vk)(hv:bz w B d T v)(hB:B≤w.heap.size)(cA:gv d T)(ds:aH d T≤100000) :
  wB wq 10 #[v] w (jE d (eR d T) w):=by
 obtain⟨C,s,rfl,X⟩:=hv;obtain⟨p,c,hs⟩:=X.f;obtain⟨n,hn⟩:=zzy (T.q.length);rw[hn]at hs;subst hs;obtain⟨w1,b7⟩:=zzx (((w.alloc (ur #[I O T.b,J T.f,I Z T.h,I Z T.t,A p n c] 25)).alloc (ur #[A U 0 0,A U 0 0] 32)).alloc (ur #[I Z 0,I Z 0] 35));obtain⟨b8,cC,cV⟩:=ql w (ur #[I O T.b,J T.f,I Z T.h,I Z T.t,A p n c] 25) (ur #[A U 0 0,A U 0 0] 32) (ur #[I Z 0,I Z 0] 35);have b9:Gc w w1:=by rw[b7];exact (((Fl _ w).alloc (Fj _) _).alloc (by simp) _).alloc (by simp;omega) _
 rw[←b7]at b8 cC cV;obtain⟨dv,ea,eb,ec,av,HN,eg⟩:=zz7 b8 cC cV b9 X hn (yf d T (wD #[I O T.b,J T.f,I Z T.h,I Z T.t,A p n c]) B w1 ⟨C,_,V,X.u (b9.mono hB)⟩ (Fu hB b9.size) cA ds);have ek:=Hd cA;obtain⟨e0,e1,e2,e3,e4⟩:=cells5 b8;clear b8 cC cV b9 X hn C cA ds
 go_enter Tryz.func10,Tryz.ntmps10
 go_upto_region 1 with fail
 change Code.wp _ _ _ _ (((w.alloc (ur #[I O T.b,J T.f,I Z T.h,I Z T.t,A p n c] 25)).alloc (ur #[A U 0 0,A U 0 0] 32)).alloc (ur #[I Z 0,I Z 0] 35));rw[←b7];clear b7;go_wp2_with fail
 refine eg.o.mono ?_;rintro e W2 ⟨rfl,a1⟩;have a6:=Hd (ec.o.trans (a1.mono ec.o.size));have el:=aa a1 dv.o (Fi.1 dv.o).1;have en:=aa a1 ea.o (Fi.1 ea.o).1;have eo:=aa a1 eb.o (Fi.1 eb.o).1;obtain⟨ep,ad,H⟩:=zz3 el en eo;clear a1 eg e0 e1 e2 e3 e4 el en eo
 cases hr:fO d T with
 | false =>
  have HM:Hid (eR d T=z8 (4,0)):=by show _=_;unfold eR;rw[hr];rfl
  clear hr;have c0:W2.cell? ⟨w.heap.size+1,0,U⟩=Y (A U 0 0):=by rw[Gb _ _ _ _ _ _ ad.o];rfl
  have c1:W2.cell? ⟨w.heap.size+1,1,U⟩=Y (A U 0 0):=by rw[Gb _ _ _ _ _ _ ad.o];rfl
  have d0:W2.cell? ⟨w.heap.size+1+1,0,U⟩=Y (I Z 0):=by rw[Gb _ _ _ _ _ _ H.o];rfl
  have d1:W2.cell? ⟨w.heap.size+1+1,1,U⟩=Y (I Z 0):=by rw[Gb _ _ _ _ _ _ H.o];rfl
  have f1:=aE ad.o;have f2:∀i,W2.frozen? ⟨w.heap.size+1+1,i,U⟩=false:=aE H.o;obtain⟨W3,y⟩:=zzx ((((W2.setCell ⟨w.heap.size+1,0,U⟩ (A U 0 0)).setCell ⟨w.heap.size+1,1,U⟩ (A U 0 0)).setCell ⟨w.heap.size+1+1,0,U⟩ (I Z 4)).setCell ⟨w.heap.size+1+1,1,U⟩ (I Z 0));have HZ:=Hd (kb ad.o H.o (show w.heap.size+1≠w.heap.size+2 by omega) (A U 0 0) (A U 0 0) (I Z 4) (I Z 0));have q:Hid (Gc w W3):=by show Below _ _ _;rw[y];exact (((a6.o.setCell (p:=⟨w.heap.size+1,0,U⟩) (FN _) _).setCell (p:=⟨w.heap.size+1,1,U⟩) (FN _) _).setCell (p:=⟨w.heap.size+1+1,0,U⟩) (Fu (FN _) (FN _)) _).setCell (p:=⟨w.heap.size+1+1,1,U⟩) (Fu (FN _) (FN _)) _
  rw[←y]at HZ;go_wp2_with fail
  rw[←y];refine mz V V HZ.o.1 HZ.o.2 ⟨q.o,?_⟩;rw[HM.o]
 | true =>
  have er:Hid (eR d T=kC d T):=by show _=_;unfold eR;rw[r6 hr]
  have ba:(T.b==1&&okF d T&&decide (bW d T≤30)&&decide (aH d T≤4096))=true:=hr;simp only[FG,r8]at ba;have hex:=qy av.o;obtain⟨hd,et,bb,ev⟩:=zz4 (CV (d':=d+3) hex ba.1.1.2 (by omega)) (dj.lift (d':=d+3) hex (pw ek.o) (by omega)) (xr hex ba.1.1.2 ba.2 ek.o) (av.o.deeper (d':=d+3) (by omega));obtain⟨W3,y⟩:=zzx (W2.alloc (ur #[A U 0 0,A U 0 0,A U 0 0,I Z 0,I Z 0,I Z 0] 83));have af:Gc W2 W3:=by rw[y];exact (Fl _ W2).alloc (Fj _) _
  have L:=qv W2 (ur #[A U 0 0,A U 0 0,A U 0 0,I Z 0,I Z 0,I Z 0] 83);rw[←y]at L;have ca:W3.heap.size=W2.heap.size+1:=by rw[y,r9]
  have cb:=Hd ca;have bc:B≤W2.heap.size:=by have:=a6.o.size;omega
  have cW:=Hd (ww (d+1) W2.heap.size B 0 (A U 0 0) (0,0) T (A p n c) W3 L bc ((ev.o.u (a6.o.mono hB)).u (af.mono bc)) (by have:=bb.o.few;omega) (fun K hK=>⟨((et.o).2.2 K hK).f,by have:=(bb.o.kid K hK).1;omega⟩));rw[HN.o]at cW;obtain⟨c5,q,c6,e5,e6,e7⟩:=zz6 L (a6.o.trans (af.mono a6.o.size)) (aa af ep.o (Fi.1 ep.o).1) (aa af ad.o (Fi.1 ad.o).1) (aa af H.o (Fi.1 H.o).1) y;have hO:w.heap.size+2<W2.heap.size:=(Fi.1 H.o).1;clear hr ba hex af L ca y;go_upto_region 4 with fail
  change Code.wp _ _ _ _ (W2.alloc (ur #[A U 0 0,A U 0 0,A U 0 0,I Z 0,I Z 0,I Z 0] 83));rw[←e7.o];clear e7;obtain⟨e0,e1,e2,e3,e4⟩:=cells5 c6.o;go_wp2_with fail
  refine cW.o.mono ?_;rintro e W4 ⟨D,ts,vT,rfl,ak,e8,l,bd,hf,cl⟩;obtain⟨r,u,hk⟩:=l.b;subst hk;have e9:=bv ak c6.o (Fi.1 c6.o).1 (fun e=>by omega);have fm:=bv ak e5.o (Fi.1 e5.o).1 (fun e=>by omega);have fv:=bv ak e6.o (Fi.1 e6.o).1 (fun e=>by omega);have fz:=ak.h;have fI:Hid (jL d W2.heap.size ts [] 0 D (A r ts.length u) (A U 0 0) (A U 0 0) [] (fun _=>False) (fun b=>(A r ts.length u).ownBlock=Y b) W4):=
   ⟨e8,l.C (fun _ h=>h.elim) (fun g hg=>hg),Rd.sm,aI.nil,fun b a=>⟨l.lt a,by have:=bd b a;have:=cb.o;omega,fun e=>by cases e⟩,fun _ h=>h.elim⟩
  have cq:Hid (mC d W2.heap.size ts (A r ts.length u) (fun b=>(A r ts.length u).ownBlock=Y b) T.q n D W4 (I Z 0) W4):=
   ⟨0,D,[],0,[],_,_,_,FA _,V,Chg.refl _ _,fI.o,(fun _ h=>by cases h),(fun _ h=>h.elim),Fj _,fL V V⟩
  obtain⟨fM,M,fT,gf,gg,hl,gD⟩:=zz7 cl ak e9 fm fv l bd;clear ak e8 l bd hf cl e9 fm fv cW c5 e0 e1 e2 e3 e4
  go_upto_block 0 with fail
  go_cut [] from 5 to 44 (fun W=>tI d W2.heap.size ts (A r ts.length u) (fun b=>(A r ts.length u).ownBlock=Y b) T.q D W4 W)
  case first =>
   go_wp2_with fail
   go_loopw [5] (mC d W2.heap.size ts (A r ts.length u) (fun b=>(A r ts.length u).ownBlock=Y b) T.q n D W4) (fun i _=>n-(intOf i).toNat)
   case atStart=>exact cq.o
   case round =>
    generalize wr=wp at *;obtain⟨i,c7,vars,k5,rs,vR,vV,FR,hi,rfl,f,k,bk,bl,hQ,bn⟩:=hrel;have hR:(0:Int)≤i:=by omega
    obtain⟨N,fp⟩:=c7;have hm:=k.m;dsimp only at hm;obtain⟨m0,m1,m2,m3,m4,m5⟩:=cU hm;have gE:=bv f fT.o (Fi.1 fT.o).1 (fun e=>by omega);obtain⟨b0,b1,b2,b3,b4⟩:=cells5 gE;obtain⟨bq,br,cc,c8,c9⟩:=zz5 f k bk bl bn;have cr:Hid ((N≠0∨n≤i)→tI d W2.heap.size ts (A r ts.length u) (fun b=>(A r ts.length u).ownBlock=Y b) T.q D W4 wp):=fun hh =>⟨(N,fp),vars,k5,rs,vR,vV,FR,bq.o,br.o,cc.o,c8.o,iU c9.o (by rw[HN.o];exact hh)⟩
    clear f k bk bl bn hm gE
    by_cases gF:i<n
    ·have hp:(i:Int)<n:=by omega
     have hV:n≤4096:=by have:=bb.o.few;rw[HN.o]at this;exact this
     by_cases al:N=0
     ·subst al;obtain⟨K,hT⟩:∃K,T.q[i]?=Y K:=⟨_,Fq (by rw[HN.o];exact gF)⟩;have X:=((ev.o.u (q.o.mono hB)).u (eI M.o bc (by have:=cb.o;omega))).u (eI bq.o bc (by have:=cb.o;have:=M.o.h;omega));rcases X with ⟨h0,_⟩|⟨b,off,cap,h1,h2,h3,h4,he,h6⟩
      ·rw[h0]at hT;simp at hT
      rw[HN.o]at he;injection he with e1 _ e3
      subst e1;subst e3;obtain⟨C,sk,c0,c1,c2,c3,c4,ch⟩:=h6 i K hT;obtain⟨ps,cs,rfl⟩:=ch.f;have E:=FM hT;have R:=kG (d:=d+2) hd.o K E;have S:=et.o.2.2 K E;have ct:=(bb.o.kid K E).1;have gH:=Hd hT;obtain⟨kd,bt⟩:∃kd:Int,(K.b:Int)=kd:=⟨_,rfl⟩
      by_cases gL:kd=4
      ·have z:K.b=4:=by omega
       have ck:=i8 R;have bB:=Hd (yZ d W2.heap.size B ts vars k5 (0,fp) (A r ts.length u) vR vV rs FR (fun b=>(A r ts.length u).ownBlock=Y b) K (A ps K.q.length cs) wp br.o z (CW z ck) S.f bc ch (by omega) (by have:=bb.o.few;rw[HN.o]at this;omega) (xI (sf z ck)) (fun P hP=>⟨Bt (sf z ck) P hP,S.2.2 P hP,kG (d:=d+1) R P hP⟩));rw[z]at bB c0;have bB:Hid (wB wq 26 #[wF (Y ⟨W2.heap.size,0,U⟩),wD #[I O 4,J K.f,I Z K.h,I Z K.t,A ps K.q.length cs]] wp (px d W2.heap.size ts (A r ts.length u) vR rs.length FR (fun b=>(A r ts.length u).ownBlock=Y b) (0,fp) (cI d ts rs K) wp)):=bB.o;have c0:wp.cell? ⟨b,off+i*5,U⟩=Y (I O 4):=c0;clear C ch h6 h1 h2 h3 h4 hT E R S ct ck z gL bt kd;go_wp2_with fail
       refine bB.o.mono ?_;rintro e w5 ⟨hq,da,k6,ht,hx,hy,rfl,gM,cu,cv,hz,cx⟩;have hW:=bq.o.h;have HP:Hid (mC d W2.heap.size ts (A r ts.length u) (fun b=>(A r ts.length u).ownBlock=Y b) T.q n D W4 (I Z ((i+1:Nat):Int)) w5):=
        ⟨i+1,hq,da,k6,ht,hx,hy,_,by omega,V,cp bq.o gM (fun b a=>by
         rcases a with a|a
         ·exact Or.inl a
         ·exact Or.inr (cc.o b a)),cu,fun g hg=>by
         rcases cv g hg with h|h
         ·exact cc.o g h
         ·omega,fun b a=>by
         rcases a with a|a
         ·exact c8.o b a
         ·have:=a.1.1;omega,by omega,iu (kl d ts) gH.o c9.o cx⟩
       clear gM cu cv hz cx bB c0 c1 c2 c3 c4 b0 b1 b2 b3 b4 m0 m1 m2 m3 m4 m5;go_wp2_with fail
       refine⟨HP.o,?_⟩;simp[intOf];omega
      ·have z:K.b≠4:=fun e=>gL (by omega)
       rw[bt]at c0;have HP:Hid (mC d W2.heap.size ts (A r ts.length u) (fun b=>(A r ts.length u).ownBlock=Y b) T.q n D W4 (I Z ((i+1:Nat):Int)) wp):=
        ⟨i+1,(0,fp),vars,k5,rs,vR,vV,FR,by omega,V,bq.o,br.o,cc.o,c8.o,by omega,iu (kl d ts) gH.o c9.o (j3 (qY z))⟩
       clear C ch h6 h1 h2 h3 h4 hT E R S ct z bt;go_wp2_with fail
       refine⟨HP.o,?_⟩;simp[intOf];omega
     ·have HX:=Hd (cr.o (Or.inl al));go_wp2_with fail
      go_meet
      case rel=>exact HX.o
    ·have HX:=Hd (cr.o (Or.inr (by omega)));have hp:¬(i:Int)<n:=by omega
     go_wp2_with fail
     go_meet
     case rel=>exact HX.o
  case rest =>
  generalize wc=wf at *;obtain⟨c7,vars,k5,rs,vR,vV,FR,f,k,bk,bl,bn⟩:=hcut;obtain⟨pR,cR,hA⟩:=k.x.b;subst hA;obtain⟨N,fp⟩:=c7;have hm:=k.m;dsimp only at hm;have hX:=f.h;have fz:=M.o.h;have ca:=cb.o;have gN:Gc w wf:=⟨f.os.trans (M.o.os.trans q.o.os),f.a.trans (M.o.a.trans q.o.tape),f.c.trans (M.o.c.trans q.o.output),by have:=q.o.size;omega,fun b a=>(f.q b (by have:=q.o.size;omega) (by omega)).trans ((M.o.q b (by have:=q.o.size;omega) (by omega)).trans (q.o.block b a))⟩;obtain⟨aq,bR⟩:=zz2 (bv f gf.o (Fi.1 gf.o).1 (fun e=>by omega)) (bv f gg.o (Fi.1 gg.o).1 (fun e=>by omega));have Q:=Au fM.o bn;dsimp only at Q;have gO:=Hd gN;have HM:=Hd hm;have hD:=Hd (Rd.q (G:=fun b=>w.heap.size+3≤b∧b<wf.heap.size) (fun b a=>⟨by have:=gD.o b a;omega,(k.dt b a).1⟩) k.t);have hE:=Hd (k.x.C (G:=fun b=>w.heap.size+3≤b∧b<wf.heap.size) (fun b a=>⟨by have:=bl b a;omega,(k.fr b a).1⟩) (fun g hg=>⟨by have:=bk g hg;omega,k.x.lt hg⟩));obtain⟨m0,m1,m2,m3,m4,m5⟩:=cU hm;clear f k bk bl bn hm gN ca fz cq fI
  by_cases al:N=0
  ·subst al;rw[r6 V]at Q;have dc:Hid (eR d T=xL ⟨ts,rs⟩):=er.o.trans Q;have HZ:=Hd (kb aq.o bR.o (show w.heap.size+1≠w.heap.size+2 by omega) (A r ts.length u) (A pR rs.length cR) (I Z 0) (I Z 0));obtain⟨W5,ar⟩:=zzx ((((wf.setCell ⟨w.heap.size+1,0,U⟩ (A r ts.length u)).setCell ⟨w.heap.size+1,1,U⟩ (A pR rs.length cR)).setCell ⟨w.heap.size+1+1,0,U⟩ (I Z 0)).setCell ⟨w.heap.size+1+1,1,U⟩ (I Z 0));have hG:Hid (Gc w W5):=by show Below _ _ _;rw[ar];exact (((gO.o.setCell (p:=⟨w.heap.size+1,0,U⟩) (FN _) _).setCell (p:=⟨w.heap.size+1,1,U⟩) (FN _) _).setCell (p:=⟨w.heap.size+1+1,0,U⟩) (Fu (FN _) (FN _)) _).setCell (p:=⟨w.heap.size+1+1,1,U⟩) (Fu (FN _) (FN _)) _
   have dd:∀b,w.heap.size+3≤b→W5.heap[b]?=wf.heap[b]?:=fun b a=>by
    rw[ar];rw[Fp _ _ _ _ (show b≠w.heap.size+1+1 by omega),Fp _ _ _ _ (show b≠w.heap.size+1+1 by omega),Fp _ _ _ _ (show b≠w.heap.size+1 by omega),Fp _ _ _ _ (show b≠w.heap.size+1 by omega)]
   have hI:W5.heap.size=wf.heap.size:=by rw[ar];simp[World.setCell]
   rw[←ar]at HZ;have HP:Hid (jE d (eR d T) w (Ending.returned (AJ #[wD #[A r ts.length u,A pR rs.length cR],wD #[I Z 0,I Z 0]])) W5):=by
    refine⟨hG.o,?_⟩;rw[dc.o];exact⟨_,_,V,Rd.q (fun b a=>⟨by have:=a.1;omega,by have:=a.2;omega⟩) (Rd.f (fun b a o ho=>(dd b a.1).trans ho) hD.o),Rd.q (fun b a=>⟨by have:=a.1;omega,by have:=a.2;omega⟩) (Rd.f (fun b a o ho=>(dd b a.1).trans ho) hE.o)⟩
   have c0:wf.cell? ⟨w.heap.size+1,0,U⟩=Y (A U 0 0):=by rw[Gb _ _ _ _ _ _ aq.o];rfl
   have c1:wf.cell? ⟨w.heap.size+1,1,U⟩=Y (A U 0 0):=by rw[Gb _ _ _ _ _ _ aq.o];rfl
   have d0:wf.cell? ⟨w.heap.size+1+1,0,U⟩=Y (I Z 0):=by rw[Gb _ _ _ _ _ _ bR.o];rfl
   have d1:wf.cell? ⟨w.heap.size+1+1,1,U⟩=Y (I Z 0):=by rw[Gb _ _ _ _ _ _ bR.o];rfl
   have f1:=aE aq.o;have f2:∀i,wf.frozen? ⟨w.heap.size+1+1,i,U⟩=false:=aE bR.o;have hJ:=Hd ar;clear Q dd hI ar;go_wp2_with fail
   rw[←hJ.o];exact mz V V HZ.o.1 HZ.o.2 HP.o
  ·rw[r5 al]at Q;have dc:Hid (eR d T=z8 (N,fp)):=er.o.trans Q;clear Q;obtain⟨F,b5⟩:=zzx ((wf.drew.setCell ⟨w.heap.size+1,0,U⟩ (A U 0 0)).setCell ⟨w.heap.size+1,1,U⟩ (A U 0 0));have dg:∀b,b≠w.heap.size+1→F.heap[b]?=wf.heap[b]?:=fun b a=>by
    rw[b5]
    show ((wf.drew.setCell ⟨w.heap.size+1,0,U⟩ (A U 0 0)).setCell ⟨w.heap.size+1,1,U⟩ (A U 0 0)).heap[b]?=_
    rw[Fp _ _ _ _ a,Fp _ _ _ _ a];rfl
   have gS:F.heap[W2.heap.size]?=_:=(dg _ (by omega)).trans HM.o;have gT:F.heap[w.heap.size+1+1]?=Y (ur #[I Z 0,I Z 0] 35 (0,0)):=(dg _ (by omega)).trans bR.o;have L:F.heap[w.heap.size+1]?=Y (ur #[A U 0 0,A U 0 0] 32 (0,0)):=by
    rw[b5];have h1:(wf.drew.setCell ⟨w.heap.size+1,0,U⟩ (A U 0 0)).heap[w.heap.size+1]?=Y (ur #[A U 0 0,A U 0 0] 32 (0,0)):=heap_set (show wf.drew.heap[w.heap.size+1]?=_ from aq.o) 0 _;have h2:((wf.drew.setCell ⟨w.heap.size+1,0,U⟩ (A U 0 0)).setCell ⟨w.heap.size+1,1,U⟩ (A U 0 0)).heap[w.heap.size+1]?=Y (ur #[A U 0 0,A U 0 0] 32 (0,0)):=heap_set h1 1 _;exact h2
   have ha:Gc w F:=by
    rw[b5];exact ((gO.o.drew).setCell (p:=⟨w.heap.size+1,0,U⟩) (FN _) _).setCell (p:=⟨w.heap.size+1,1,U⟩) (FN _) _
   obtain⟨n0,n1,n2,n3,n4,n5⟩:=cU gS;have G0:=fun x:RE.Two wf.drew F=>RE.Two.b (p:=⟨W2.heap.size,4,U⟩) (show wf.drew.cell? ⟨W2.heap.size,4,U⟩=_ from m4) n4 x
   have G1:=fun x:RE.Two wf.drew F=>RE.Two.b (p:=⟨W2.heap.size,5,U⟩) (show wf.drew.cell? ⟨W2.heap.size,5,U⟩=_ from m5) n5 x
   have hY:((N != 0)=true):=by simpa using al
   obtain⟨hL,dp,c5,hM⟩:=zz4 b5 gT L ha;go_upto_region 11 with fail
   clear b5 dg gS gT L ha m0 m1 m2 m3 m4 m5 n0 n1 n2 n3 n4 n5;refine RE.q (by kernel_rfl) 6 [5] [5] (fun s W=>if s=0 then W=wf.drew else W=F) (fun _ _=>True) (fun _ _=>xD) (fun _ _ _=>True) (by kernel_rfl) (fun i h1 h2=>by rw[h1]at h2;cases h2) (fun _ _ _ _ _ _ _=>trivial) V ?_;simp only[Fy,FK,Fz,FI]
   repeat (refine RE.b (fun W=>∃x:RE.Two wf.drew F,W=x.1) RE.u V V V V ?_;go_big_quiet_step (fail);refine wpQuiet_nil ?_)
   refine RE.f V V ?_ (fun xs=>?_)
   ·intro W hC hS _;obtain rfl:W=wf.drew:=hS V;refine RE.y (w':=wf.drew.setCells (w.heap.size+1) 0 [A U 0 0,A U 0 0]) ?_ ⟨[],V,hL.o.symm,trivial,trivial⟩;refine RE.z 32 (.tmp 2) (.tmp 51) V (w.heap.size+1) 0 #[A U 0 0,A U 0 0] V V ?_ (by kernel_rfl) (by simp[Value.oneCell']);intro j hj;have hj:j<2:=hj;have hh:wf.drew.heap[w.heap.size+1]?=_:=aq.o;rw[Gb _ _ _ _ _ _ hh,bM hh];have:j=0∨j=1:=by omega
    rcases this with rfl|rfl<;>exact⟨V,V⟩
   simp only[Act.put];refine RE.h ?_;intro W hS _;have hS:W=F:=hS;rw[hS];clear hS G0 G1;refine wpList_store_mid V 35 (.tmp 3) (.tmp 55) V (w.heap.size+1+1) 0 #[I Z N,I Z fp] V V ?_ (by kernel_rfl) (by simp[Value.oneCell']) ?_
   ·intro j hj;have hj:j<2:=hj;rw[Gb _ _ _ _ _ _ dp.o,bM dp.o];have:j=0∨j=1:=by omega
    rcases this with rfl|rfl<;>exact⟨V,V⟩
   have b6:((F.setCell ⟨w.heap.size+1+1,0,U⟩ (I Z N)).setCell ⟨w.heap.size+1+1,1,U⟩ (I Z fp)).heap[w.heap.size+1]?=Y (ur #[A U 0 0,A U 0 0] 32 (0,0)):=by
    rw[Fp _ _ _ _ (show w.heap.size+1≠w.heap.size+1+1 by omega),Fp _ _ _ _ (show w.heap.size+1≠w.heap.size+1+1 by omega)];exact c5.o
   have h1:(F.setCell ⟨w.heap.size+1+1,0,U⟩ (I Z N)).heap[w.heap.size+1+1]?=Y (ur #[I Z N,I Z 0] 35 (0,0)):=heap_set dp.o 0 _;have h2:((F.setCell ⟨w.heap.size+1+1,0,U⟩ (I Z N)).setCell ⟨w.heap.size+1+1,1,U⟩ (I Z fp)).heap[w.heap.size+1+1]?=Y (ur #[I Z N,I Z fp] 35 (0,0)):=heap_set h1 1 _;have hc:Gc w ((F.setCell ⟨w.heap.size+1+1,0,U⟩ (I Z N)).setCell ⟨w.heap.size+1+1,1,U⟩ (I Z fp)):=(hM.o.setCell (p:=⟨w.heap.size+1+1,0,U⟩) (Fu (FN _) (FN _)) _).setCell (p:=⟨w.heap.size+1+1,1,U⟩) (Fu (FN _) (FN _)) _;obtain⟨HL,H2,hN⟩:=zz3 b6 h2 hc;clear b6 h1 h2 hc;change wpList _ _ _ _ _ ((F.setCell ⟨w.heap.size+1+1,0,U⟩ (I Z N)).setCell ⟨w.heap.size+1+1,1,U⟩ (I Z fp));go_wp2_with fail
   refine mz V V HL.o H2.o ⟨hN.o,?_⟩;rw[dc.o]
def md(r:Except Flt eN):eN:=match r with | .ok R=>R | .error _=>⟨[],[]⟩
def Cj(r:Except Flt eN):Flt:=match r with | .ok _=>(0,0) | .error e=>e
theorem rP{d:Nat}{r:Except Flt eN}{w w':vk}{e:Ending}(h:jE d r w e w'):Gc w w'∧∃a b c f,e=Ending.returned (AJ #[wD #[A a (md r).a.length b,A c (md r).b.length f],wD #[I Z (Cj r).1,I Z (Cj r).2]])∧
  bZ.C w' (am w w') (md r).a (A a (md r).a.length b)∧(cf d).C w' (am w w') (md r).b (A c (md r).b.length f):=by
 obtain⟨j,h⟩:=h;refine⟨j,?_⟩
 cases r with
 | ok R =>
  obtain⟨st,m,rfl,g,i⟩:=h;obtain⟨a,b,k⟩:=Rd.b g;obtain⟨c,f,l⟩:=Rd.b i;subst k;subst l;exact⟨a,b,c,f,V,g,i⟩
 | error er =>
  subst h;exact⟨U,0,U,0,V,Rd.sm,Rd.sm⟩
theorem rb(d0:Nat)(T:ab)(v:vn)(B:Nat)(w:vk)(c8:bz w B d0 T v)(hB:B≤w.heap.size)(ht:aS w) :
  wB wq 3 #[v] w (ao true w):=by
 obtain⟨d,hd⟩:=zzx (d0+3);have hv:bz w B d T v:=by rw[hd];exact c8.deeper (by omega)
 have b9:=hv;obtain⟨hf,s,rfl,ca⟩:=hv;obtain⟨p,c,rfl,_,_⟩:=ca.rows;have i:Gc w (w.alloc (ur #[I O T.b,J T.f,I Z T.h,I Z T.t,A p T.q.length c] 25)):=(Fl _ w).alloc (Fj _) _;have hx:=qv w (ur #[I O T.b,J T.f,I Z T.h,I Z T.t,A p T.q.length c] 25);obtain⟨HX,HB⟩:=zz2 hx i;have HV:=Hd (fun W (k:Gc w W)=>b9.u (k.mono hB));have D:=Hd (fun W (k:Gc w W)=>Fu hB k.size);have HT:=Hd (fun W (k:Gc w W)=>ht.u k);have HN:=Hd (fun W (k:Gc w W)=>yI d T _ B W (HV.o W k) (D.o W k));obtain⟨c9,HF,HA⟩:=zz3 (Er d T 1500 (by omega)) hf (za _ (HT.o _ i));clear i hx ca b9 ht hf hd;generalize eK d T 1500=nd at *
 go_enter Tryz.func3,Tryz.ntmps3
 go_wp2_with fail
 refine Fx HA.o ?_;rintro e w0 ⟨rfl,i⟩;obtain⟨ak,al⟩:=zz2 (HB.o.trans (i.mono HB.o.size)) (aa i HX.o (by simp));obtain⟨E,F,G,H,K⟩:=cells5 al.o;clear i HA;go_wp2_with fail
 refine Fx (HN.o _ ak.o) ?_;rintro e w1 ⟨rfl,aq⟩;obtain⟨l,ar⟩:=zz2 (ak.o.trans (aq.mono ak.o.size)) (aa aq al.o (Fi.1 al.o).1);clear E F G H K aq
 by_cases h9:nd≤1500
 ·obtain⟨av,m⟩:=c9.o h9;have hm:aH d T≤100000:=by omega
  obtain⟨q,HM⟩:=zz2 m hm;obtain⟨E,F,G,H,K⟩:=cells5 ar.o;rw[decide_eq_true h9];clear av m hm h9;go_wp2_with fail
  refine Fx (A9 d T _ B w1 (HV.o _ l.o) (D.o _ l.o) q.o.q) ?_;intro e w2 a1;obtain⟨s2,rfl,a6,hl⟩:=a1;obtain⟨g,_,_,rfl⟩:=hl.b;have cb:=Hd (l.o.trans (a6.mono l.o.size));have x2:=aa a6 ar.o (Fi.1 ar.o).1;obtain⟨cc,HL⟩:=zz2 x2 hl;clear E F G H K a6 x2 hl;obtain⟨S,L⟩:=zzx (w2.alloc (ur #[I O T.b,J T.f,I Z T.h,I Z T.t,A (Y ⟨g,0,U⟩) T.q.length (T.q.length+12)] 25));have j:Gc w2 S:=by rw[L];exact (Fl _ w2).alloc (Fj _) _
  have y3:S.heap[w2.heap.size]?=Y (ur #[I O T.b,J T.f,I Z T.h,I Z T.t,A (Y ⟨g,0,U⟩) T.q.length (T.q.length+12)] 25 (0,0)):=by rw[L];exact qv w2 _
  have x3:=aa j cc.o (Fi.1 cc.o).1;obtain⟨ba,ch,ck,cl,bb⟩:=zz5 (cb.o.trans (j.mono cb.o.size)) (HL.o.u j) j.size x3 y3;have da:=Hd (fun W (k:Gc S W)=>(⟨HF.o,_,V,(ch.o.u (k.mono j.size)).q q.o.q⟩:bz W w2.heap.size d T (wD #[I O T.b,J T.f,I Z T.h,I Z T.t,A (Y ⟨g,0,U⟩) T.q.length (T.q.length+12)])));have cq:=Hd (tR d T _ S (bz.up (da.o S (Fl _ _)) j.size) q.o (HT.o S ba.o));have cx:=Hd (fun W (k:Gc w W)=>yL d T _ B W (HV.o W k) (D.o W k) q.o HM.o);obtain⟨r,hr⟩:=zzy (eR d T);rw[hr]at cq cx;clear j x3 y3 hr;go_upto_region 6 with fail
  change Code.wp _ _ _ _ (w2.alloc (ur #[I O T.b,J T.f,I Z T.h,I Z T.t,A (Y ⟨g,0,U⟩) T.q.length (T.q.length+12)] 25));rw[←L];clear L;obtain⟨m0,m1,m2,m3,m4⟩:=cells5 bb.o;go_wp2_with fail
  refine cq.o.mono ?_;intro e w4 t;obtain⟨bc,pt,ct,pr,cr,rfl,bd,bk⟩:=rP t;obtain⟨X,bl⟩:=zzy ((md r).a.length);obtain⟨nr,bn⟩:=zzy ((md r).b.length);obtain⟨⟨fe,fp⟩,bq⟩:∃x,Cj r=x:=⟨_,rfl⟩;rw[bl]at bd ⊢;rw[bn]at bk ⊢;rw[bq];dsimp only;obtain⟨dc,dd,dg,dp,ds⟩:=zz5 bl bn bq bd bk;obtain⟨wA,M⟩:=zzx (((w4.alloc (ur #[A pt X ct,A pr nr cr] 32)).alloc (ur #[I Z fe,I Z fp] 35)));have br:Gc w4 wA:=by rw[M];exact eM w4 _ _
  obtain⟨X0,N,_⟩:=aw w4 (ur #[A pt X ct,A pr nr cr] 32) (ur #[I Z fe,I Z fp] 35);rw[←M]at X0 N;have cA:w4.heap.size+1<wA.heap.size:=(Fi.1 N).1;have f:=bc.trans (br.mono bc.size);obtain⟨bt,bB,cC,dv,ea,eb,ad⟩:=zz7 (ba.o.trans (f.mono ba.o.size)) (aa f cl.o (Fi.1 cl.o).1) (aa f bb.o (Fi.1 bb.o).1) X0 N br f;have cR:=Hd M;clear bc br X0 N f bd bk t m0 m1 m2 m3 m4 bl bn bq M;go_upto_region 7 with fail
  change Code.wp _ _ _ _ ((w4.alloc (ur #[A pt X ct,A pr nr cr] 32)).alloc (ur #[I Z fe,I Z fp] 35));rw[←cR.o];clear cR;obtain⟨E,F,G,H,K⟩:=cells5 bB.o;go_wp2_with fail
  refine (cx.o wA bt.o).mono ?_;intro e w7 t;obtain⟨P,pu,cu,pv,cv,rfl,bR,b5⟩:=rP t;rw[dc.o]at bR ⊢;rw[dd.o]at b5 ⊢;rw[dg.o];dsimp only;obtain⟨ec,eg⟩:=zz2 bR b5;obtain⟨C,Q⟩:=zzx (((w7.alloc (ur #[A pu X cu,A pv nr cv] 32)).alloc (ur #[I Z fe,I Z fp] 35)));have b6:Gc w7 C:=by rw[Q];exact eM w7 _ _
  obtain⟨X0,N,_⟩:=aw w7 (ur #[A pu X cu,A pv nr cv] 32) (ur #[I Z fe,I Z fp] 35);rw[←Q]at X0 N;have e0:w7.heap.size+1<C.heap.size:=(Fi.1 N).1;have a:=P.trans (b6.mono P.size);have e1:=P.size;obtain⟨cT,ek,el,en,eo,b7,b8⟩:=zz7 (bt.o.trans (a.mono bt.o.size)) X0 N (aa a dv.o (by omega)) (aa a ea.o cA) (aa a bB.o (Fi.1 bB.o).1) (aa a cC.o (Fi.1 cC.o).1);obtain⟨ep,u,cV,cW⟩:=zz4 a b6 (ad.o.trans (a.mono ad.o.size)) Q;clear P b6 X0 N a bR b5 t E F G H K Q;go_upto_region 8 with fail
  change Code.wp _ _ _ _ ((w7.alloc (ur #[A pu X cu,A pv nr cv] 32)).alloc (ur #[I Z fe,I Z fp] 35));rw[←cW.o];clear cW;obtain⟨x0,x1,_,_⟩:=eB en.o;obtain⟨y0,y1,_,_⟩:=eB eo.o;obtain⟨z0,z1,_,_⟩:=eB ek.o;obtain⟨v0,v1,_,_⟩:=eB el.o;obtain⟨E,F,G,H,K⟩:=cells5 b7.o;obtain⟨m0,m1,m2,m3,m4⟩:=cells5 b8.o;have y:Hid (wB wq 11 #[wD #[A pt X ct,A pr nr cr],wD #[A pu X cu,A pv nr cv]] C (bT C)):=by
   have er:=ep.o;have c0:=eb.o;have k4:Gc w4 C:=c0.trans (er.mono c0.size);have c1:∀b,b<w4.heap.size→b<C.heap.size:=fun b h=>Ft h k4.size
   have af:∀b,b<w7.heap.size→b<C.heap.size:=fun b h=>Ft h u.o.size
   exact uE d (md r) _ _ C (mm.2 ⟨_,_,V,Rd.q c1 (Rd.t (Rd.q (fun b h=>h.2) dp.o) (fun _ h=>h) k4),Rd.q c1 (Rd.t (Rd.q (fun b h=>h.2) ds.o) (fun _ h=>h) k4)⟩)
    (mm.2 ⟨_,_,V,Rd.q af (Rd.t (Rd.q (fun b h=>h.2) ec.o) (fun _ h=>h) u.o),Rd.q af (Rd.t (Rd.q (fun b h=>h.2) eg.o) (fun _ h=>h) u.o)⟩)
  go_wp2_with fail
  refine Fx y.o ?_;rintro e w8 ⟨rfl,z⟩;obtain⟨R,c3⟩:=zz2 (cT.o.trans (z.mono cT.o.size)) (cV.o.trans (z.mono cV.o.size));have c5:=aa z b7.o (Fi.1 b7.o).1;have c6:=aa z b8.o (Fi.1 b8.o).1;clear z y x0 x1 y0 y1 z0 z1 v0 v1 E F G H K m0 m1 m2 m3 m4;obtain⟨E,F,G,H,K⟩:=cells5 c5;obtain⟨m0,m1,m2,m3,m4⟩:=cells5 c6;have et:=Hd (AW d T _ _ _ _ B w8 HF.o (ch.o.u (c3.o.mono ck.o)) (HV.o _ R.o) (Fu ck.o c3.o.size) (D.o _ R.o) q.o.q);clear c5 c6;go_wp2_with fail
  refine Fx et.o ?_;rintro e w9 ⟨rfl,c7⟩;have ev:=Hd (R.o.trans (c7.mono R.o.size));clear c7 E F G H K m0 m1 m2 m3 m4;go_wp2_with fail
  go_ret;exact⟨V,ev.o⟩
 ·rw[r7 h9];go_wp2_with fail
  go_ret;exact⟨V,l.o⟩
