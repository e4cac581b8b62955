/- Parts of one proof, joined; conditions stand in each theorem. -/
import Derived.Test.YtkhfjgjjhlnnnaaGreatDoorYMA
import Derived.Test.YtkhfjgjjhlnnnaaGreatDoorYMZK
import Derived.Test.YtkhfjgjjhlnnnaaGreatDoorYNA
import Derived.Test.YtkhfjgjjhlnnnaaGreatDoorYNO
import Derived.Test.YtkhfjgjjhlnnnaaGreatDoorYNQG
import Derived.Test.YtkhfjgjjhlnnnaaGreatDoorYNZ
import Derived.Test.YtkhfjgjjhlnnnaaGreatDoorYMJ
import Derived.Test.YtkhfjgjjhlnnnaaGreatDoorYOG
import Derived.Test.YtkhfjgjjhlnnnaaGreatDoorYMKG
import Derived.Test.YtkhfjgjjhlnnnaaGreatDoorYMD
open Go renaming World→wD,Value→wF,undef→At
open Go.Ending renaming returned→z8
open Go.Value renaming int→I,pointer→xV,tuple→CA,agg→xS,string→J,slice→A
open Go.IntKind renaming i64→Z,u8→O
open Option renaming some→Y,none→U
open Go.Obj renaming cells→wq
open Go.World renaming cell?→CR
open Except renaming ok→AF,error→BT
namespace Go.Proofs.YtkhfjgjjhlnnnaaGreatDoor
set_option maxHeartbeats 8000000
set_option maxRecDepth 100000
open Go.RowKit
def jE(x n:Int):Int:=if x.tmod n<0 then x.tmod n+n else x.tmod n
theorem pZ(x n:Int)(d:1≤n):0≤jE x n∧jE x n<n:=by
 have a:=Int.tmod_lt_of_pos x (b:=n) (by omega);have c:-n<x.tmod n:=Int.lt_tmod_of_pos x (b:=n) (by omega);unfold jE
 split<;>omega
def Dg(x n:Int) (w:wD) (e:Ending) (w':wD):Prop:=e=z8 (I Z (jE x n))∧FK w w'
theorem rE(x n:Int)(w:wD)(h:1≤n)(d:n≤1000000) :
  Calls Tryz.prog 13 #[I Z x,I Z n] w (Dg x n w):=by
 have f:=Int.tmod_lt_of_pos x (b:=n) (by omega);have g:-n<x.tmod n:=Int.lt_tmod_of_pos x (b:=n) (by omega)
 go_enter Tryz.func13,Tryz.ntmps13
 by_cases a:x.tmod n<0
 ·have e:jE x n=x.tmod n+n:=by unfold jE;rw[rv a]
  have c:=Hd e;clear e
  go_wp2
  go_ret;exact⟨by rw[c.o];rfl,EP _ _⟩
 ·have e:jE x n=x.tmod n:=by unfold jE;rw[qv a]
  have c:=Hd e;clear e
  go_wp2
  go_ret;exact⟨by rw[c.o];rfl,EP _ _⟩
theorem Bf{l:List ab}(h:rowB l=true):∀K∈l,5≤K.b∧K.b≤11:=by
 intro K c;rw[←List.takeWhile_append_dropWhile (p:=aO) (l:=l)]at c;rcases List.mem_append.1 c with b|b
 ·have a:=Fx.1 (List.all_takeWhile (p:=aO) (l:=l)) K b;unfold aO at a;have:K.b=5∨K.b=6∨K.b=7:=by simpa using a
  omega
 ·unfold rowB bG at h;have a:=Fx.1 h K b;have:K.b=8∨K.b=9∨K.b=10∨K.b=11:=by simpa using a
  omega
theorem si{T:ab}(b:T.b=4)(a:aI T=true):rowB T.u=true:=by
 have h:=kG a;unfold bv at h;rw[b]at h;exact h
theorem CC{T:ab}(b:T.b=4)(a:aI T=true):-1000000000000≤T.h∧T.h≤1000000000000:=by
 unfold aI at a;simp only[Ff]at a;have h:=a.1.1.2;unfold bL at h;rw[b]at h;have h:(decide (-2147483647≤T.h)&&decide (T.h≤2147483647))=true:=h;simp only[Ff,r7]at h;omega
theorem Cz{d d':Nat}{T:ab}(he:fC d T)(h:okF d T=true)(a:d≤d'):okF d' T=true:=by
 obtain⟨k,rfl⟩:=Nat.exists_eq_add_of_le a;clear a
 induction k with
 | zero=>exact h
 | succ k b=>exact tU (d+k) T (qk he (by omega)) b
theorem mD{W:wD}{tmps:Array wF}{R:Ending→wD→Prop}{r f:Nat}{a b x y:wF}(h:tmps.getD 2 At=xV (Y ⟨r,0,U⟩))(i:tmps.getD 3 At=xV (Y ⟨f,0,U⟩))
  (e:W.heap[r]?=Y (wq #[a,b] 32 (0,0))) (g:W.heap[f]?=Y (wq #[x,y] 35 (0,0))) (j:R (z8 (CA #[xS #[a,b],xS #[x,y]])) W):bodyPost Tryz.prog Tryz.f10 R .ret ⟨tmps,[]⟩ W:=by
 have k:W.cell? ⟨r,0,U⟩=Y a:=by simp[CR,e]
 have l:W.cell? ⟨r,1,U⟩=Y b:=by simp[CR,e]
 have d0:W.cell? ⟨f,0,U⟩=Y x:=by simp[CR,g]
 have d1:W.cell? ⟨f,1,U⟩=Y y:=by simp[CR,g]
 have c:tmps[2]?.getD At=xV (Y ⟨r,0,U⟩):=by simpa using h
 have d:tmps[3]?.getD At=xV (Y ⟨f,0,U⟩):=by simpa using i
 refine bodyPost_ret (v:=CA #[xS #[a,b],xS #[x,y]]) ?_ V j;simp[results,Tryz.results10,go_sem,c,d,k,l,d0,d1]
def mG(d M:Nat) (ts:List ae) (vT:wF) (DT:Nat→Prop) (Ts:List ab) (n:Nat) (fl:Flt) (c:wD) (e:wF) (W:wD):Prop:=
 ∃(i:Nat) (a:Flt) (vars:List ByteArray) (k:Int) (rs:List an) (vR vV:wF) (FR:Nat→Prop),i≤n∧e=I Z (i:Int)∧Chg (fun b=>b=M) c W∧jO d M ts vars k a vT vR vV rs FR DT W∧(∀g,vR.ownBlock=Y g→c.heap.size≤g)∧(∀b,FR b→c.heap.size≤b)∧rs.length≤i∧Goes fl (aG (cG d ts) [] (Ts.take i)) a (fun y=>rs=y)
def tG(d M:Nat) (ts:List ae) (vT:wF) (DT:Nat→Prop) (Ts:List ab) (fl:Flt) (c W:wD):Prop:=
 ∃(a:Flt) (vars:List ByteArray) (k:Int) (rs:List an) (vR vV:wF) (FR:Nat→Prop),Chg (fun b=>b=M) c W∧jO d M ts vars k a vT vR vV rs FR DT W∧(∀g,vR.ownBlock=Y g→c.heap.size≤g)∧(∀b,FR b→c.heap.size≤b)∧Goes fl (aG (cG d ts) [] Ts) a (fun y=>rs=y)
theorem Al{d:Nat}{T:ab}{ts:List ae}{rs:List an}{f a:Flt}(c:Goes (0,0) (aG dk [] T.u) f (fun y=>ts=y))(b:Goes f (aG (cG d ts) [] T.u) a (fun y=>rs=y)):if a.1=0 then kH d T=AF ⟨ts,rs⟩ else kH d T=BT a:=by
 have c:=c.2 V;unfold kH
 cases i:aG dk [] T.u with
 | error er =>
  rw[i]at c;have c:f=er:=c;subst c;have h:=fS kx _ _ _ i;have e:=b.1 h;subst e;rw[qv h]
 | ok y =>
  rw[i]at c;obtain⟨j,g⟩:=c;have g:ts=y:=g;subst j;subst g;have b:=b.2 V;dsimp only
  cases k:aG (cG d ts) [] T.u with
  | error er =>
   rw[k]at b;have b:a=er:=b;subst b;rw[qv (fS (kt d ts) _ _ _ k)]
  | ok z =>
   rw[k]at b;obtain⟨j,g⟩:=b;have g:rs=z:=g;subst j;subst g;rw[rv V]
theorem yF(d:Nat)(T:ab)(v:wF)(B:Nat)(w:wD)(hv:dH w B d T v)(hB:B≤w.heap.size)(cA:gx d T)(ds:aM d T≤100000) :
  Calls Tryz.prog 10 #[v] w (jH d (eP d T) w):=by
 obtain⟨C,s,rfl,X⟩:=hv;obtain⟨p,c,hs⟩:=X.f;obtain⟨n,hn⟩:=zzy (T.u.length);rw[hn]at hs;subst hs;obtain⟨w1,b7⟩:=zzx (((w.alloc (wq #[I O T.b,J T.f,I Z T.h,I Z T.y,A p n c] 25)).alloc (wq #[A U 0 0,A U 0 0] 32)).alloc (wq #[I Z 0,I Z 0] 35));obtain⟨b8,cC,cV⟩:=qq w (wq #[I O T.b,J T.f,I Z T.h,I Z T.y,A p n c] 25) (wq #[A U 0 0,A U 0 0] 32) (wq #[I Z 0,I Z 0] 35);have b9:FK w w1:=by rw[b7];exact (((EP _ w).alloc (EO _) _).alloc (by simp) _).alloc (by simp;omega) _
 rw[←b7]at b8 cC cV;obtain⟨dv,ea,eb,ec,av,HN,eg⟩:=zz7 b8 cC cV b9 X hn (yd d T (xS #[I O T.b,J T.f,I Z T.h,I Z T.y,A p n c]) B w1 ⟨C,_,V,X.z (b9.mono hB)⟩ (EU hB b9.size) cA ds);have ek:=Hd cA;obtain⟨e0,e1,e2,e3,e4⟩:=cells5 b8;clear b8 cC cV b9 X hn C cA ds
 go_enter Tryz.func10,Tryz.ntmps10
 go_upto_region 1 with fail
 change Code.wp _ _ _ _ (((w.alloc (wq #[I O T.b,J T.f,I Z T.h,I Z T.y,A p n c] 25)).alloc (wq #[A U 0 0,A U 0 0] 32)).alloc (wq #[I Z 0,I Z 0] 35));rw[←b7];clear b7;go_wp2_with fail
 refine eg.o.mono ?_;rintro e W2 ⟨rfl,a1⟩;have a6:=Hd (ec.o.trans (a1.mono ec.o.size));have el:=aa a1 dv.o (EN.1 dv.o).1;have en:=aa a1 ea.o (EN.1 ea.o).1;have eo:=aa a1 eb.o (EN.1 eb.o).1;obtain⟨ep,ad,H⟩:=zz3 el en eo;clear a1 eg e0 e1 e2 e3 e4 el en eo
 cases hr:fQ d T with
 | false =>
  have HM:Hid (eP d T=BT (4,0)):=by show _=_;unfold eP;rw[hr];rfl
  clear hr;have c0:W2.cell? ⟨w.heap.size+1,0,U⟩=Y (A U 0 0):=by rw[FI _ _ _ _ _ _ ad.o];rfl
  have c1:W2.cell? ⟨w.heap.size+1,1,U⟩=Y (A U 0 0):=by rw[FI _ _ _ _ _ _ ad.o];rfl
  have d0:W2.cell? ⟨w.heap.size+1+1,0,U⟩=Y (I Z 0):=by rw[FI _ _ _ _ _ _ H.o];rfl
  have d1:W2.cell? ⟨w.heap.size+1+1,1,U⟩=Y (I Z 0):=by rw[FI _ _ _ _ _ _ H.o];rfl
  have f1:=aE ad.o;have f2:∀i,W2.frozen? ⟨w.heap.size+1+1,i,U⟩=false:=aE H.o;obtain⟨W3,y⟩:=zzx ((((W2.setCell ⟨w.heap.size+1,0,U⟩ (A U 0 0)).setCell ⟨w.heap.size+1,1,U⟩ (A U 0 0)).setCell ⟨w.heap.size+1+1,0,U⟩ (I Z 4)).setCell ⟨w.heap.size+1+1,1,U⟩ (I Z 0));have HZ:=Hd (kj ad.o H.o (show w.heap.size+1≠w.heap.size+2 by omega) (A U 0 0) (A U 0 0) (I Z 4) (I Z 0));have q:Hid (FK w W3):=by show Below _ _ _;rw[y];exact (((a6.o.setCell (p:=⟨w.heap.size+1,0,U⟩) (Fl _) _).setCell (p:=⟨w.heap.size+1,1,U⟩) (Fl _) _).setCell (p:=⟨w.heap.size+1+1,0,U⟩) (EU (Fl _) (Fl _)) _).setCell (p:=⟨w.heap.size+1+1,1,U⟩) (EU (Fl _) (Fl _)) _
  rw[←y]at HZ;go_wp2_with fail
  rw[←y];refine mD V V HZ.o.1 HZ.o.2 ⟨q.o,?_⟩;rw[HM.o]
 | true =>
  have er:Hid (eP d T=kH d T):=by show _=_;unfold eP;rw[rv hr]
  have ba:(T.b==1&&okF d T&&decide (bS d T≤30)&&decide (aM d T≤4096))=true:=hr;simp only[Ff,r7]at ba;have hex:=qD av.o;obtain⟨hd,et,bb,ev⟩:=zz4 (Cz (d':=d+3) hex ba.1.1.2 (by omega)) (dh.lift (d':=d+3) hex (pD ek.o) (by omega)) (xp hex ba.1.1.2 ba.2 ek.o) (av.o.deeper (d':=d+3) (by omega));obtain⟨W3,y⟩:=zzx (W2.alloc (wq #[A U 0 0,A U 0 0,A U 0 0,I Z 0,I Z 0,I Z 0] 83));have af:FK W2 W3:=by rw[y];exact (EP _ W2).alloc (EO _) _
  have L:=p9 W2 (wq #[A U 0 0,A U 0 0,A U 0 0,I Z 0,I Z 0,I Z 0] 83);rw[←y]at L;have ca:W3.heap.size=W2.heap.size+1:=by rw[y,r9]
  have cb:=Hd ca;have bc:B≤W2.heap.size:=by have:=a6.o.size;omega
  have cW:=Hd (wu (d+1) W2.heap.size B 0 (A U 0 0) (0,0) T (A p n c) W3 L bc ((ev.o.z (a6.o.mono hB)).z (af.mono bc)) (by have:=bb.o.few;omega) (fun K hK=>⟨((et.o).2.2 K hK).f,by have:=(bb.o.kid K hK).1;omega⟩));rw[HN.o]at cW;obtain⟨c5,q,c6,e5,e6,e7⟩:=zz6 L (a6.o.trans (af.mono a6.o.size)) (aa af ep.o (EN.1 ep.o).1) (aa af ad.o (EN.1 ad.o).1) (aa af H.o (EN.1 H.o).1) y;have hO:w.heap.size+2<W2.heap.size:=(EN.1 H.o).1;clear hr ba hex af L ca y;go_upto_region 4 with fail
  change Code.wp _ _ _ _ (W2.alloc (wq #[A U 0 0,A U 0 0,A U 0 0,I Z 0,I Z 0,I Z 0] 83));rw[←e7.o];clear e7;obtain⟨e0,e1,e2,e3,e4⟩:=cells5 c6.o;go_wp2_with fail
  refine cW.o.mono ?_;rintro e W4 ⟨D,ts,vT,rfl,ak,e8,l,bd,hf,cl⟩;obtain⟨r,u,hk⟩:=l.b;subst hk;have e9:=bu ak c6.o (EN.1 c6.o).1 (fun e=>by omega);have fm:=bu ak e5.o (EN.1 e5.o).1 (fun e=>by omega);have fv:=bu ak e6.o (EN.1 e6.o).1 (fun e=>by omega);have fz:=ak.h;have fI:Hid (jO d W2.heap.size ts [] 0 D (A r ts.length u) (A U 0 0) (A U 0 0) [] (fun _=>False) (fun b=>(A r ts.length u).ownBlock=Y b) W4):=
   ⟨e8,l.K (fun _ h=>h.elim) (fun g hg=>hg),Rd.vn,aH.nil,fun b a=>⟨l.lt a,by have:=bd b a;have:=cb.o;omega,fun e=>by cases e⟩,fun _ h=>h.elim⟩
  have cq:Hid (mG d W2.heap.size ts (A r ts.length u) (fun b=>(A r ts.length u).ownBlock=Y b) T.u n D W4 (I Z 0) W4):=
   ⟨0,D,[],0,[],_,_,_,Fa _,V,Chg.refl _ _,fI.o,(fun _ h=>by cases h),(fun _ h=>h.elim),EO _,fO V V⟩
  obtain⟨fM,M,fT,gf,gg,hl,gD⟩:=zz7 cl ak e9 fm fv l bd;clear ak e8 l bd hf cl e9 fm fv cW c5 e0 e1 e2 e3 e4
  go_upto_block 0 with fail
  go_cut [] from 5 to 44 (fun W=>tG d W2.heap.size ts (A r ts.length u) (fun b=>(A r ts.length u).ownBlock=Y b) T.u D W4 W)
  case first =>
   go_wp2_with fail
   go_loopw [5] (mG d W2.heap.size ts (A r ts.length u) (fun b=>(A r ts.length u).ownBlock=Y b) T.u n D W4) (fun i _=>n-(intOf i).toNat)
   case atStart=>exact cq.o
   case round =>
    generalize wr=wp at *;obtain⟨i,c7,vars,k5,rs,vR,vV,FR,hi,rfl,f,k,bk,bl,hQ,bn⟩:=hrel;have hR:(0:Int)≤i:=by omega
    obtain⟨N,fp⟩:=c7;have hm:=k.m;dsimp only at hm;obtain⟨m0,m1,m2,m3,m4,m5⟩:=cQ hm;have gE:=bu f fT.o (EN.1 fT.o).1 (fun e=>by omega);obtain⟨b0,b1,b2,b3,b4⟩:=cells5 gE;obtain⟨bq,br,cc,c8,c9⟩:=zz5 f k bk bl bn;have cr:Hid ((N≠0∨n≤i)→tG d W2.heap.size ts (A r ts.length u) (fun b=>(A r ts.length u).ownBlock=Y b) T.u D W4 wp):=fun hh =>⟨(N,fp),vars,k5,rs,vR,vV,FR,bq.o,br.o,cc.o,c8.o,iY c9.o (by rw[HN.o];exact hh)⟩
    clear f k bk bl bn hm gE
    by_cases gF:i<n
    ·have hp:(i:Int)<n:=by omega
     have hV:n≤4096:=by have:=bb.o.few;rw[HN.o]at this;exact this
     by_cases al:N=0
     ·subst al;obtain⟨K,hT⟩:∃K,T.u[i]?=Y K:=⟨_,ES (by rw[HN.o];exact gF)⟩;have X:=((ev.o.z (q.o.mono hB)).z (eI M.o bc (by have:=cb.o;omega))).z (eI bq.o bc (by have:=cb.o;have:=M.o.h;omega));rcases X with ⟨h0,_⟩|⟨b,off,cap,h1,h2,h3,h4,he,h6⟩
      ·rw[h0]at hT;simp at hT
      rw[HN.o]at he;injection he with e1 _ e3
      subst e1;subst e3;obtain⟨C,sk,c0,c1,c2,c3,c4,ch⟩:=h6 i K hT;obtain⟨ps,cs,rfl⟩:=ch.f;have E:=Fj hT;have R:=kL (d:=d+2) hd.o K E;have S:=et.o.2.2 K E;have ct:=(bb.o.kid K E).1;have gH:=Hd hT;obtain⟨kd,bt⟩:∃kd:Int,(K.b:Int)=kd:=⟨_,rfl⟩
      by_cases gL:kd=4
      ·have z:K.b=4:=by omega
       have ck:=jb R;have bB:=Hd (yS d W2.heap.size B ts vars k5 (0,fp) (A r ts.length u) vR vV rs FR (fun b=>(A r ts.length u).ownBlock=Y b) K (A ps K.u.length cs) wp br.o z (CC z ck) S.f bc ch (by omega) (by have:=bb.o.few;rw[HN.o]at this;omega) (xG (si z ck)) (fun P hP=>⟨Bf (si z ck) P hP,S.2.2 P hP,kL (d:=d+1) R P hP⟩));rw[z]at bB c0;have bB:Hid (Calls Tryz.prog 26 #[xV (Y ⟨W2.heap.size,0,U⟩),xS #[I O 4,J K.f,I Z K.h,I Z K.y,A ps K.u.length cs]] wp (pE d W2.heap.size ts (A r ts.length u) vR rs.length FR (fun b=>(A r ts.length u).ownBlock=Y b) (0,fp) (cG d ts rs K) wp)):=bB.o;have c0:wp.cell? ⟨b,off+i*5,U⟩=Y (I O 4):=c0;clear C ch h6 h1 h2 h3 h4 hT E R S ct ck z gL bt kd;go_wp2_with fail
       refine bB.o.mono ?_;rintro e w5 ⟨hq,da,k6,ht,hx,hy,rfl,gM,cu,cv,hz,cx⟩;have hW:=bq.o.h;have HP:Hid (mG d W2.heap.size ts (A r ts.length u) (fun b=>(A r ts.length u).ownBlock=Y b) T.u n D W4 (I Z ((i+1:Nat):Int)) w5):=
        ⟨i+1,hq,da,k6,ht,hx,hy,_,by omega,V,cj bq.o gM (fun b a=>by
         rcases a with a|a
         ·exact Or.inl a
         ·exact Or.inr (cc.o b a)),cu,fun g hg=>by
         rcases cv g hg with h|h
         ·exact cc.o g h
         ·omega,fun b a=>by
         rcases a with a|a
         ·exact c8.o b a
         ·have:=a.1.1;omega,by omega,iy (kt d ts) gH.o c9.o cx⟩
       clear gM cu cv hz cx bB c0 c1 c2 c3 c4 b0 b1 b2 b3 b4 m0 m1 m2 m3 m4 m5;go_wp2_with fail
       refine⟨HP.o,?_⟩;simp[intOf];omega
      ·have z:K.b≠4:=fun e=>gL (by omega)
       rw[bt]at c0;have HP:Hid (mG d W2.heap.size ts (A r ts.length u) (fun b=>(A r ts.length u).ownBlock=Y b) T.u n D W4 (I Z ((i+1:Nat):Int)) wp):=
        ⟨i+1,(0,fp),vars,k5,rs,vR,vV,FR,by omega,V,bq.o,br.o,cc.o,c8.o,by omega,iy (kt d ts) gH.o c9.o (j7 (rf z))⟩
       clear C ch h6 h1 h2 h3 h4 hT E R S ct z bt;go_wp2_with fail
       refine⟨HP.o,?_⟩;simp[intOf];omega
     ·have HX:=Hd (cr.o (Or.inl al));go_wp2_with fail
      go_meet
      case rel=>exact HX.o
    ·have HX:=Hd (cr.o (Or.inr (by omega)));have hp:¬(i:Int)<n:=by omega
     go_wp2_with fail
     go_meet
     case rel=>exact HX.o
  case rest =>
  generalize wc=wf at *;obtain⟨c7,vars,k5,rs,vR,vV,FR,f,k,bk,bl,bn⟩:=hcut;obtain⟨pR,cR,hA⟩:=k.x.b;subst hA;obtain⟨N,fp⟩:=c7;have hm:=k.m;dsimp only at hm;have hX:=f.h;have fz:=M.o.h;have ca:=cb.o;have gN:FK w wf:=⟨f.os.trans (M.o.os.trans q.o.os),f.a.trans (M.o.a.trans q.o.tape),f.c.trans (M.o.c.trans q.o.output),by have:=q.o.size;omega,fun b a=>(f.u b (by have:=q.o.size;omega) (by omega)).trans ((M.o.u b (by have:=q.o.size;omega) (by omega)).trans (q.o.block b a))⟩;obtain⟨aq,bR⟩:=zz2 (bu f gf.o (EN.1 gf.o).1 (fun e=>by omega)) (bu f gg.o (EN.1 gg.o).1 (fun e=>by omega));have Q:=Al fM.o bn;dsimp only at Q;have gO:=Hd gN;have HM:=Hd hm;have hD:=Hd (Rd.y (G:=fun b=>w.heap.size+3≤b∧b<wf.heap.size) (fun b a=>⟨by have:=gD.o b a;omega,(k.dt b a).1⟩) k.t);have hE:=Hd (k.x.K (G:=fun b=>w.heap.size+3≤b∧b<wf.heap.size) (fun b a=>⟨by have:=bl b a;omega,(k.fr b a).1⟩) (fun g hg=>⟨by have:=bk g hg;omega,k.x.lt hg⟩));obtain⟨m0,m1,m2,m3,m4,m5⟩:=cQ hm;clear f k bk bl bn hm gN ca fz cq fI
  by_cases al:N=0
  ·subst al;rw[rv V]at Q;have dc:Hid (eP d T=AF ⟨ts,rs⟩):=er.o.trans Q;have HZ:=Hd (kj aq.o bR.o (show w.heap.size+1≠w.heap.size+2 by omega) (A r ts.length u) (A pR rs.length cR) (I Z 0) (I Z 0));obtain⟨W5,ar⟩:=zzx ((((wf.setCell ⟨w.heap.size+1,0,U⟩ (A r ts.length u)).setCell ⟨w.heap.size+1,1,U⟩ (A pR rs.length cR)).setCell ⟨w.heap.size+1+1,0,U⟩ (I Z 0)).setCell ⟨w.heap.size+1+1,1,U⟩ (I Z 0));have hG:Hid (FK w W5):=by show Below _ _ _;rw[ar];exact (((gO.o.setCell (p:=⟨w.heap.size+1,0,U⟩) (Fl _) _).setCell (p:=⟨w.heap.size+1,1,U⟩) (Fl _) _).setCell (p:=⟨w.heap.size+1+1,0,U⟩) (EU (Fl _) (Fl _)) _).setCell (p:=⟨w.heap.size+1+1,1,U⟩) (EU (Fl _) (Fl _)) _
   have dd:∀b,w.heap.size+3≤b→W5.heap[b]?=wf.heap[b]?:=fun b a=>by
    rw[ar];rw[ER _ _ _ _ (show b≠w.heap.size+1+1 by omega),ER _ _ _ _ (show b≠w.heap.size+1+1 by omega),ER _ _ _ _ (show b≠w.heap.size+1 by omega),ER _ _ _ _ (show b≠w.heap.size+1 by omega)]
   have hI:W5.heap.size=wf.heap.size:=by rw[ar];simp[World.setCell]
   rw[←ar]at HZ;have HP:Hid (jH d (eP d T) w (z8 (CA #[xS #[A r ts.length u,A pR rs.length cR],xS #[I Z 0,I Z 0]])) W5):=by
    refine⟨hG.o,?_⟩;rw[dc.o];exact⟨_,_,V,Rd.y (fun b a=>⟨by have:=a.1;omega,by have:=a.2;omega⟩) (Rd.f (fun b a o ho=>(dd b a.1).trans ho) hD.o),Rd.y (fun b a=>⟨by have:=a.1;omega,by have:=a.2;omega⟩) (Rd.f (fun b a o ho=>(dd b a.1).trans ho) hE.o)⟩
   have c0:wf.cell? ⟨w.heap.size+1,0,U⟩=Y (A U 0 0):=by rw[FI _ _ _ _ _ _ aq.o];rfl
   have c1:wf.cell? ⟨w.heap.size+1,1,U⟩=Y (A U 0 0):=by rw[FI _ _ _ _ _ _ aq.o];rfl
   have d0:wf.cell? ⟨w.heap.size+1+1,0,U⟩=Y (I Z 0):=by rw[FI _ _ _ _ _ _ bR.o];rfl
   have d1:wf.cell? ⟨w.heap.size+1+1,1,U⟩=Y (I Z 0):=by rw[FI _ _ _ _ _ _ bR.o];rfl
   have f1:=aE aq.o;have f2:∀i,wf.frozen? ⟨w.heap.size+1+1,i,U⟩=false:=aE bR.o;have hJ:=Hd ar;clear Q dd hI ar;go_wp2_with fail
   rw[←hJ.o];exact mD V V HZ.o.1 HZ.o.2 HP.o
  ·rw[qv al]at Q;have dc:Hid (eP d T=BT (N,fp)):=er.o.trans Q;clear Q;obtain⟨F,b5⟩:=zzx ((wf.drew.setCell ⟨w.heap.size+1,0,U⟩ (A U 0 0)).setCell ⟨w.heap.size+1,1,U⟩ (A U 0 0));have dg:∀b,b≠w.heap.size+1→F.heap[b]?=wf.heap[b]?:=fun b a=>by
    rw[b5]
    show ((wf.drew.setCell ⟨w.heap.size+1,0,U⟩ (A U 0 0)).setCell ⟨w.heap.size+1,1,U⟩ (A U 0 0)).heap[b]?=_
    rw[ER _ _ _ _ a,ER _ _ _ _ a];rfl
   have gS:F.heap[W2.heap.size]?=_:=(dg _ (by omega)).trans HM.o;have gT:F.heap[w.heap.size+1+1]?=Y (wq #[I Z 0,I Z 0] 35 (0,0)):=(dg _ (by omega)).trans bR.o;have L:F.heap[w.heap.size+1]?=Y (wq #[A U 0 0,A U 0 0] 32 (0,0)):=by
    rw[b5];have h1:(wf.drew.setCell ⟨w.heap.size+1,0,U⟩ (A U 0 0)).heap[w.heap.size+1]?=Y (wq #[A U 0 0,A U 0 0] 32 (0,0)):=heap_set (show wf.drew.heap[w.heap.size+1]?=_ from aq.o) 0 _;have h2:((wf.drew.setCell ⟨w.heap.size+1,0,U⟩ (A U 0 0)).setCell ⟨w.heap.size+1,1,U⟩ (A U 0 0)).heap[w.heap.size+1]?=Y (wq #[A U 0 0,A U 0 0] 32 (0,0)):=heap_set h1 1 _;exact h2
   have ha:FK w F:=by
    rw[b5];exact ((gO.o.drew).setCell (p:=⟨w.heap.size+1,0,U⟩) (Fl _) _).setCell (p:=⟨w.heap.size+1,1,U⟩) (Fl _) _
   obtain⟨n0,n1,n2,n3,n4,n5⟩:=cQ gS;have G0:=fun x:RE.Two wf.drew F=>RE.Two.b (p:=⟨W2.heap.size,4,U⟩) (show wf.drew.cell? ⟨W2.heap.size,4,U⟩=_ from m4) n4 x
   have G1:=fun x:RE.Two wf.drew F=>RE.Two.b (p:=⟨W2.heap.size,5,U⟩) (show wf.drew.cell? ⟨W2.heap.size,5,U⟩=_ from m5) n5 x
   have hY:((N != 0)=true):=by simpa using al
   obtain⟨hL,dp,c5,hM⟩:=zz4 b5 gT L ha;go_upto_region 11 with fail
   clear b5 dg gS gT L ha m0 m1 m2 m3 m4 m5 n0 n1 n2 n3 n4 n5;refine RE.u (by kernel_rfl) 6 [5] [5] (fun s W=>if s=0 then W=wf.drew else W=F) (fun _ _=>True) (fun _ _=>At) (fun _ _ _=>True) (by kernel_rfl) (fun i h1 h2=>by rw[h1]at h2;cases h2) (fun _ _ _ _ _ _ _=>trivial) V ?_;simp only[EY,Fi,EZ,Fh]
   repeat (refine RE.b (fun W=>∃x:RE.Two wf.drew F,W=x.1) RE.z V V V V ?_;go_big_quiet_step (fail);refine wpQuiet_nil ?_)
   refine RE.f V V ?_ (fun xs=>?_)
   ·intro W hC hS _;obtain rfl:W=wf.drew:=hS V;refine RE.C (w':=wf.drew.setCells (w.heap.size+1) 0 [A U 0 0,A U 0 0]) ?_ ⟨[],V,hL.o.symm,trivial,trivial⟩;refine RE.K 32 (.tmp 2) (.tmp 51) V (w.heap.size+1) 0 #[A U 0 0,A U 0 0] V V ?_ (by kernel_rfl) (by simp[Value.oneCell']);intro j hj;have hj:j<2:=hj;have hh:wf.drew.heap[w.heap.size+1]?=_:=aq.o;rw[FI _ _ _ _ _ _ hh,bK hh];have:j=0∨j=1:=by omega
    rcases this with rfl|rfl<;>exact⟨V,V⟩
   simp only[Act.put];refine RE.h ?_;intro W hS _;have hS:W=F:=hS;rw[hS];clear hS G0 G1;refine wpList_store_mid V 35 (.tmp 3) (.tmp 55) V (w.heap.size+1+1) 0 #[I Z N,I Z fp] V V ?_ (by kernel_rfl) (by simp[Value.oneCell']) ?_
   ·intro j hj;have hj:j<2:=hj;rw[FI _ _ _ _ _ _ dp.o,bK dp.o];have:j=0∨j=1:=by omega
    rcases this with rfl|rfl<;>exact⟨V,V⟩
   have b6:((F.setCell ⟨w.heap.size+1+1,0,U⟩ (I Z N)).setCell ⟨w.heap.size+1+1,1,U⟩ (I Z fp)).heap[w.heap.size+1]?=Y (wq #[A U 0 0,A U 0 0] 32 (0,0)):=by
    rw[ER _ _ _ _ (show w.heap.size+1≠w.heap.size+1+1 by omega),ER _ _ _ _ (show w.heap.size+1≠w.heap.size+1+1 by omega)];exact c5.o
   have h1:(F.setCell ⟨w.heap.size+1+1,0,U⟩ (I Z N)).heap[w.heap.size+1+1]?=Y (wq #[I Z N,I Z 0] 35 (0,0)):=heap_set dp.o 0 _;have h2:((F.setCell ⟨w.heap.size+1+1,0,U⟩ (I Z N)).setCell ⟨w.heap.size+1+1,1,U⟩ (I Z fp)).heap[w.heap.size+1+1]?=Y (wq #[I Z N,I Z fp] 35 (0,0)):=heap_set h1 1 _;have hc:FK w ((F.setCell ⟨w.heap.size+1+1,0,U⟩ (I Z N)).setCell ⟨w.heap.size+1+1,1,U⟩ (I Z fp)):=(hM.o.setCell (p:=⟨w.heap.size+1+1,0,U⟩) (EU (Fl _) (Fl _)) _).setCell (p:=⟨w.heap.size+1+1,1,U⟩) (EU (Fl _) (Fl _)) _;obtain⟨HL,H2,hN⟩:=zz3 b6 h2 hc;clear b6 h1 h2 hc;change wpList _ _ _ _ _ ((F.setCell ⟨w.heap.size+1+1,0,U⟩ (I Z N)).setCell ⟨w.heap.size+1+1,1,U⟩ (I Z fp));go_wp2_with fail
   refine mD V V HL.o H2.o ⟨hN.o,?_⟩;rw[dc.o]
def mj(r:Except Flt eL):eL:=match r with | .ok R=>R | .error _=>⟨[],[]⟩
def B6(r:Except Flt eL):Flt:=match r with | .ok _=>(0,0) | .error e=>e
theorem rS{d:Nat}{r:Except Flt eL}{w w':wD}{e:Ending}(h:jH d r w e w'):FK w w'∧∃a b c f,e=z8 (CA #[xS #[A a (mj r).a.length b,A c (mj r).b.length f],xS #[I Z (B6 r).1,I Z (B6 r).2]])∧
  bV.K w' (ai w w') (mj r).a (A a (mj r).a.length b)∧(bX d).K w' (ai w w') (mj r).b (A c (mj r).b.length f):=by
 obtain⟨j,h⟩:=h;refine⟨j,?_⟩
 cases r with
 | ok R =>
  obtain⟨st,m,rfl,g,i⟩:=h;obtain⟨a,b,k⟩:=Rd.b g;obtain⟨c,f,l⟩:=Rd.b i;subst k;subst l;exact⟨a,b,c,f,V,g,i⟩
 | error er =>
  subst h;exact⟨U,0,U,0,V,Rd.vn,Rd.vn⟩
