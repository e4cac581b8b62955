/- Parts of one proof, joined; conditions stand in each theorem. -/
import Derived.Test.YtmpekinjoeibbaaGreatDoorGPA
import Derived.Test.YtmpekinjoeibbaaGreatDoorGX
import Derived.Test.YtmpekinjoeibbaaGreatDoorNO
import Derived.Test.YtmpekinjoeibbaaGreatDoorNX
import Derived.Test.YtmpekinjoeibbaaGreatDoorNZ
open Go renaming World→p7,Value→r3,Calls→r9
open Go.Value renaming int→I,slice→O,bool→ur,agg→s3
open Go.IntKind renaming i64→Y
open Option renaming none→V,some→A
open Go.Ending renaming returned→tF
open Go.Obj renaming cells→p8
open Or renaming inl→tE,inr→tS
open Go.World renaming cell?→xj
open Except renaming ok→vb
namespace Go.Proofs.YtmpekinjoeibbaaGreatDoor
set_option maxHeartbeats 4000000
set_option maxRecDepth 100000
open Go.RowKit
def ua(w:p7) (d:Nat) (c e:bO) (f g:Nat→Prop) (i:r3) (W:p7):Prop:=
 ∃(a:p7) (k:Nat) (L:bA),a=W∧k≤2∧i=I Y k∧FS w a∧gR a w.heap.size w.heap.size L∧
  (∀j,(L j).length≤(if 0<k then cP d c+1 else 0)+(if 1<k then cP d e+1 else 0))∧Got a (fun b=>(0<k∧f b)∨(1<k∧g b)) L
theorem ol{w:p7}{Bt o c d:Nat}{q r:bO}{la lb:r3}{B C:Nat→Prop}(ha:(eT d).lrow 26 w B [q] la)(f:(eT d).lrow 26 w C [r] lb)(P:∀b,B b→Bt≤b∧b<w.heap.size)(Q:∀b,C b→Bt≤b∧b<w.heap.size)(x:∀b,B b→¬C b)
  (ma:cP d q≤19000) (mb:cP d r≤19000) (h0:w.cell? ⟨o,0,V⟩=A la) (h1:w.cell? ⟨o,1,V⟩=A lb) (hB:Bt≤w.heap.size) :
  r9 Tryz.prog 13 #[O (A ⟨o,0,V⟩) 2 c] w fun e w'=>e=tF (ur true)∧Below Bt w w':=by
 obtain⟨pa,ca,rfl⟩:=Rd.b ha.h;obtain⟨pb,cb,rfl⟩:=Rd.b f.h;obtain⟨W0,v⟩:=zzx (w.alloc (p8 (lW fun _=>nl) 131));have R:FS w W0:=by rw[v];exact (EU _ w).alloc (ET _) _
 have y:gR W0 w.heap.size w.heap.size noL:=⟨fun _=>nl,by rw[v];exact ot w _,fun _ _=>World.ownsRow_nil _ _ _ _,ET _⟩;have z:w.alloc (p8 #[O V 0 0,O V 0 0,O V 0 0,O V 0 0,O V 0 0,O V 0 0,O V 0 0,O V 0 0,O V 0 0,O V 0 0,O V 0 0,O V 0 0,O V 0 0,O V 0 0,O V 0 0,O V 0 0,O V 0 0,O V 0 0,O V 0 0,O V 0 0,O V 0 0,O V 0 0,O V 0 0,O V 0 0,O V 0 0,O V 0 0,O V 0 0,O V 0 0,O V 0 0] 131)=W0:=v.symm;obtain⟨HA,HB,H0,H1,af,S,ak⟩:=zz7 ha f h0 h1 R y z;obtain⟨D,E,T⟩:=zz3 P Q x;clear ha f h0 h1 R y v z P Q x
 go_enter Tryz.func13,Tryz.ntmps13
 go_upto_region 2 with fail
 change Code.wp _ _ _ _ (w.alloc (p8 #[O V 0 0,O V 0 0,O V 0 0,O V 0 0,O V 0 0,O V 0 0,O V 0 0,O V 0 0,O V 0 0,O V 0 0,O V 0 0,O V 0 0,O V 0 0,O V 0 0,O V 0 0,O V 0 0,O V 0 0,O V 0 0,O V 0 0,O V 0 0,O V 0 0,O V 0 0,O V 0 0,O V 0 0,O V 0 0,O V 0 0,O V 0 0,O V 0 0,O V 0 0] 131));rw[ak.o];go_wp2_with fail
 go_loopw [4] (ua w d q r B C) (fun i _=>2-(intOf i).toNat)
 case atStart=>exact⟨_,0,noL,Z,by omega,Z,af.o,S.o,fun _=>ET _,Got.no⟩
 case round =>
  obtain⟨W1,k,L,rfl,hk,rfl,s,a,N,U⟩:=hrel;obtain⟨t,F⟩:=zz2 s U;have G:=s.size;have c0:=(s.cell (p:=⟨o,0,V⟩) (World.block_lt_of_cell? _ _ H0.o)).trans H0.o;have c1:=(s.cell (p:=⟨o,1,V⟩) (World.block_lt_of_cell? _ _ H1.o)).trans H1.o;clear s U
  by_cases aq:k=0
  ·subst aq;have g:∀j,(L j).length≤0:=fun j=>by have:=N j;simpa using this
   have W:PIn W1 w.heap.size w.heap.size (cL (cP d) [q]) L:=⟨a,fun j=>by have:=g j;have:cL (cP d) [q]=1+(cP d q+0):=rfl;omega,by have:cL (cP d) [q]=1+(cP d q+0):=rfl;omega,G⟩;have HC:=Hd (kV d [q] Z (O pa 1 ca) B w.heap.size w.heap.size L W1 (Rd.sm (fun b f _ ho=>(t.o.block b (D.o b f).2).trans ho) HA.o) (fun b f=>(D.o b f).2) W);clear N W a;go_wp2_with fail
   refine HC.o.mono ?_;rintro e W2 ⟨rfl,l,u,H,M,X,n2,m,n⟩;have hn:ua w d q r B C (I Y ((0+1:Nat):Int)) W2:=by
    refine⟨W2,1,ej L M,Z,by omega,Z,t.o.trans l,m,fun j=>?_,?_⟩
    ·have a1:=g j;have a2:=X j;have:cL (cP d) [q]=1+(cP d q+0):=rfl;unfold ej;rw[Fl];simp;omega
    ·refine (F.o.t u).append n ?_ ?_ ?_
     ·rintro b (⟨h,_⟩|⟨h,_⟩)<;>omega
     ·exact fun b f=>tE ⟨by omega,f⟩
     ·exact fun j _=>tE (Fy (Nat.le_zero.1 (g j)))
   have K:=Hd hn;clear l u H X n2 m n hn g;go_wp2_with fail
   exact⟨K.o,by simp[intOf]⟩
  ·by_cases ar:k=1
   ·subst ar;have g:∀j,(L j).length≤cP d q+1:=fun j=>by have:=N j;simpa using this
    have W:PIn W1 w.heap.size w.heap.size (cL (cP d) [r]) L:=⟨a,fun j=>by have:=g j;have:cL (cP d) [r]=1+(cP d r+0):=rfl;omega,by have:cL (cP d) [r]=1+(cP d r+0):=rfl;omega,G⟩;have HC:=Hd (kV d [r] Z (O pb 1 cb) C w.heap.size w.heap.size L W1 (Rd.sm (fun b f _ ho=>(t.o.block b (E.o b f).2).trans ho) HB.o) (fun b f=>(E.o b f).2) W);clear N W a;go_wp2_with fail
    refine HC.o.mono ?_;rintro e W2 ⟨rfl,l,u,H,M,X,n2,m,n⟩;have hn:ua w d q r B C (I Y ((1+1:Nat):Int)) W2:=by
     refine⟨W2,2,ej L M,Z,by omega,Z,t.o.trans l,m,fun j=>?_,?_⟩
     ·have a1:=g j;have a2:=X j;have:cL (cP d) [r]=1+(cP d r+0):=rfl;unfold ej;rw[Fl];simp;omega
     ·refine (F.o.t u).append n ?_ ?_ ?_
      ·rintro b (⟨_,h⟩|⟨h,_⟩)
       ·exact tE ⟨by omega,h⟩
       ·omega
      ·exact fun b f=>tS ⟨by omega,f⟩
      ·refine fun j _=>tS (tS fun b f hf=>?_)
       rcases f with ⟨_,h⟩|⟨h,_⟩
       ·exact T.o b h hf
       ·omega
    have K:=Hd hn;clear l u H X n2 m n hn g;go_wp2_with fail
    exact⟨K.o,by simp[intOf]⟩
   ·obtain rfl:k=2:=by omega
    have ad:=uC a F.o (fun b f=>by
     rcases f with ⟨_,h⟩|⟨_,h⟩
     ·exact (D.o b h).1
     ·exact (E.o b h).1) (fun j=>by have:=N j;simp at this;omega) (EZ hB G)
    have av:=Hd ad;clear ad N a;go_wp2_with fail
    refine av.o.mono ?_;rintro e W2 ⟨rfl,l⟩;have HF:=Hd ((t.o.mono hB).trans l);clear l;go_wp2_with fail
    go_ret;exact⟨Z,HF.o⟩
def ep(g:Nat):Value:=O (A ⟨g,0,V⟩) 1 1
structure rk (w:p7) (tab:List (r3×r3)) (k:Nat) (gs:List Nat) (u:r3) (W:p7):Prop where
 C:FS w W
 own:W.ownsRow w.heap.size 34 1 u k (gs.map ep)
 up:gs.Pairwise (· < ·)
 b:∀(i:Nat) (g:Nat),gs[i]?=A g→w.heap.size≤g∧g<W.heap.size∧∃x y,tab[i]?=A (x,y)∧W.heap[g]?=A (p8 #[x,y] 26 (0,0))
theorem rk.len{w W:p7}{tab:List (r3×r3)}{k:Nat}{gs:List Nat}{u:r3}(h:rk w tab k gs u W):gs.length=k:=by
 have:=h.own.1
 simpa using this
theorem rk.h{w W W2:p7}{tab:List (r3×r3)}{k:Nat}{gs:List Nat}{u v x y:r3}(h:rk w tab k gs u W)(z:tab[k]?=A (x,y))(B:W2.ownsRow w.heap.size 34 1 v (k+1) (gs.map ep++[ep W.heap.size]))
  (c:Gone ((W.alloc (p8 #[x,y] 26)).alloc (p8 #[ep W.heap.size] 34)) W2 u v k 1):rk w tab (k+1) (gs++[W.heap.size]) v W2:=by
 have m:FS W ((W.alloc (p8 #[x,y] 26)).alloc (p8 #[ep W.heap.size] 34)):=((EU _ W).alloc (ET _) _).alloc (by simp) _;obtain⟨C,_,_⟩:=ay W (p8 #[x,y] 26) (p8 #[ep W.heap.size] 34);have n:((W.alloc (p8 #[x,y] 26)).alloc (p8 #[ep W.heap.size] 34)).heap.size=W.heap.size+2:=by simp
 have q:=eH h.own;have o:=h.C.size;have r:Chg (fun b=>u.ownBlock=A b) W W2:=gk (Chg.b m) (fun g c=>tE c) c;have f:∀(b:Nat) (cs:Array r3),((W.alloc (p8 #[x,y] 26)).alloc (p8 #[ep W.heap.size] 34)).heap[b]?=A (p8 cs 26 (0,0))→W2.heap[b]?=A (p8 cs 26 (0,0)):=by
  intro b cs l;rcases c with ⟨g,cap,hv,_,c⟩|⟨cap,_,c⟩
  ·refine aJ c l fun e=>?_
   injection e with e
   subst e;obtain⟨N,t⟩:=fQ h.own (g:=b) (by rw[hv];rfl);have d:=(m.block b (ES.1 t).1).trans t;rw[l]at d;injection d with d
   injection d with _ d
   exact absurd d (by decide)
  ·exact (c.block b (ES.1 l).1).trans l
 refine⟨Chg.C h.C r (fun i j=>(q i j).1) o,by rw[List.map_append];exact B,?_,fun i g j=>?_⟩
 ·refine List.pairwise_append.2 ⟨h.up,List.pairwise_singleton _ _,fun a D b q=>?_⟩;rw[List.mem_singleton.1 q];obtain⟨i,j⟩:=List.getElem?_of_mem D;exact (h.b i a j).2.1
 ·have E:W.heap.size+2≤W2.heap.size:=by
   rcases c with ⟨_,_,_,_,c⟩|⟨_,_,c⟩
   ·rw[←n];exact c.size
   ·rw[←n];exact c.size
  by_cases s:i<gs.length
  ·rw[FM s]at j;obtain⟨F,G,H,K,L,M⟩:=h.b i g j;exact⟨F,by omega,H,K,L,f g _ ((m.block g G).trans M)⟩
  ·have p:=(Fo.1 j).1;rw[Fl,FP]at p;obtain rfl:i=gs.length:=by omega
   rw[FA (ET _),Nat.sub_self]at j;simp only[List.getElem?_cons_zero,oF]at j;subst j;exact⟨o,by omega,x,y,by rw[h.len];exact z,f _ _ C⟩
def EK(w:p7) (tab:List (r3×r3)) (u i:r3) (W:p7):Prop:=
 ∃(a:p7) (k:Nat) (gs:List Nat),a=W∧k≤2∧i=I Y k∧rk w tab k gs u a
theorem tY{w W:p7}{d g:Nat}{F:Nat→Prop}{R:bO}{x y:r3}(a:(eT d).at_ w F R [x,y])(hF:∀b,F b→b<w.heap.size)(l:FS w W)(q:w.heap.size≤g)(h:W.heap[g]?=A (p8 #[x,y] 26 (0,0))):(eT d).lrow 26 W (fun b=>F b∨b=g) [R] (ep g):=by
 refine⟨[x,y],F,⟨Z,tS ⟨g,1,_,Z,Fi _,h,ET _,by unfold maxLen;omega,Z,Z⟩⟩,⟨fun i b=>i=0∧F b,fun _ _ h=>h.2,fun i j _ c n=>c.1.trans n.1.symm,Z,fun i z k=>?_⟩,fun _ h=>tE h,fun o e=>?_⟩
 ·have c:i=0:=by
   have:=(Fo.1 k).1
   simpa using this
  subst c;obtain rfl:R=z:=by simpa using k
  refine⟨[x,y],(eT d).N (fun _ h=>⟨Z,h⟩) ((eT d).t (fun b f _ p=>(l.block b (hF b f)).trans p) a),fun m u hu=>?_⟩;rw[Nat.zero_mul,Nat.zero_add];exact hu
 ·have:g=o:=by simpa [ep,Value.ownBlock]using e
  subst this;exact⟨tS Z,fun f=>by have:=hF g f;omega⟩
theorem xT:(Tryz.prog.info? 34).map (fun i=>(i.zero,i.size,i.bytes))=A (A (O V 0 0),1,24):=by kernel_rfl
theorem DJ{W:p7}{b:Nat}{c0 c1 c2 a:r3}{t:TypeId}(h:W.heap[b]?=A (p8 #[c0,c1,c2,a] t (0,0))):W.cell? ⟨b,0,V⟩=A c0∧W.cell? ⟨b,1,V⟩=A c1∧W.cell? ⟨b,2,V⟩=A c2∧W.cell? ⟨b,3,V⟩=A a:=by refine⟨by simp[xj,h],by simp[xj,h],by simp[xj,h],by simp[xj,h]⟩
theorem rE{w:p7}{W o c d:Nat}{Ra Rb:bO}{X ya xb yb:r3}{Fa Fb:Nat→Prop}(ha:(eT d).at_ w Fa Ra [X,ya])(r:(eT d).at_ w Fb Rb [xb,yb])(L:∀b,Fa b→W≤b∧b<w.heap.size)(M:∀b,Fb b→W≤b∧b<w.heap.size)(y:∀b,Fa b→¬Fb b)
  (ma:cP d Ra≤19000) (mb:cP d Rb≤19000) (hc:w.heap[o]?=A (p8 #[X,ya,xb,yb] 26 (0,0))) (hB:W≤w.heap.size) :
  r9 Tryz.prog 7 #[O (A ⟨o,0,V⟩) 2 c] w fun e w'=>e=tF (ur true)∧Below W w w':=by
 obtain⟨p0,n0,q0,rfl⟩:∃p n q,X=O p n q:=by
  obtain⟨_,_,e,⟨v,rfl,h⟩,_⟩:=ha;obtain⟨p,q,rfl⟩:=Rd.b h.h;injection e with e _
  exact⟨_,_,_,e⟩
 obtain⟨p1,n1,q1,rfl⟩:∃p n q,ya=O p n q:=by
  obtain⟨_,_,e,⟨v,rfl,_⟩,⟨v2,rfl,h⟩⟩:=ha;obtain⟨p,q,rfl⟩:=Rd.b h.h;injection e with _ e
  injection e with e _
  exact⟨_,_,_,e⟩
 obtain⟨p2,n2,q2,rfl⟩:∃p n q,xb=O p n q:=by
  obtain⟨_,_,e,⟨v,rfl,h⟩,_⟩:=r;obtain⟨p,q,rfl⟩:=Rd.b h.h;injection e with e _
  exact⟨_,_,_,e⟩
 obtain⟨p3,n3,q3,rfl⟩:∃p n q,yb=O p n q:=by
  obtain⟨_,_,e,⟨v,rfl,_⟩,⟨v2,rfl,h⟩⟩:=r;obtain⟨p,q,rfl⟩:=Rd.b h.h;injection e with _ e
  injection e with e _
  exact⟨_,_,_,e⟩
 obtain⟨ti,N,P,Q,R⟩:=info_parts xT;obtain⟨tab,z⟩:∃tab:List (r3×r3),tab=[(O p0 n0 q0,O p1 n1 q1),(O p2 n2 q2,O p3 n3 q3)]:=⟨_,rfl⟩;obtain⟨t,HA,HB,HC,B,C,S⟩:=zz7 z ha r hc L M y;clear ha r hc L M y z
 go_enter Tryz.func7,Tryz.ntmps7
 go_wp2_with fail
 go_loopw [3,4] (EK w tab) (fun _ i _=>2-(intOf i).toNat)
 case atStart=>exact⟨_,0,[],Z,by omega,Z,EU _ _,World.ownsRow_nil _ _ _ _,List.Pairwise.nil,fun i g h=>by simp at h⟩
 case round =>
  obtain⟨u,k,gs,rfl,hk,rfl,x⟩:=hrel;obtain⟨m,s⟩:=zz2 x x.own;have ad:=x.C.size;obtain⟨c0,c1,c2,c3⟩:=DJ ((x.C.block o (ES.1 HC.o).1).trans HC.o);clear x
  by_cases af:k=0
  ·subst af;have D:=Hd (rR u (p8 #[O p0 n0 q0,O p1 n1 q1] 26) [ep u.heap.size] 34);go_wp2_with (at_builtin;go_must (refine aA _ Z (.tmp 11) (.tmp 17) 70 Z w.heap.size 34 ti _ 1 24 Tryz.underlying70 N P Q R Z (by decide) u3 0 (gs.map ep) Z ((s.o.alloc _).alloc _) ⟨u.heap.size+1,0,V⟩ 1 1 [ep u.heap.size] Z Z D.o (by simp[ep,Value.oneCell']) (by unfold maxLen;omega) (by omega) (by simp;omega) (by decide) ?_);intro v9 W2 j f;have E:=Hd (m.o.h (by rw[t.o];rfl) j f);clear j f)
   exact⟨⟨_,1,_,Z,by omega,Z,E.o⟩,by simp[intOf]⟩
  ·by_cases ak:k=1
   ·subst ak;have D:=Hd (rR u (p8 #[O p2 n2 q2,O p3 n3 q3] 26) [ep u.heap.size] 34);go_wp2_with (at_builtin;go_must (refine aA _ Z (.tmp 11) (.tmp 17) 70 Z w.heap.size 34 ti _ 1 24 Tryz.underlying70 N P Q R Z (by decide) u3 1 (gs.map ep) Z ((s.o.alloc _).alloc _) ⟨u.heap.size+1,0,V⟩ 1 1 [ep u.heap.size] Z Z D.o (by simp[ep,Value.oneCell']) (by unfold maxLen;omega) (by omega) (by simp;omega) (by decide) ?_);intro v9 W2 j f;have E:=Hd (m.o.h (by rw[t.o];rfl) j f);clear j f)
    exact⟨⟨_,2,_,Z,by omega,Z,E.o⟩,by simp[intOf]⟩
   ·obtain rfl:k=2:=by omega
    have hl:=m.o.len;obtain⟨G,H,rfl⟩:∃G H,gs=[G,H]:=by
     match gs,hl with
     | [a,b],_=>exact⟨a,b,Z⟩
    obtain⟨a1,a2,X,ya,a3,a4⟩:=m.o.b 0 G Z;obtain⟨b1,b2,xb,yb,b3,b4⟩:=m.o.b 1 H Z;have aq:G<H:=by have:=m.o.up;simpa using this
    rw[t.o]at a3 b3;simp only[List.getElem?_cons_zero,FN,oF,o6]at a3 b3;obtain⟨rfl,rfl⟩:=a3;obtain⟨rfl,rfl⟩:=b3;obtain⟨h,cap,cur,rfl,hh,F⟩:∃h cap cur,u3=O (A ⟨h,0,V⟩) 2 cap∧u.heap[h]?=A (p8 cur 34 (0,0))∧cur.toList.take (2*1)=[ep G,ep H]:=by
     rcases s.o.2 with ⟨_,h0⟩|⟨h,cap,cur,e,_,h1,_,_,_,h2⟩
     ·omega
     ·exact⟨h,cap,cur,e,h1,h2⟩
    have d0:u.cell? ⟨h,0,V⟩=A (ep G):=by
     have:=o9 (fun l=>l[0]?) F;rw[FR _ _ _ _ _ _ hh]
     simpa using this
    have d1:u.cell? ⟨h,1,V⟩=A (ep H):=by
     have:=o9 (fun l=>l[1]?) F;rw[FR _ _ _ _ _ _ hh]
     simpa using this
    have T:=Hd (ol (c:=cap) (tY HA.o (fun b r=>(B.o b r).2) m.o.C a1 a4) (tY HB.o (fun b r=>(C.o b r).2) m.o.C b1 b4)
     (fun b r=>by
      rcases r with r|rfl
      ·have:=B.o b r;omega
      ·omega) (fun b r=>by
      rcases r with r|rfl
      ·have:=C.o b r;omega
      ·omega) (fun b hx K=>by
      rcases hx with hx|rfl
      ·rcases K with K|rfl
       ·exact S.o b hx K
       ·have:=(B.o b hx).2;omega
      ·rcases K with K|rfl
       ·have:=(C.o b K).2;omega
       ·omega) ma mb d0 d1 (EZ hB ad))
    have ar:=Hd (m.o.C.mono hB);clear a4 b4 aq hh F d0 d1 c0 c1 c2 c3 s m;go_wp2_with fail
    refine T.o.mono ?_;rintro e W2 ⟨rfl,U⟩;have HF:=Hd (ar.o.trans U);clear U;go_wp2_with fail
    go_ret;exact⟨Z,HF.o⟩
theorem pU:∀(l:List Nat) (c:Nat),l.foldl (· + ·) c=c+l.sum
 | [],_=>by simp
 | x::l,c=>by rw[List.foldl_cons,pU l (c+x),List.sum_cons];omega
theorem nW(d:Nat)(T:ah):bw (d+1) T=1+(T.u.map (bw d)).sum:=pU _ 1
theorem mX(d:Nat)(T:ah):1≤bw d T:=by
 cases d with
 | zero=>exact ET _
 | succ d=>rw[nW];omega
theorem CS:∀(l:List Nat) (c x:Nat),x∈l∨x≤c→x≤l.foldl Nat.max c
 | [],c,x,h=>by
   rcases h with h|h;· cases h
   ·exact h
 | y::l,c,x,h=>by
  rw[List.foldl_cons];refine CS l _ x ?_;rcases h with h|h
  ·rcases FK.1 h with rfl|h
   ·exact tS (Nat.le_max_right c x)
   ·exact tE h
  ·exact tS (EZ h (Nat.le_max_left c y))
theorem qE:∀(d:Nat) (T:ah),dU (d+1) T≤d+1→dn d T
 | 0,T,h=>by
  cases a:T.u with
  | nil=>exact a
  | cons k l =>
   have b:dU 0 k≤(T.u.map (dU 0)).foldl Nat.max 0:=CS _ _ _ (tE (List.mem_map.2 ⟨k,by rw[a];exact List.mem_cons_self,Z⟩));have c:(T.u.map (dU 0)).foldl Nat.max 0+1≤1:=h;have e:dU 0 k=1:=rfl;omega
 | d+1,T,h=>fun k a=>by
  have b:dU (d+1) k≤(T.u.map (dU (d+1))).foldl Nat.max 0:=CS _ _ _ (tE (List.mem_map.2 ⟨k,a,Z⟩));have c:(T.u.map (dU (d+1))).foldl Nat.max 0+1≤d+1+1:=h;exact qE d k (by omega)
theorem pS:∀(d:Nat) (T:ah),dn d T→bw (d+1) T=bw d T
 | 0,T,h=>by rw[nW,show T.u=[] from h];rfl
 | d+1,T,h=>by rw[nW (d+1),nW d,List.map_congr_left fun k a=>pS d k (h k a)]
theorem lR(d:Nat)(T:ah)(h:dn d T):bw d T=1+(T.u.map (bw d)).sum:=by rw[←nW,pS d T h]
theorem sB{d:Nat}{T k:ah}(he:dn d T)(a:k∈T.u):dn d k:=by
 cases d with
 | zero=>have he:T.u=[]:=he;rw[he]at a;cases a
 | succ d=>exact dn.y d k (he k a)
theorem i7{σ α:Type}{f:σ→α→Except Flt σ}(b:σ→Nat)(m:α→Nat):∀(l:List α) (s a:σ),(∀x∈l,∀s a,f s x=vb a→b a≤b s+m x)→bs f s l=vb a→b a≤b s+(l.map m).sum
 | [],s,a,_,h=>by injection h with h;subst h;simp
 | x::l,s,a,c,h=>by
  unfold bs at h
  split at h
  ·cases h
  ·rename_i s1 d
   have g:=c x List.mem_cons_self s s1 d;have i:=i7 b m l s1 a (fun y e=>c y (List.mem_cons_of_mem _ e)) h;rw[List.map_cons,List.sum_cons];omega
theorem mH{α β:Type}{f:α→Except Flt β}{l:List α}{ys:List β}(c:β→Nat)(m:α→Nat)(a:∀x∈l,∀y,f x=vb y→c y≤m x)(h:dx f l=vb ys):(ys.map c).sum≤(l.map m).sum:=by
 have:=i7 (fun ys:List β=>(ys.map c).sum) m l [] ys (fun x b s e h=>?_) h
 ·simpa using this
 ·split at h
  ·cases h
  ·rename_i y d
   injection h with h
   subst h;have:=a x b y d;simp only[List.map_append,List.sum_append,List.map_cons,List.map_nil,List.sum_cons,List.sum_nil];omega
theorem ra(d:Nat)(k:Int)(v:i4)(x o:Int):cE d (.mk k v x o [])=1:=by cases d<;>rfl
theorem tD{vars:List ByteArray}:∀(d:Nat) (T:ah) (e:aw),bo vars d T=vb e→cE d e≤bw d T
 | 0,_,_,_=>ET _
 | d+1,T,e,h=>by
  have b:=mX (d+1) T;rw[bo]at h;dsimp only at h
  split at h
  ·injection h with h;subst h;rw[ra];exact b
  ·split at h
   ·split at h
    ·injection h with h;subst h;rw[ra];exact b
    ·cases h
   ·split at h
    ·cases h
    ·rename_i c a
     injection h with h
     subst h;have g:=mH (cE d) (bw d) (fun x _ y f=>tD d x y f) a;rw[nW]
     show 1+(List.map (cE d) (if _ then c.reverse else c)).sum≤_
     split
     ·rw[List.map_reverse,List.sum_reverse];omega
     ·omega
theorem Cu{binds:Bool}{l:List ah}{s a:List ByteArray×List dF}(h:bs (dD binds) s l=vb a):a.2.length≤s.2.length+(l.map fun _=>1).sum:=by
 refine i7 (fun s:List ByteArray×List dF=>s.2.length) (fun _=>1) l s a (fun x _ s a h=>?_) h;unfold dD at h
 split at h
 ·injection h with h;subst h;simp
 ·split at h
  ·split at h
   ·injection h with h;subst h;simp
   ·split at h
    ·cases h
    ·split at h
     ·cases h
     ·injection h with h;subst h;simp
  ·injection h with h;subst h;simp
theorem qX(d:Nat):∀l:List ah,(l.map fun _=>1).sum≤(l.map (bw d)).sum
 | []=>ET _
 | x::l=>by
  have:=qX d l;have:=mX d x;simp only[List.map_cons,List.sum_cons];omega
theorem oR{α:Type}:∀l:List α,(l.map fun _=>1).sum=l.length
 | []=>rfl
 | _::l=>by rw[List.map_cons,List.sum_cons,oR l,FC];omega
def cS(d:Nat) (s:RSt):Nat:=(s.d.map (cC d)).sum+(s.e.map (cA d)).sum
theorem xk(d:Nat)(v:List ByteArray)(cs:List aK)(ac:List bm)(c:aK):cS d ⟨v,cs++[c],ac⟩=(cs.map (cC d)).sum+(ac.map (cA d)).sum+cC d c:=by simp only[cS,List.map_append,List.sum_append,List.map_cons,List.map_nil,List.sum_cons,List.sum_nil];omega
theorem qu(d:Nat)(v:List ByteArray)(cs:List aK)(ac:List bm)(a:bm):cS d ⟨v,cs,ac++[a]⟩=(cs.map (cC d)).sum+(ac.map (cA d)).sum+cA d a:=by simp only[cS,List.map_append,List.sum_append,List.map_cons,List.map_nil,List.sum_cons,List.sum_nil];omega
theorem B9{d:Nat}{types:List ap}{T:ah}(he:dn d T){s e:RSt}(h:dy d types s T=vb e):cS d e≤cS d s+2*bw d T:=by
 have n:=mX d T;have hm:=lR d T he;have o:cS d s=(s.d.map (cC d)).sum+(s.e.map (cA d)).sum:=rfl;unfold dy at h
 split at h
 ·split at h
  ·cases h
  ·split at h
   ·cases h
   ·rename_i r f
    injection h with h
    subst h;have b:=Cu f;have p:=qX d T.u;rw[xk];have g:cE d aw.zero=1:=ra d _ _ _ _;have i:=fun xs:List dF=>oR xs
    have:∀k t:Int,cC d ⟨k,t,r.2,.zero⟩=1+(r.2.map fun _=>1).sum+cE d aw.zero:=fun _ _=>rfl
    rw[this,g,i];simp only[List.length_nil]at b;omega
 ·split at h
  ·split at h
   ·injection h with h;subst h;omega
   ·rename_i t l j
    split at h
    ·cases h
    ·rename_i x m
     injection h with h
     subst h;have b:=tD d t x m;rw[xk];have:cC d ⟨3,0,[],x⟩=1+0+cE d x:=rfl;rw[j]at hm;simp only[List.map_cons,List.sum_cons]at hm;omega
  ·split at h
   ·split at h
    ·cases h
    ·split at h
     ·cases h
     ·rename_i xs a
      injection h with h
      subst h;have b:=mH (cE d) (bw d) (fun x _ y c=>tD d x y c) a;rw[qu];have:∀t:Int,cA d ⟨1,t,0,xs⟩=1+(xs.map (cE d)).sum:=fun _=>rfl
      rw[this];omega
   ·split at h
    ·split at h
     ·cases h
     ·injection h with h
      subst h;rw[qu];have:cA d ⟨2,0,T.q-1,[]⟩=1:=rfl;omega
    ·split at h
     ·split at h
      ·cases h
      ·rename_i xs a
       injection h with h
       subst h;have b:=mH (cE d) (bw d) (fun x _ y c=>tD d x y c) a;rw[qu];have:cA d ⟨3,0,0,xs⟩=1+(xs.map (cE d)).sum:=rfl;omega
     ·injection h with h
      subst h;rw[qu];have:cA d ⟨4,0,0,[]⟩=1:=rfl;omega
theorem rG(d:Nat):∀l:List ah,(l.map fun T=>2*bw d T).sum=2*(l.map (bw d)).sum
 | []=>rfl
 | x::l=>by simp only[List.map_cons,List.sum_cons,rG d l];omega
theorem CL{d:Nat}{types:List ap}{T:ah}(he:dn d T){rs a:List au}(h:i3 d types rs T=vb a):(a.map (cR d)).sum≤(rs.map (cR d)).sum+2*bw d T:=by
 have hm:=lR d T he;unfold i3 at h
 split at h
 ·split at h
  ·cases h
  ·split at h
   ·cases h
   ·split at h
    ·cases h
    ·split at h
     ·cases h
     ·rename_i s b
      injection h with h
      subst h;have c:=i7 (cS d) (fun T=>2*bw d T) T.u ⟨[],[],[]⟩ s (fun x e s f h=>B9 (sB he e) h) b;rw[rG]at c;have g:cS d ⟨[],[],[]⟩=0:=rfl;have i:cR d ⟨T.h,T.q,s.b.length,s.d,s.e⟩=(1+(s.d.map (cC d)).sum)+(1+(s.e.map (cA d)).sum):=rfl;have j:cS d s=(s.d.map (cC d)).sum+(s.e.map (cA d)).sum:=rfl;simp only[List.map_append,List.sum_append,List.map_cons,List.map_nil,List.sum_cons,List.sum_nil];omega
 ·injection h with h
  subst h;omega
theorem BN{ts a:List ap}{T:ah}(h:i5 ts T=vb a):a.length≤ts.length+1:=by
 unfold i5 at h
 split at h
 ·split at h
  ·cases h
  ·split at h
   ·cases h
   ·split at h
    ·cases h
    ·injection h with h;subst h;simp
 ·injection h with h;subst h;omega
theorem Ci{d:Nat}{T:ah}{R:bO}(he:dn d T)(h:mi d T=vb R):cP d R≤2+3*bw d T:=by
 have hm:=lR d T he;unfold mi at h
 split at h
 ·cases h
 ·rename_i ts a
  split at h
  ·cases h
  ·rename_i rs b
   injection h with h
   subst h;have e:=i7 List.length (fun _=>1) T.u [] ts (fun x _ s f h=>BN h) a;have c:=i7 (fun rs:List au=>(rs.map (cR d)).sum) (fun T=>2*bw d T) T.u [] rs (fun x g s f h=>CL (sB he g) h) b;rw[rG]at c;have i:=qX d T.u;have j:=oR ts;have k:cP d ⟨ts,rs⟩=(1+(ts.map fun _=>1).sum)+(1+(rs.map (cR d)).sum):=rfl;simp only[List.length_nil,List.map_nil,List.sum_nil]at e c;omega
theorem BV{T:ah}{R:bO}(h:iK 30 T=vb R):cP 30 R≤12290:=by
 unfold iK at h
 split at h
 ·rename_i a
  unfold iO at a;simp only[Fp,oE]at a;have:=Ci (d:=30) (dn.y 29 T (qE 29 T a.1.2)) h;omega
 ·cases h
def apR(r:Except Flt bO):bO:=match r with | .ok R=>R | .error _=>⟨[],[]⟩
def apF(r:Except Flt bO):Flt:=match r with | .ok _=>(0,0) | .error e=>e
theorem tO{d:Nat}{r:Except Flt bO}{w w':p7}{e:Ending}(h:kL d r w e w'):FS w w'∧∃a b c f,e=tF (Value.tuple #[s3 #[O a (apR r).a.length b,O c (apR r).b.length f],s3 #[I Y (apF r).1,I Y (apF r).2]])∧
  (eT d).at_ w' (aW w w') (apR r) [O a (apR r).a.length b,O c (apR r).b.length f]:=by
 obtain⟨j,h⟩:=h;refine⟨j,?_⟩
 cases r with
 | ok R =>
  obtain⟨st,m,rfl,g,i⟩:=h;obtain⟨a,b,k⟩:=Rd.b g.h;obtain⟨c,f,l⟩:=Rd.b i.h;subst k;subst l;exact⟨a,b,c,f,Z,[_],[_],Z,⟨_,Z,g⟩,⟨_,Z,i⟩⟩
 | error er =>
  subst h;exact⟨V,0,V,0,Z,[_],[_],Z,⟨_,Z,Rd.tk⟩,⟨_,Z,Rd.tk⟩⟩
theorem sD{d:Nat}{w:p7}{F:Nat→Prop}{R:bO}{vs:List r3}(h:(eT d).at_ w F R vs):(ko d).at_ w F R vs:=by
 obtain⟨us,ws,rfl,⟨st,rfl,a⟩,⟨b,rfl,c⟩⟩:=h;exact md.2 ⟨st,b,Z,a.h,kf (nN d) (fun h=>pn h) c.h⟩
theorem yi(s:ByteArray):cP 30 (apR (ew s))≤19000:=by
 cases h:ew s with
 | error er=>exact show cP 30 ⟨[],[]⟩≤19000 by decide
 | ok R =>
  unfold ew at h
  split at h
  ·have:=BV h
   show cP 30 R≤19000
   omega
  ·cases h
theorem kR{w w':p7}{b:Nat}(h:aW w w' b):b<w'.heap.size:=h.2
theorem rr(s:ByteArray)(w:p7)(ht:aM w):r9 Tryz.prog 3 #[Value.string s] w (ao true w):=by
 have HA:=Hd (zl _ ht);have HT:=Hd (fun W (M:FS w W)=>ht.C M);clear ht
 go_enter Tryz.func3,Tryz.ntmps3
 go_wp2_with fail
 refine Ff HA.o ?_;rintro e w3 ⟨rfl,a1⟩;have i:=Hd a1;have N:=Hd (fun W (M:FS w W)=>qk s W (HT.o W M));obtain⟨r,hr⟩:=zzy (ew s);have j:=yi s;rw[hr]at N j;have G:=Hd j;clear a1 HA hr j
 by_cases h9:(s.size:Int)≤3000
 ·go_wp2_with fail
  refine (N.o w3 i.o).mono ?_;intro e w4 k;obtain⟨p,q,t,u,v,rfl,P⟩:=tO k;obtain⟨a,Q⟩:=zzy ((apR r).a.length);obtain⟨c,R⟩:=zzy ((apR r).b.length);obtain⟨⟨fe,fp⟩,S⟩:∃x,apF r=x:=⟨_,rfl⟩;rw[Q,R]at P ⊢;rw[S];dsimp only;obtain⟨bR,b1,b2,b3⟩:=zz4 Q R S P;obtain⟨T,y⟩:=zzx (((w4.alloc (p8 #[O q a t,O u c v] 26)).alloc (p8 #[I Y fe,I Y fp] 29)));have U:FS w4 T:=by rw[y];exact gi w4 _ _
  obtain⟨X,z,_⟩:=ay w4 (p8 #[O q a t,O u c v] 26) (p8 #[I Y fe,I Y fp] 29);rw[←y]at X z;have a6:w4.heap.size+1<T.heap.size:=(ES.1 z).1;have b4:=p.size;have H:=p.trans (U.mono p.size);obtain⟨ad,b5,b6,a7,a8⟩:=zz5 (i.o.trans (H.mono i.o.size)) X z U y;clear p U X z H P k Q R S y;go_upto_region 6 with fail
  change Code.wp _ _ _ _ ((w4.alloc (p8 #[O q a t,O u c v] 26)).alloc (p8 #[I Y fe,I Y fp] 29));rw[←a8.o];clear a8;go_wp2_with fail
  refine (N.o T ad.o).mono ?_;intro e K k;obtain⟨B,pu,C,D,E,rfl,af⟩:=tO k;rw[bR.o,b1.o]at af ⊢;rw[b2.o];dsimp only;have b7:=Hd af;obtain⟨m,F⟩:=zzx (((K.alloc (p8 #[O pu a C,O D c E] 26)).alloc (p8 #[I Y fe,I Y fp] 29)));have ak:FS K m:=by rw[F];exact gi K _ _
  obtain⟨X,z,_⟩:=ay K (p8 #[O pu a C,O D c E] 26) (p8 #[I Y fe,I Y fp] 29);rw[←F]at X z;have ck:K.heap.size+1<m.heap.size:=(ES.1 z).1;have d:=B.trans (ak.mono B.size);have cl:=B.size;obtain⟨ba,aq,b8,ar,b9,g,bb⟩:=zz7 (ad.o.trans (d.mono ad.o.size)) X z (ag d b5.o (by omega)) (ag d b6.o a6) ak F;have k4:Hid (FS w4 m):=a7.o.trans (d.mono a7.o.size);have ca:w3.heap.size≤w4.heap.size:=b4;have cb:w4.heap.size≤T.heap.size:=by omega
  clear B ak X z d af k F;go_upto_region 7 with fail
  change Code.wp _ _ _ _ ((K.alloc (p8 #[O pu a C,O D c E] 26)).alloc (p8 #[I Y fe,I Y fp] 29));rw[←bb.o];clear bb;obtain⟨x0,x1,_,_⟩:=dQ ar.o;obtain⟨y0,y1,_,_⟩:=dQ b9.o;obtain⟨z0,z1,_,_⟩:=dQ aq.o;obtain⟨v0,v1,_,_⟩:=dQ b8.o;have bc:Hid (∀W,FS w4 W→(eT 30).at_ W (aW w3 w4) (apR r) [O q a t,O u c v]):=fun W M=>(eT 30).t (fun b f _ ho=>(M.block b (kR f)).trans ho) b3.o
  have bd:Hid (∀W,FS K W→(eT 30).at_ W (aW T K) (apR r) [O pu a C,O D c E]):=fun W M=>(eT 30).t (fun b f _ ho=>(M.block b (kR f)).trans ho) b7.o
  have l:Hid (r9 Tryz.prog 6 #[s3 #[O q a t,O u c v],s3 #[O pu a C,O D c E]] m (cn m)):=
   mZ 30 (apR r) _ _ m ((ko 30).N (fun b f=>EY (kR f) k4.o.size) (sD (bc.o m k4.o))) ((ko 30).N (fun b f=>EY (kR f) g.o.size) (sD (bd.o m g.o)))
  go_wp2_with fail
  refine Ff l.o ?_;rintro e L ⟨rfl,h⟩;have av:=Hd (ba.o.trans (h.mono ba.o.size));have bk:=ag h ar.o (ES.1 ar.o).1;have bl:=ag h aq.o (ES.1 aq.o).1;have bn:Hid (r9 Tryz.prog 7 #[O (A ⟨L.heap.size,0,V⟩) 2 2] (L.alloc (p8 #[O q a t,O u c v,O pu a C,O D c E] 26)) (fun e w'=>e=tF (ur true)∧Below w.heap.size (L.alloc (p8 #[O q a t,O u c v,O pu a C,O D c E] 26)) w')):=by
   have bq:FS L (L.alloc (p8 #[O q a t,O u c v,O pu a C,O D c E] 26)):=(EU _ L).alloc (ET _) _;have br:=h.trans (bq.mono h.size);have h4:=k4.o.trans (br.mono k4.o.size);have h7:=g.o.trans (br.mono g.o.size);have bt:=i.o.size;exact rE (bc.o _ h4) (bd.o _ h7) (fun b f=>⟨EZ bt f.1,EY f.2 h4.size⟩) (fun b f=>⟨EZ (EZ bt (EZ ca cb)) f.1,EY f.2 h7.size⟩)
    (fun b ha f=>by have:=ha.2;have:=f.1;omega) G.o G.o (ot L _) (EZ av.o.size bq.size)
  have ch:Hid (FS w (L.alloc (p8 #[O q a t,O u c v,O pu a C,O D c E] 26))):=av.o.alloc av.o.size _;clear h l x0 x1 y0 y1 z0 z1 v0 v1;obtain⟨u0,u1,_,_⟩:=dQ bk;obtain⟨t0,t1,_,_⟩:=dQ bl;clear bk bl;go_wp2_with fail
  refine Ff bn.o ?_;rintro e w9 ⟨rfl,bB⟩;have HF:=Hd (ch.o.trans bB);clear bB bn;go_wp2_with fail
  go_ret;exact⟨Z,HF.o⟩
 ·have cp:(3000:Int)<s.size:=by omega
  go_wp2_with fail
  go_ret;exact⟨Z,i.o⟩
