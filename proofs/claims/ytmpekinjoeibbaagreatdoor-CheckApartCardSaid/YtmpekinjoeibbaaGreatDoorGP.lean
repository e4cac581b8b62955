/- Parts of one proof, joined; conditions stand in each theorem. -/
import Derived.Test.YtmpekinjoeibbaaGreatDoorGB
import Derived.Test.YtmpekinjoeibbaaGreatDoorNA
open Go.Value renaming slice→O,tuple→wF,pointer→tv,int→I
open Option renaming none→V,some→A
open Go renaming Value→r3,TypeId→vn,World→p7,Ending→xv
open Go.Obj renaming cells→p8
open Go.Ending renaming returned→tF
open Or renaming inl→tE,inr→tS
namespace Go.Proofs.YtmpekinjoeibbaaGreatDoor
open Go.RowKit
def nl:Value:=O V 0 0
def lW(v:Nat→r3):Array Value:=#[nl,nl,nl,nl,nl,nl,nl,nl,nl,nl,v 10,v 11,v 12,v 13,v 14,v 15,v 16,nl,nl,nl,nl,nl,nl,nl,nl,nl,nl,nl,nl]
def tyS:Nat→vn
 | 10=>49|11=>43|12=>36|13=>37|14=>23|15=>24|16=>34|_=>0
def tyE:Nat→vn
 | 10=>51|11=>56|12=>53|13=>59|14=>41|15=>39|16=>26|_=>0
def tyZ:Nat→Nat
 | 10=>7|11=>5|12=>10|13=>4|14=>2|15=>5|16=>2|_=>0
def Kd(j:Nat):Prop:=10≤j∧j≤16
theorem Er{i j:Nat}(a:Kd i)(b:Kd j)(h:i≠j):tyS i≠tyS j:=by
 have:∀i∈List.range 17,∀j∈List.range 17,(decide (10≤i)&&decide (10≤j)&&decide (i≠j))=true→(tyS i==tyS j)=false:=by decide
 have d:=this i (List.mem_range.2 (by have:=a.2;omega)) j (List.mem_range.2 (by have:=b.2;omega)) (by simp[a.1,b.1,h]);exact fun e=>by rw[e]at d;simp at d
theorem qW{j:Nat}(a:Kd j):tyS j≠131:=by
 have:∀j∈List.range 17,decide (10≤j)=true→(tyS j==131)=false:=by decide
 have b:=this j (List.mem_range.2 (by have:=a.2;omega)) (by simp[a.1]);exact fun e=>by rw[e]at b;simp at b
theorem Bo{j i:Nat}(a:Kd j)(b:Kd i):tyE i≠tyS j:=by
 have:∀i∈List.range 17,∀j∈List.range 17,(decide (10≤i)&&decide (10≤j))=true→(tyE i==tyS j)=false:=by decide
 have d:=this i (List.mem_range.2 (by have:=b.2;omega)) j (List.mem_range.2 (by have:=a.2;omega)) (by simp[b.1,a.1]);exact fun e=>by rw[e]at d;simp at d
theorem xO{j:Nat}(a:Kd j):tyE j≠131:=by
 have:∀j∈List.range 17,decide (10≤j)=true→(tyE j==131)=false:=by decide
 have b:=this j (List.mem_range.2 (by have:=a.2;omega)) (by simp[a.1]);exact fun e=>by rw[e]at b;simp at b
def bA:=Nat→List (r3×Nat)
def ln(L:bA) (j:Nat) (p:r3×Nat):bA:=fun i=>if i=j then L i++[p] else L i
def ej(L M:bA):bA:=fun i=>L i++M i
def noL:bA:=fun _=>[]
def lone(j:Nat) (p:r3×Nat):bA:=fun i=>if i=j then [p] else []
theorem xK(L:bA)(j:Nat)(p:r3×Nat):ej L (lone j p)=ln L j p:=by
 funext i
 unfold ej lone ln
 split
 ·rfl
 ·rw[List.append_nil]
theorem Ed(L M N:bA):ej (ej L M) N=ej L (ej M N):=by
 funext i
 exact List.append_assoc ..
def gR(W:p7) (Bg B:Nat) (L:bA):Prop:=
 ∃v:Nat→r3,W.heap[Bg]?=A (p8 (lW v) 131 (0,0))∧(∀j,Kd j→W.ownsRow B (tyS j) 1 (v j) (L j).length ((L j).map (·.1)))∧B≤Bg
def fs(w w':p7):Prop:=∀(j:Nat),Kd j→∀(b:Nat) (cs:Array r3),w.heap[b]?=A (p8 cs (tyE j) (0,0))→w'.heap[b]?=A (p8 cs (tyE j) (0,0))
theorem fs.h{a b c:p7}(h:fs a b)(k:fs b c):fs a c:=fun j d i cs f=>k j d i cs (h j d i cs f)
theorem fs.b{a b:p7}(h:FS a b):fs a b:=fun _ _ i _ d=>(h.block i (ES.1 d).1).trans d
theorem gR.C{w w':p7}{Bg B:Nat}{L:bA}(h:gR w Bg B L)(a:FS w w'):gR w' Bg B L:=by
 obtain⟨v,b,d,f⟩:=h;exact⟨v,(a.block Bg (ES.1 b).1).trans b,fun j g=>ab (d j g) a,f⟩
def yT(j n:Nat):Prop:=n≤20000∧(j=16→n=1)
structure iM (j:Nat) (W:p7) (F:Nat→Prop) (D:List (r3×Nat)):Prop where
 h:∀p∈D,(∃xs,W.ownsRow 0 (tyE j) (tyZ j) p.1 p.2 xs)∧yT j p.2∧∀g,p.1.ownBlock=A g→F g
 T:D.Pairwise (fun p q=>∀g,p.1.ownBlock=A g→q.1.ownBlock≠A g)
def Got(W:p7) (F:Nat→Prop) (L:bA):Prop:=∀j,Kd j→iM j W F (L j)
theorem fQ{w:p7}{B n z:Nat}{E:vn}{v:r3}{xs:List r3}(h:w.ownsRow B E z v n xs){g:Nat}(a:v.ownBlock=A g):∃cs,w.heap[g]?=A (p8 cs E (0,0)):=by
 rcases h.2 with ⟨rfl,_⟩|⟨b,cap,cur,rfl,_,h,_⟩
 ·cases a
 ·injection a with a
  have a:b=g:=a;subst a;exact⟨cur,h⟩
theorem iM.t{j:Nat}{w w':p7}{F:Nat→Prop}{D:List (r3×Nat)}(f:Kd j)(h:iM j w F D)(i:fs w w'):iM j w' F D:=
 ⟨fun p a=>⟨(h.h p a).1.imp fun _ b=>bE b fun g l=>by
  obtain⟨cs,d⟩:=fQ b l
  rw[d];exact i j f g cs d,(h.h p a).2⟩,h.T⟩
theorem iM.N{j:Nat}{w:p7}{F G:Nat→Prop}{D:List (r3×Nat)}(h:iM j w F D)(d:∀b,F b→G b):iM j w G D:=
 ⟨fun p a=>⟨(h.h p a).1,(h.h p a).2.1,fun g f=>d g ((h.h p a).2.2 g f)⟩,h.T⟩
theorem iM.nil{j:Nat}{w:p7}{F:Nat→Prop}:iM j w F []:=⟨fun p a=>(by cases a),List.Pairwise.nil⟩
theorem iM.append{j:Nat}{w:p7}{F G H:Nat→Prop}{D E:List (r3×Nat)}(h:iM j w F D)(k:iM j w G E)(hF:∀b,F b→H b)(l:∀b,G b→H b)(f:D=[]∨E=[]∨∀b,F b→¬G b):iM j w H (D++E):=by
 rcases f with rfl|rfl|f
 ·exact k.N l
 ·rw[List.append_nil];exact h.N hF
 ·refine⟨fun p a=>?_,List.pairwise_append.2 ⟨h.T,k.T,fun p a q m g d i=>f g ((h.h p a).2.2 g d) ((k.h q m).2.2 g i)⟩⟩;rcases List.mem_append.1 a with a|a
  ·exact⟨(h.h p a).1,(h.h p a).2.1,fun g d=>hF g ((h.h p a).2.2 g d)⟩
  ·exact⟨(k.h p a).1,(k.h p a).2.1,fun g d=>l g ((k.h p a).2.2 g d)⟩
theorem Got.t{w w':p7}{F:Nat→Prop}{L:bA}(h:Got w F L)(b:fs w w'):Got w' F L:=fun j a=>(h j a).t a b
theorem Got.N{w:p7}{F G:Nat→Prop}{L:bA}(h:Got w F L)(a:∀b,F b→G b):Got w G L:=fun j d=>(h j d).N a
theorem Got.no{w:p7}{F:Nat→Prop}:Got w F noL:=fun _ _=>iM.nil
theorem Got.append{w:p7}{F G H:Nat→Prop}{L M:bA}(h:Got w F L)(k:Got w G M)(hF:∀b,F b→H b)(d:∀b,G b→H b)(f:∀j,Kd j→L j=[]∨M j=[]∨∀b,F b→¬G b):Got w H (ej L M):=fun j a=>(h j a).append (k j a) hF d (f j a)
theorem Got.one{w:p7}{F:Nat→Prop}{j n:Nat}{v:r3}{xs:List r3}(f:Kd j)(h:w.ownsRow 0 (tyE j) (tyZ j) v n xs)(b:yT j n)(hF:∀g,v.ownBlock=A g→F g):Got w F (lone j (v,n)):=fun i l=>by
 unfold lone
 by_cases a:i=j
 ·subst a;rw[oA Z];refine⟨fun p d=>?_,List.pairwise_singleton _ _⟩;rw[List.mem_singleton.1 d];exact⟨⟨xs,h⟩,b,hF⟩
 ·rw[ox a];exact iM.nil
theorem uw{v:Nat→r3}{j:Nat}(a:Kd j):(lW v)[j]?=A (v j):=by
 obtain⟨b,d⟩:=a;have:j=10∨j=11∨j=12∨j=13∨j=14∨j=15∨j=16:=by omega
 rcases this with rfl|rfl|rfl|rfl|rfl|rfl|rfl<;>rfl
theorem DD{v:Nat→r3}{j:Nat}{x:r3}(a:Kd j):(lW v).setIfInBounds j x=lW (fun i=>if i=j then x else v i):=by
 obtain⟨b,d⟩:=a;have:j=10∨j=11∨j=12∨j=13∨j=14∨j=15∨j=16:=by omega
 rcases this with rfl|rfl|rfl|rfl|rfl|rfl|rfl<;>rfl
def aX(w:p7) (Bg B c:Nat) (L:bA) (K:Nat→Prop) (F:Nat→Prop) (e:xv) (w':p7):Prop:=
 e=tF (wF #[])∧Below B w w'∧fs w w'∧w.heap.size≤w'.heap.size∧∃M:bA,(∀j,(M j).length≤c)∧(∀j,¬K j→M j=[])∧gR w' Bg B (ej L M)∧Got w' F M
theorem Cv{w W2:p7}{Bg B n j:Nat}{L:bA}{v:Nat→r3}{C o:r3}(N:Kd j)(T:w.heap[Bg]?=A (p8 (lW v) 131 (0,0)))(U:∀j,Kd j→w.ownsRow B (tyS j) 1 (v j) (L j).length ((L j).map (·.1)))(h3:B≤Bg)(hB:B≤w.heap.size)
  (ho:W2.ownsRow B (tyS j) 1 C ((L j).length+1) ((L j).map (·.1)++[o])) (a:Gone (w.alloc (p8 #[o] (tyS j))) W2 (v j) C (L j).length 1) :
  ∃q P,C=O q ((L j).length+1) P∧W2.frozen? ⟨Bg,j,V⟩=false∧W2.cell? ⟨Bg,j,V⟩=A (v j)∧
   Hid (gR (W2.setCell ⟨Bg,j,V⟩ C) Bg B (ln L j (o,n))∧Below B w (W2.setCell ⟨Bg,j,V⟩ C)∧fs w (W2.setCell ⟨Bg,j,V⟩ C)∧w.heap.size≤(W2.setCell ⟨Bg,j,V⟩ C).heap.size):=by
 have D:FS w (w.alloc (p8 #[o] (tyS j))):=(EU _ w).alloc (ET _) _;have ar:(w.alloc (p8 #[o] (tyS j))).heap[Bg]?=A (p8 (lW v) 131 (0,0)):=(D.block Bg (ES.1 T).1).trans T;have Q:=ab (U j N) D;have X:∃q P,C=O q ((L j).length+1) P:=by
  rcases a with ⟨g,cap,_,h,_⟩|⟨cap,h,_⟩
  ·exact⟨_,_,h⟩
  ·exact⟨_,_,h⟩
 obtain⟨q,P,rfl⟩:=X;have d:∀(b:Nat) (cs:Array r3) (t:vn),t≠tyS j→w.heap[b]?=A (p8 cs t (0,0))→W2.heap[b]?=A (p8 cs t (0,0)):=by
  intro b cs t ht f;have u:(w.alloc (p8 #[o] (tyS j))).heap[b]?=A (p8 cs t (0,0)):=(D.block b (ES.1 f).1).trans f;rcases a with ⟨g,cap,hv,_,a⟩|⟨cap,_,a⟩
  ·refine aJ a u ?_;intro e;injection e with e
   subst e;obtain⟨R,l⟩:=fQ Q (g:=b) (by rw[hv];rfl);rw[u]at l;injection l with l
   injection l with _ l
   exact ht l
  ·exact (a.block b (ES.1 u).1).trans u
 have y:=d Bg _ _ (fun e=>qW N e.symm) T;have ad:Below B w W2:=by
  have S:B≤(w.alloc (p8 #[o] (tyS j))).heap.size:=EZ hB D.size;rcases a with ⟨g,cap,hv,_,a⟩|⟨cap,_,a⟩
  ·have af:=(Q.lt g (by rw[hv];rfl)).1;refine Chg.C (F:=fun b=>b=g) (D.mono hB) ⟨a.os,a.tape,a.output,a.size,fun b f ak=>a.block b f (fun e=>ak (by injection e))⟩ (fun i s=>by rw[s];exact af) S
  ·exact (D.mono hB).trans (a.mono S)
 have aq:w.heap.size≤W2.heap.size:=by
  have:=D.size;rcases a with ⟨g,cap,_,_,a⟩|⟨cap,_,a⟩
  ·exact EZ this a.size
  ·exact EZ this a.size
 have E:∀b cs t,t≠131→W2.heap[b]?=A (p8 cs t (0,0))→b≠Bg:=fun b cs t ht f e=>by
  subst e;rw[y]at f;injection f with f
  injection f with _ f
  exact ht f.symm
 refine⟨q,P,Z,ae y j,by rw[FR _ _ _ _ _ _ y];exact uw N,⟨fun i=>if i=j then O q ((L j).length+1) P else v i,by rw[←DD N];exact heap_set y j _,fun i s=>?_,h3⟩,ad.setCell (p:=⟨Bg,j,V⟩) h3 _,fun i s b cs f=>?_,by simpa [World.setCell]using aq⟩
 ·by_cases z:i=j
  ·subst z;have hl:(ln L i (o,n) i)=L i++[(o,n)]:=by unfold ln;rw[oA Z]
   show (W2.setCell ⟨Bg,i,V⟩ _).ownsRow B (tyS i) 1 (if i=i then _ else _) _ _
   rw[hl,oA Z,Fl,List.map_append];refine bE ho fun g H=>o7 _ _ _ _ ?_
   obtain⟨R,l⟩:=fQ ho H;exact E g R _ (qW s) l
  ·have hl:(ln L j (o,n) i)=L i:=by unfold ln;rw[ox z]
   show (W2.setCell ⟨Bg,j,V⟩ _).ownsRow B (tyS i) 1 (if i=j then _ else _) _ _
   rw[hl,ox z];refine bE (U i s) fun g H=>?_
   obtain⟨R,l⟩:=fQ (U i s) H;have m:=d g R _ (Er s N z) l;rw[o7 _ _ _ _ (E g R _ (qW s) m),m,l]
 ·have m:=d b cs _ (Bo N s) f;exact (o7 _ _ _ _ (E b cs _ (xO s) m)).trans m
def cL{α:Type} (c:α→Nat) (xs:List α):Nat:=1+(xs.map c).sum
structure PIn (w:p7) (Bg B c:Nat) (L:bA):Prop where
 bag:gR w Bg B L
 room:∀j,(L j).length+c≤60000
 few:c≤20000
 B:B≤w.heap.size
def jy{α:Type} (f:Nat) (r:Rd α) (c:α→Nat) (K:Nat→Prop) (x:α):Prop:=
 ∀(vs:List r3) (F:Nat→Prop) (Bg B:Nat) (L:bA) (w:p7),r.at_ w F x vs→(∀b,F b→b<B)→PIn w Bg B (c x) L→Calls Tryz.prog f #[tv (A ⟨Bg,0,V⟩),Value.agg vs.toArray] w (aX w Bg B (c x) L K F)
def jL{α:Type} (f:Nat) (r:Rd α) (j:Nat) (c:α→Nat) (K:Nat→Prop) (xs:List α):Prop:=
 ∀(v:r3) (F:Nat→Prop) (Bg B:Nat) (L:bA) (w:p7),r.lrow (tyE j) w F xs v→(∀b,F b→b<B)→PIn w Bg B (cL c xs) L→Calls Tryz.prog f #[tv (A ⟨Bg,0,V⟩),v] w (aX w Bg B (cL c xs) L K F)
theorem PIn.less{w:p7}{Bg B c a:Nat}{L:bA}(h:PIn w Bg B c L)(b:a≤c):PIn w Bg B a L:=⟨h.bag,fun j=>EZ (Nat.add_le_add_left b _) (h.room j),EZ b h.few,h.B⟩
theorem PIn.C{w W:p7}{Bg B c:Nat}{L:bA}(h:PIn w Bg B c L)(a:FS w W):PIn W Bg B c L:=⟨h.bag.C a,h.room,h.few,EZ h.B a.size⟩
theorem aX.ret{w w':p7}{Bg B c:Nat}{L:bA}{K F:Nat→Prop}{e:xv}(h:aX w Bg B c L K F e w'):e=tF (wF #[]):=h.1
theorem aX.ahead{w W w':p7}{Bg B c:Nat}{L:bA}{K F:Nat→Prop}{e:xv}(a:FS w W)(hB:B≤w.heap.size)(h:aX W Bg B c L K F e w'):aX w Bg B c L K F e w':=by
 obtain⟨b,d,f,g,i⟩:=h;exact⟨b,(a.mono hB).trans d,(fs.b a).h f,EZ a.size g,i⟩
theorem aX.one{α:Type}{r:Rd α}{w W:p7}{Bg B j n:Nat}{L:bA}{K F:Nat→Prop}{xs:List α}{v:r3}(a:xs.length=n)(f:Kd j)(o:K j)(p:r.n=tyZ j)(q:r.lrow (tyE j) w F xs v)(s:yT j n)(h:gR W Bg B (ln L j (v,n))∧Below B w W∧fs w W∧w.heap.size≤W.heap.size):aX w Bg B (cL (fun _=>1) xs) L K F (tF (wF #[])) W:=by
 subst a;obtain⟨us,_,b,_,_,t⟩:=q;obtain⟨u,y,l,z⟩:=h;rw[p]at b;refine⟨Z,y,l,z,lone j (v,xs.length),fun i=>?_,fun i C=>?_,by rw[xK];exact u,Got.one f (bE b fun g d=>?_) s fun g d=>(t g d).1⟩
 ·unfold lone cL
  split
  ·simp
  ·exact Fi _
 ·unfold lone;rw[ox (fun D:i=j=>C (by rw[D];exact o))]
 ·obtain⟨cs,m⟩:=fQ b d;rw[m];exact l j f g cs m
theorem aX.y{w w':p7}{Bg B c a:Nat}{L:bA}{K d F F':Nat→Prop}{e:xv}(h:aX w Bg B c L K F e w')(f:c≤a)(g:∀j,K j→d j)(hF:∀b,F b→F' b):aX w Bg B a L d F' e w':=by
 obtain⟨i,l,m,n,M,o,p,q,s⟩:=h;exact⟨i,l,m,n,M,fun j=>EZ (o j) f,fun j t=>p j fun h=>t (g j h),q,s.N hF⟩
theorem aX.both{w d W2:p7}{Bg B c1 c2:Nat}{L M:bA}{K1 K2 F1 F2 F:Nat→Prop}{e:xv}
  (f:Below B w d) (m:fs w d) (n:w.heap.size≤d.heap.size) (g:∀j,(M j).length≤c1) (a:∀j,¬K1 j→M j=[]) (i:Got d F1 M)
  (h:aX d Bg B c2 (ej L M) K2 F2 e W2) (o:∀b,F1 b→F b) (p:∀b,F2 b→F b) (l:(∀j,K1 j→¬K2 j)∨∀b,F1 b→¬F2 b):aX w Bg B (c1+c2) L (fun j=>K1 j∨K2 j) F e W2:=by
 obtain⟨y,z,q,C,N,D,s,E,H⟩:=h;refine⟨y,f.trans z,m.h q,EZ n C,ej M N,fun j=>?_,fun j t=>?_,by rw[←Ed];exact E,(i.t q).append H o p fun j _=>?_⟩
 ·unfold ej;rw[Fl];exact Nat.add_le_add (g j) (D j)
 ·unfold ej;rw[a j fun h=>t (tE h),s j fun h=>t (tS h)];rfl
 ·rcases l with l|l
  ·by_cases u:K1 j
   ·exact tS (tE (s j (l j u)))
   ·exact tE (a j u)
  ·exact tS (tS l)
theorem aX.h{w a:p7}{Bg B c1 c2:Nat}{L:bA}{K1 F1:Nat→Prop}{e:xv}(b:PIn w Bg B (c1+c2) L)(h:aX w Bg B c1 L K1 F1 e a) :
  ∃M,e=tF (wF #[])∧Hid (Below B w a∧fs w a∧w.heap.size≤a.heap.size∧(∀j,(M j).length≤c1)∧(∀j,¬K1 j→M j=[])∧Got a F1 M∧PIn a Bg B c2 (ej L M)):=by
 obtain⟨g,i,l,d,N,f,m,n,o⟩:=h;refine⟨N,g,⟨i,l,d,f,m,o,n,fun j=>?_,by have:=b.few;omega,EZ b.B d⟩⟩;have:=b.room j;have:=f j;unfold ej;rw[Fl];omega
theorem hZ{w:p7}{Bg B j:Nat}{L:bA}(b:Kd j)(p:gR w Bg B L)(hB:B≤w.heap.size):∃q m c ys,m=(L j).length∧w.cell? ⟨Bg,j,V⟩=A (O q m c)∧Hid (w.ownsRow B (tyS j) 1 (O q m c) m ys)∧
  Hid (∀(W2:p7) (a d:r3) (n:Nat),W2.ownsRow B (tyS j) 1 a (m+1) (ys++[d])→Gone (w.alloc (p8 #[d] (tyS j))) W2 (O q m c) a m 1→
   ∃s f,a=O s (m+1) f∧W2.frozen? ⟨Bg,j,V⟩=false∧W2.cell? ⟨Bg,j,V⟩=A (O q m c)∧
   Hid (gR (W2.setCell ⟨Bg,j,V⟩ a) Bg B (ln L j (d,n))∧Below B w (W2.setCell ⟨Bg,j,V⟩ a)∧fs w (W2.setCell ⟨Bg,j,V⟩ a)∧w.heap.size≤(W2.setCell ⟨Bg,j,V⟩ a).heap.size)):=by
 obtain⟨v,l,i,t⟩:=p;obtain⟨q,c,hv⟩:∃q c,v j=O q (L j).length c:=by
  rcases (i j b).2 with ⟨h,u⟩|⟨g,cap,cur,h,_⟩
  ·exact⟨V,0,by rw[h,u]⟩
  ·exact⟨_,cap,h⟩
 refine⟨q,(L j).length,c,(L j).map (·.1),Z,by rw[FR _ _ _ _ _ _ l];exact (uw b).trans (o9 A hv),Hd (by rw[←hv];exact i j b),Hd (fun W2 a d n y o=>?_)⟩;rw[←hv]at o;obtain⟨z,f,e,C,z2,H⟩:=Cv (n:=n) b l i t hB y o;exact⟨z,f,e,C,by rw[z2,hv],H⟩
section
variable {α:Type} {r:Rd α} {c:α→Nat} {w W W':p7} {Bg B k j:Nat} {L M:bA} {xs:List α} {x:α} {v:r3} {F K:Nat→Prop} {G:Nat→Nat→Prop} {e:xv}
structure ku (r:Rd α) (E:vn) (w:p7) (F:Nat→Prop) (xs:List α) (v:r3) (G:Nat→Nat→Prop):Prop where
 own:∃us,w.ownsRow 0 E r.n v xs.length us
 blk:∀g,v.ownBlock=A g→F g∧∀i,¬G i g
 N:∀i b,G i b→F b
 dis:∀i j b,G i b→G j b→i=j
 elem:∀i x,xs[i]?=A x→∃g cs,(∃cap,v=O (A ⟨g,0,V⟩) xs.length cap)∧F g∧w.heap[g]?=A (p8 cs E (0,0))∧∃vs,r.at_ w (G i) x vs∧∀m u,vs[m]?=A u→cs[i*r.n+m]?=A u
theorem ju{E:vn}(h:r.lrow E w F xs v):∃G,ku r E w F xs v G:=by
 obtain⟨us,H,n,⟨G,g1,g2,g3,g4⟩,q,f⟩:=h;refine⟨G,⟨us,n⟩,fun g a=>⟨(f g a).1,fun i s=>(f g a).2 (g1 i g s)⟩,fun i b t=>q b (g1 i b t),g2,fun i x o=>?_⟩;have y:=(Fo.1 o).1;obtain⟨vs,z,C⟩:=g4 i x o;rcases n.2 with ⟨_,N⟩|⟨g,cap,cur,rfl,_,a,p,_,D,l⟩
 ·omega
 ·refine⟨g,cur,⟨cap,Z⟩,(f g Z).1,a,vs,z,fun m u hm=>?_⟩;have d:=C m u hm;rw[←l,List.getElem?_take]at d
  split at d
  ·simpa using d
  ·cases d
theorem ku.b{E:vn}(h:ku r E w F xs v G)(hF:∀b,F b→b<B)(f:Below B w W)(i:xs[k]?=A x):∃g cap vs,v=O (A ⟨g,0,V⟩) xs.length cap∧r.at_ W (G k) x vs∧∀m u,vs[m]?=A u→W.cell? ⟨g,k*r.n+m,V⟩=A u:=by
 obtain⟨g,cs,⟨cap,rfl⟩,a,l,vs,p,q⟩:=h.elem k x i;refine⟨g,cap,vs,Z,r.t (fun b d o s=>(f.block b (hF b (h.N k b d))).trans s) p,fun m u hu=>?_⟩;rw[FR _ _ _ _ _ _ ((f.block g (hF g a)).trans l)];exact q m u hu
structure BSt (c:α→Nat) (w:p7) (Bg B:Nat) (L:bA) (xs:List α) (v:r3) (G:Nat→Nat→Prop) (K:Nat→Prop) (k:Nat) (M:bA) (W:p7):Prop where
 low:Below B w W
 ek:fs w W
 sz:w.heap.size≤W.heap.size
 bag:gR W Bg B (ej L M)
 cnt:∀j,(M j).length≤1+((xs.take k).map c).sum
 knd:∀j,¬K j→M j=[]
 got:Got W (fun b=>v.ownBlock=A b∨∃i,i<k∧G i b) M
def j6(c:α→Nat) (w:p7) (Bg B:Nat) (L:bA) (xs:List α) (v:r3) (G:Nat→Nat→Prop) (K:Nat→Prop) (i:r3) (W:p7):Prop:=
 ∃(a:p7) (k:Nat) (M:bA),a=W∧k≤xs.length∧i=I IntKind.i64 k∧BSt c w Bg B L xs v G K k M a
theorem ky:∀(xs:List α) (k:Nat) (x:α),xs[k]?=A x→((xs.take (k+1)).map c).sum=((xs.take k).map c).sum+c x∧((xs.take k).map c).sum+c x≤(xs.map c).sum
 | [],_,_,h=>by simp at h
 | y::ys,0,x,h=>by
  obtain rfl:y=x:=by simpa using h
  simp
 | y::ys,k+1,x,h=>by
  have:=ky ys k x (by simpa using h);simp only[Fg,List.map_cons,List.sum_cons]at this ⊢;omega
theorem xy(a:∀x,1≤c x):∀xs:List α,xs.length≤(xs.map c).sum
 | []=>ET _
 | x::xs=>by
  have:=xy a xs;have:=a x;simp only[FC,List.map_cons,List.sum_cons];omega
theorem BSt.start{n:Nat}(a:xs.length=n)(f:Kd j)(o:K j)(p:r.n=tyZ j)(q:ku r (tyE j) w F xs v G)(s:yT j n)(h:gR W Bg B (ln L j (v,n))∧Below B w W∧fs w W∧w.heap.size≤W.heap.size):BSt c w Bg B L xs v G K 0 (lone j (v,n)) W:=by
 subst a;obtain⟨t,u,l,y⟩:=h;refine⟨u,l,y,by rw[xK];exact t,fun i=>?_,fun i z=>?_,?_⟩
 ·unfold lone
  split
  ·simp
  ·exact Fi _
 ·unfold lone;rw[ox (fun C:i=j=>z (by rw[C];exact o))]
 ·obtain⟨us,b⟩:=q.own;rw[p]at b;refine Got.one f (bE b fun g d=>?_) s fun g d=>tE d
  obtain⟨cs,m⟩:=fQ b d;rw[m];exact l j f g cs m
theorem BSt.pin(h:BSt c w Bg B L xs v G K k M W)(a:PIn w Bg B (cL c xs) L)(b:xs[k]?=A x):PIn W Bg B (c x) (ej L M):=by
 have g:=(ky (c:=c) xs k x b).2;have d:=a.few;unfold cL at d;refine⟨h.bag,fun j=>?_,by omega,EZ a.B h.sz⟩;have f:=a.room j;have i:=h.cnt j;unfold cL at f;unfold ej;rw[Fl];omega
theorem BSt.h{E:vn}(h:BSt c w Bg B L xs v G K k M W)(f:ku r E w F xs v G)(l:xs[k]?=A x)(m:aX W Bg B (c x) (ej L M) K (G k) e W'):∃n,BSt c w Bg B L xs v G K (k+1) n W':=by
 have o:=(ky (c:=c) xs k x l).1;obtain⟨D,p,q,s,N,t,u,y,z⟩:=aX.both h.low h.ek h.sz h.cnt h.knd h.got m (F:=fun b=>v.ownBlock=A b∨∃i,i<k+1∧G i b)
  (fun b a=>a.imp id fun ⟨i,C,d⟩=>⟨i,by omega,d⟩) (fun b a=>tS ⟨k,by omega,a⟩) (tS fun b a d=>by
   rcases a with a|⟨i,C,a⟩
   ·exact (f.blk b a).2 k d
   ·have:=f.dis i k b a d
    omega)
 exact⟨N,p,q,s,y,fun j=>by rw[o,←Nat.add_assoc];exact t j,fun j g=>u j (fun h=>h.elim g g),z⟩
theorem BSt.done{E:vn}(h:BSt c w Bg B L xs v G K xs.length M W)(d:ku r E w F xs v G):aX w Bg B (cL c xs) L K F (tF (wF #[])) W:=by
 refine⟨Z,h.low,h.ek,h.sz,M,fun j=>?_,h.knd,h.bag,h.got.N fun b a=>?_⟩
 ·have:=h.cnt j;rw[List.take_length]at this;exact this
 ·rcases a with a|⟨i,_,a⟩
  ·exact (d.blk b a).1
  ·exact d.N i b a
theorem PIn.len(a:∀x,1≤c x)(h:PIn w Bg B (cL c xs) L):xs.length≤20000:=by
 have b:=h.few;have d:=xy a xs;unfold cL at b;omega
theorem PIn.y(h:PIn w Bg B k L)(j:Nat):(L j).length≤60000:=EZ (Nat.le_add_right _ _) (h.room j)
theorem j6.h{E:vn}{n:Nat}(i:xs.length=n)(l:k<n)(h:BSt c w Bg B L xs v G K k M W)(a:ku r E w F xs v G)(b:xs[k]?=A x)(d:aX W Bg B (c x) (ej L M) K (G k) e W'):j6 c w Bg B L xs v G K (I IntKind.i64 ((k+1:Nat):Int)) W':=by
 obtain⟨f,g⟩:=h.h a b d;exact⟨W',k+1,f,Z,by omega,Z,g⟩
end
theorem EF{v:List r3}(h:v.length=2):∃a b,v=[a,b]:=by
 match v,h with
 | [a,b],_=>exact⟨a,b,Z⟩
theorem list4{v:List r3}(h:v.length=4):∃a b c d,v=[a,b,c,d]:=by
 match v,h with
 | [a,b,c,d],_=>exact⟨a,b,c,d,Z⟩
theorem EO{v:List r3}(h:v.length=5):∃a b c d e,v=[a,b,c,d,e]:=by
 match v,h with
 | [a,b,c,d,e],_=>exact⟨a,b,c,d,e,Z⟩
theorem EH{v:List r3}(h:v.length=7):∃a b c d e f g,v=[a,b,c,d,e,f,g]:=by
 match v,h with
 | [a,b,c,d,e,f,g],_=>exact⟨a,b,c,d,e,f,g,Z⟩
theorem Et{v:List r3}(h:v.length=10):∃a b c d e f g i j k,v=[a,b,c,d,e,f,g,i,j,k]:=by
 match v,h with
 | [a,b,c,d,e,f,g,i,j,k],_=>exact⟨a,b,c,d,e,f,g,i,j,k,Z⟩
