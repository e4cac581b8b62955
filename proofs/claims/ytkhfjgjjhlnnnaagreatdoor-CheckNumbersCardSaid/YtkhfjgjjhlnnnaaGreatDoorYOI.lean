/- Parts of one proof, joined; conditions stand in each theorem. -/
import Derived.Test.YtkhfjgjjhlnnnaaGreatDoorYNA
import Derived.Test.YtkhfjgjjhlnnnaaGreatDoorYNB
import Derived.Test.YtkhfjgjjhlnnnaaGreatDoorYMA
import Derived.Test.YtkhfjgjjhlnnnaaGreatDoorYOA
import Derived.Test.YtkhfjgjjhlnnnaaGreatDoorYMD
import Derived.Test.YtkhfjgjjhlnnnaaGreatDoorYNE
import Derived.Test.YtkhfjgjjhlnnnaaGreatDoorYOH
open Go.Value renaming int→I,string→J,slice→A,agg→xS
open Go.IntKind renaming u8→O,i64→Z
open Go renaming World→wD,Value→wF,Calls→xL,undef→At,wpQuiet_nil→Bk
open Go.Proofs.Tryz renaming prog→xD
open Go.Obj renaming cells→wq
open Option renaming none→U,some→Y
open Go.Code renaming wp→AR
open Go.Act renaming put→B4
namespace Go.Proofs.YtkhfjgjjhlnnnaaGreatDoor
set_option maxHeartbeats 8000000
set_option maxRecDepth 100000
open Go.RowKit
def tJ(r:Rd (List ab)):Rd ab where
 n:=5
 at_ w F T vs:=Fits T∧∃s,vs=[I O T.b,J T.f,I Z T.h,I Z T.y,s]∧r.at_ w F T.u [s]
 len:=by rintro w F x vs ⟨_,s,rfl,_⟩;rfl
 C:=by rintro w w' F x vs b ⟨h,s,rfl,a⟩;exact⟨h,s,V,r.C b a⟩
 N:=by rintro w F G x vs e ⟨h,s,rfl,a⟩;exact⟨h,s,V,r.N e a⟩
 one:=by
  rintro w F x vs ⟨_,s,rfl,a⟩ u hu;simp only[FA,Fy,sI]at hu;rcases hu with rfl|rfl|rfl|rfl|rfl
  ·rfl
  ·rfl
  ·rfl
  ·rfl
  ·exact r.one a _ (List.mem_singleton.2 V)
def fb:Nat→Rd ab
 | 0=>tJ Rd.none
 | d+1=>tJ (fb d).list
theorem iC(d:Nat):(fb d).n=5:=by cases d<;>rfl
theorem Bl{w:wD}{B:Nat}{F:Nat→Prop}(hF:∀b,F b→b<B):∀{d:Nat} {l:List ab} {v:wF},(fb d).K w F l v→ao w B (d+1) l v:=by
 intro d
 induction d with
 | zero =>
  rintro l v (⟨rfl,p,c,rfl⟩|⟨b,off,cap,f,h,_,j,o,r,u⟩)
  ·exact Or.inl ⟨V,p,c,V⟩
  ·refine Or.inr ⟨b,off,cap,f,hF b h,j,o,r,fun i T x=>?_⟩;obtain⟨vs,⟨y,s,rfl,p,c,e,z⟩,a⟩:=u i T x;injection e with e _
   have C:=a 0 _ V;have D:=a 1 _ V;have c2:=a 2 _ V;have E:=a 3 _ V;have c4:=a 4 _ V;exact⟨y,s,C,D,c2,E,c4,z,p,c,e⟩
 | succ d G =>
  rintro l v (⟨rfl,p,c,rfl⟩|⟨b,off,cap,f,h,_,j,o,r,u⟩)
  ·exact Or.inl ⟨V,p,c,V⟩
  ·refine Or.inr ⟨b,off,cap,f,hF b h,j,o,r,fun i T x=>?_⟩;obtain⟨vs,⟨y,s,rfl,v2,e,z⟩,a⟩:=u i T x;injection e with e _
   subst e;have C:=a 0 _ V;have D:=a 1 _ V;have c2:=a 2 _ V;have E:=a 3 _ V;have c4:=a 4 _ V;exact⟨y,s,C,D,c2,E,c4,G z⟩
def ni(n:Nat):UInt8:=UInt8.ofNat (48+n)
def nameB(n:Nat):ByteArray:=⟨#[97,ni (n / 10),ni (n % 10)]⟩
theorem uN{n:Nat}(h:n≤9):((ni n).toNat:Int)=48+(n:Int):=by
 unfold ni;rw[UInt8.toNat_ofNat'];omega
theorem lz(n:Nat)(B:n≤99)(w:wD):xL xD 14 #[I Z (n:Int)] w (fun e w'=>e=Ending.returned (J (nameB n))∧FK w w'):=by
 have l:(0:Int)≤n:=by omega
 have r:(n:Int)≤99:=by omega
 have s:Int.tdiv (n:Int) 10=((n / 10:Nat):Int):=rfl;have u:Int.tmod (n:Int) 10=((n % 10:Nat):Int):=rfl;have x:n / 10≤9:=by omega
 have y:n % 10≤9:=by omega
 have a:FK w (w.alloc (wq #[I O 97,I O (48+((n / 10:Nat):Int)),I O (48+((n % 10:Nat):Int))] 5)):=(EP _ w).alloc (EO _) _;have f:=p9 w (wq #[I O 97,I O (48+((n / 10:Nat):Int)),I O (48+((n % 10:Nat):Int))] 5)
 have b:=run_convert_bytes_back (P:=xD) (w.alloc (wq #[I O 97,I O (48+((n / 10:Nat):Int)),I O (48+((n % 10:Nat):Int))] 5)) 87 9 5 ⟨w.heap.size,0,U⟩ 3 [97,ni (n / 10),ni (n % 10)] Tryz.underlying87 Tryz.underlying5 Tryz.underlying9 (fun j h=>by
  have h:j<3:=h;have e:(⟨w.heap.size,0,U⟩:Addr).add j=⟨w.heap.size,j,U⟩:=by
   unfold Addr.add
   by_cases i:j=0
   ·subst i;rfl
   ·rw[qv i];simp
  rw[e,FI _ _ _ _ _ _ f];have:j=0∨j=1∨j=2:=by omega
  rcases this with rfl|rfl|rfl
  ·rfl
  ·show Y (I O (48+((n / 10:Nat):Int)))=Y (I O ((ni (n / 10)).toNat:Int))
   rw[uN x]
  ·show Y (I O (48+((n % 10:Nat):Int)))=Y (I O ((ni (n % 10)).toNat:Int))
   rw[uN y])
 rw[show ((n / 10:Nat):Int)=(n:Int) / 10 from rfl,show ((n % 10:Nat):Int)=(n:Int) % 10 from rfl]at b a;have b:(convert 87 9 (A (Y ⟨w.heap.size,0,U⟩) 3 3)).run xD (w.alloc (wq #[I O 97,I O (48+(n:Int) / 10),I O (48+(n:Int) % 10)] 5))=.ok (J (nameB n)) (w.alloc (wq #[I O 97,I O (48+(n:Int) / 10),I O (48+(n:Int) % 10)] 5)):=b;have z:=Hd a;clear a f s u
 go_enter Tryz.func14,Tryz.ntmps14
 go_wp2_with fail
 go_ret;exact⟨V,z.o⟩
theorem ej:Elem 25 23 5 64:=Elem.of (z:=xS #[I O 0,J ByteArray.empty,I Z 0,I Z 0,A U 0 0]) Tryz.underlying23 (by kernel_rfl) (by kernel_rfl) (by decide) (by decide)
def Good(d m:Nat) (T:ab):Prop:=gx d T∧aM d T≤m
theorem uy(f:ab→Nat)(m:Nat):∀(l:List ab) (a:Nat),(∀T∈l,f T≤m)→(l.map f).foldl (· + ·) a≤a+l.length*m
 | [],a,_=>by simp
 | T::l,a,h=>by
  rw[List.map_cons,List.foldl_cons,Fv,Nat.add_mul,Nat.one_mul];have e:=uy f m l (a+f T) (fun x b=>h x (List.mem_cons_of_mem _ b));have i:=h T (List.mem_cons_self ..);omega
theorem kh{d m n:Nat}{k:Nat}{t:ByteArray}{nu p:Int}{l:List ab}(b:t.size≤72007)(e:l.length≤n)(f:n≤20000)(h:∀T∈l,Good d m T):Good (d+1) (1+n*m) (.mk k t nu p l):=by
 refine⟨⟨b,by show l.length≤20000;omega,fun T a=>(h T a).1⟩,?_⟩;have i:=uy (aM d) m l 1 (fun T a=>(h T a).2);have j:l.length*m≤n*m:=Nat.mul_le_mul_right m e
 show (l.map (aM d)).foldl (· + ·) 1≤1+n*m
 omega
theorem lx{d m:Nat}{k:Nat}{t:ByteArray}{nu p:Int}(a:t.size≤72007)(hm:1≤m):Good d m (.mk k t nu p []):=by
 cases d with
 | zero=>exact⟨a,hm⟩
 | succ d=>exact⟨⟨a,Fa _,fun T b=>by cases b⟩,hm⟩
theorem Good.le{d m a:Nat}{T:ab}(h:Good d m T)(hm:m≤a):Good d a T:=⟨h.1,EU h.2 hm⟩
def cS(k:Int) (t:ByteArray) (nu p:Int):List Value:=[I O k,J t,I Z nu,I Z p,A U 0 0]
theorem oL{w:wD}{F:Nat→Prop}{d:Nat}{k:Nat}{t:ByteArray}{nu p:Int}(f:k<256)(h:t.size≤maxLen)(a:I64 nu)(b:I64 p):(fb d).at_ w F (.mk k t nu p []) (cS k t nu p):=by
 have e:Fits (.mk k t nu p []):=⟨f,h,a.1,a.2,b.1,b.2⟩
 cases d with
 | zero=>exact⟨e,_,V,U,0,V,V⟩
 | succ d=>exact⟨e,_,V,_,V,Or.inl ⟨V,U,0,V⟩⟩
structure ia (d m:Nat) (k:Int) (t:ByteArray) (p:Int) (L q:Nat) (xs:List ab) (v:wF) (W:wD):Prop where
 h:W.heap[q]?=Y (wq #[I O k,J t,I Z 0,I Z p,v] 25 (0,0))
 K:aH W (fun b=>L≤b∧b<W.heap.size∧v.ownBlock≠Y b) 25 (fb d) xs v
 own:∀g,v.ownBlock=Y g→L≤g
 good:∀T∈xs,Good d m T
 lt:q<L
 le:L≤W.heap.size
section
variable {d m:Nat} {k:Int} {t:ByteArray} {p:Int} {L q:Nat} {xs:List ab} {v:wF} {W W':wD}
theorem ia.z(h:ia d m k t p L q xs v W)(b:FK W W'):ia d m k t p L q xs v W':=
 ⟨aa b h.h (EN.1 h.h).1,h.K.z b (fun _ b=>b.2.1) (fun _ a=>⟨a.1,ET a.2.1 b.size,a.2.2⟩),h.own,h.good,h.lt,EU h.le b.size⟩
theorem ia.start(a:W.heap[q]?=Y (wq #[I O k,J t,I Z 0,I Z p,A U 0 0] 25 (0,0))):ia d m k t p (q+1) q [] (A U 0 0) W:=
 ⟨a,aH.nil,fun g h=>(by cases h),fun T h=>(by cases h),Nat.lt_succ_self _,(EN.1 a).1⟩
theorem ia.push(h:ia d m k t p L q xs v W){n g cap:Nat}{us vs:List wF}{T:ab}(K:xs.length=n)(r:(fb d).u W (fun b=>L≤b∧b<W.heap.size∧v.ownBlock≠Y b) xs us)
  (E:v.ownBlock=Y g∨W.heap.size≤g) (f:Chg (fun b=>v.ownBlock=Y b) W W') (j:W'.ownsRow 0 25 5 (A (Y ⟨g,0,U⟩) (n+1) cap) (n+1) (us++vs))
  (M:(fb d).at_ W' (fun b=>L≤b∧b<W'.heap.size∧b≠g) T vs) (s:Good d m T):ia d m k t p L q (xs++[T]) (A (Y ⟨g,0,U⟩) (n+1) cap) (W'.setCell ⟨q,4,U⟩ (A (Y ⟨g,0,U⟩) (n+1) cap))∧Chg (fun b=>b=q∨v.ownBlock=Y b) W (W'.setCell ⟨q,4,U⟩ (A (Y ⟨g,0,U⟩) (n+1) cap)):=by
 have u:=h.lt;have hle:=h.le;have w:q<W.heap.size:=(EN.1 h.h).1;have Q:=f.h;have x:v.ownBlock≠Y q:=fun e=>by have:=h.own q e;omega
 have y:L≤g:=by
  rcases E with e|e
  ·exact h.own g e
  ·omega
 have l:W'.heap[q]?=_:=(f.u q w x).trans h.h;have G:(W'.setCell ⟨q,4,U⟩ (A (Y ⟨g,0,U⟩) (n+1) cap)).heap.size=W'.heap.size:=by simp[World.setCell]
 have H:∀b,b≠q→(W'.setCell ⟨q,4,U⟩ (A (Y ⟨g,0,U⟩) (n+1) cap)).heap[b]?=W'.heap[b]?:=fun b a=>ER W' ⟨q,4,U⟩ _ b a
 have i:∀b,(A (Y ⟨g,0,U⟩) (n+1) cap).ownBlock=Y b→b=g:=fun b e=>by
  injection e with e
  exact (show g=b from e).symm
 have hold:∀b,(L≤b∧b<W.heap.size∧v.ownBlock≠Y b)→b≠g:=fun b a e=>by
  subst e;rcases E with e|e
  ·exact a.2.2 e
  ·omega
 refine⟨⟨heap_set l 4 _,⟨us++vs,?_,?_⟩,fun b e=>by rw[i b e];exact y,fun N z=>?_,u,by rw[G];omega⟩,?_⟩
 ·rw[Fc,K,iC];exact dC j (fun b e=>H b (by rw[i b e];omega))
 ·have B:(fb d).u W' (fun b=>L≤b∧b<W'.heap.size∧b≠g) xs us:=Rd.wj (fun b a=>⟨a.1,by have:=a.2.1;omega,hold b a⟩) (Rd.vk (fun b a o C=>(f.u b a.2.1 a.2.2).trans C) r);exact Rd.wj (fun b a=>⟨a.1,by rw[G];exact a.2.1,fun e=>a.2.2 (i b e)⟩) (Rd.vk (fun b a o C=>(H b (by have:=a.1;omega)).trans C) (Rd.wg B M))
 ·rcases List.mem_append.1 z with D|D
  ·exact h.good N D
  ·rw[List.mem_singleton.1 D];exact s
 ·exact Chg.y (F:=fun b=>b=q∨v.ownBlock=Y b) (p:=⟨q,4,U⟩) ⟨f.os,f.a,f.c,f.h,fun b a P=>f.u b a (fun e=>P (Or.inr e))⟩ (Or.inl (Or.inl V)) _
theorem ia.tree{a:Nat}(h:ia d m (a:Int) t p L q xs v W)(e:a<256)(l:t.size≤maxLen)(f:I64 p):(fb (d+1)).at_ W (fun b=>L≤b∧b<W.heap.size) (.mk a t 0 p xs) [I O a,J t,I Z 0,I Z p,v]:=
 ⟨⟨e,l,by show (-9223372036854775808:Int)≤0;decide,by show (0:Int)<9223372036854775808;decide,f.1,f.2⟩,v,V,v,V,h.K.K (fun b i=>⟨i.1,i.2.1⟩) (fun g j=>⟨h.own g j,h.K.lt j⟩)⟩
end
instance (x:Int):Decidable (I64 x):=inferInstanceAs (Decidable (_∧_))
theorem lh(x:Int)(n:Nat)(z:Int)(a:z=(n:Int))(w:wD)(h:1≤n)(i:n≤1000000):xL xD 13 #[I Z x,I Z z] w (fun e w'=>∃k:Nat,k<n∧e=Ending.returned (I Z (k:Int))∧FK w w'):=by
 subst a;refine (rE x n w (by omega) (by omega)).mono ?_;rintro e w' ⟨rfl,b⟩;obtain⟨f,j⟩:=pZ x n (by omega);exact⟨(jE x n).toNat,by omega,by rw[Int.toNat_of_nonneg f],b⟩
def ml(d m:Nat) (k:Int) (t:ByteArray) (p:Int) (w0:wD) (q base a N:Nat) (i:wF) (W:wD):Prop:=
 ∃(j:Nat) (xs:List ab) (v:wF),a≤j∧j≤N∧i=I Z (j:Int)∧xs.length=base+j∧Below q w0 W∧ia d m k t p (q+1) q xs v W
section
variable {d m n c q:Nat} {k p:Int} {t:ByteArray} {pv:Option Addr} {xs:List ab} {us vs:List wF} {w0 W W':wD} {T:ab} {g cap:Nat}
theorem ip(r:Below q w0 W)(h:ia d m k t p (q+1) q xs (A pv n c) W)(s:xs.length=n)(f:(fb d).u W (fun b=>q+1≤b∧b<W.heap.size∧(A pv n c).ownBlock≠Y b) xs us)
  (u:(A pv n c).ownBlock=Y g∨W.heap.size≤g) (o:Chg (fun b=>(A pv n c).ownBlock=Y b) W W') (a:W'.ownsRow 0 25 5 (A (Y ⟨g,0,U⟩) (n+1) cap) (n+1) (us++vs))
  (w:(fb d).at_ W' (fun b=>q+1≤b∧b<W'.heap.size∧b≠g) T vs) (j:Good d m T) :
  W'.heap[q]?=Y (wq #[I O k,J t,I Z 0,I Z p,A pv n c] 25 (0,0))∧Below q w0 (W'.setCell ⟨q,4,U⟩ (A (Y ⟨g,0,U⟩) (n+1) cap))∧
   ia d m k t p (q+1) q (xs++[T]) (A (Y ⟨g,0,U⟩) (n+1) cap) (W'.setCell ⟨q,4,U⟩ (A (Y ⟨g,0,U⟩) (n+1) cap)):=by
 have x:q<W.heap.size:=(EN.1 h.h).1;obtain⟨y,z⟩:=h.push s f u o a w j;refine⟨(o.u q x (fun e=>by have:=h.own q e;omega)).trans h.h,Chg.z r z (fun i l=>?_) (by omega),y⟩;rcases l with rfl|l
 ·exact EO _
 ·have:=h.own i l;omega
theorem AT{a:Nat}{v:wF}(h:ia d m (a:Int) t p (q+1) q xs v W)(b:a<256)(f:t.size≤maxLen)(e:I64 p):dH W W.heap.size (d+1) (.mk a t 0 p xs) (xS #[I O a,J t,I Z 0,I Z p,v]):=
 ⟨⟨b,f,by show (-9223372036854775808:Int)≤0;decide,by show (0:Int)<9223372036854775808;decide,e.1,e.2⟩,v,V,Bl (fun _ h=>h) (h.K.K (fun _ i=>i.2.1) (fun _ j=>h.K.lt j))⟩
def fa:List Value:=cS 3 ⟨#[102]⟩ 0 0
def fg(nm:ByteArray) (u:wF):List Value:=[I O 2,J nm,I Z 0,I Z 0,u]
def stB(w4:wD) (p:Option Addr) (n c:Nat) (us:List wF) (nm:ByteArray) (s:Nat) (W:wD):Prop:=if s=0 then (∃x:Wb w4,W=x.1) else ∃u,One 25 w4.heap.size fa W u∧ApS 25 5 w4 p n c (us++fg nm u) W
def phB(w4:wD) (p:Option Addr) (n c:Nat) (us:List wF) (nm:ByteArray) (k:Nat) (W:wD) (ys:List wF):Prop:=
 if k=5 then One 25 w4.heap.size fa W (A (Y ⟨(intOf (ys.getD 0 At)).toNat,0,U⟩) 1 1) else if k=7 then ∃u,One 25 w4.heap.size fa W u∧One 25 w4.heap.size (fg nm u) W (ys.getD 0 At)
 else if k=8 then ∃u,One 25 w4.heap.size fa W u∧ApV 25 5 w4 p n c (us++fg nm u) W (ys.getD 0 At) else True
theorem stB.z{w4:wD}{nm:ByteArray}{s:Nat}(h:stB w4 pv n c us nm s W)(a:FK W W'):stB w4 pv n c us nm s W':=by
 unfold stB at *
 split
 ·rename_i b
  rw[rv b]at h;obtain⟨x,rfl⟩:=h;exact⟨⟨W',x.2.trans (a.mono x.2.size)⟩,V⟩
 ·rename_i b
  rw[qv b]at h;obtain⟨u,e,f⟩:=h;exact⟨u,e.z a,f.z a⟩
theorem phB.C{w4:wD}{nm:ByteArray}{k:Nat}{ys:List wF}(h:phB w4 pv n c us nm k W ys)(a:ApR w4 W W'):phB w4 pv n c us nm k W' ys:=by
 unfold phB at *
 split
 ·rename_i b;rw[rv b]at h;exact h.C a
 ·rename_i b
  rw[qv b]at h
  split
  ·rename_i e
   rw[rv e]at h;obtain⟨u,f,i⟩:=h;exact⟨u,f.C a,i.C a⟩
  ·rename_i e
   rw[qv e]at h
   split
   ·rename_i f
    rw[rv f]at h;obtain⟨u,i,j⟩:=h;exact⟨u,i.C a,j.C a⟩
   ·trivial
theorem Ev{w4:wD}{nm:ByteArray}{K:Nat→Prop}(a:∀b,K b→b<w4.heap.size∧(A pv n c).ownBlock≠Y b):∀(m s:Nat) (W:wD),s≤m→stB w4 pv n c us nm s W→∃x:Ks w4 K,W=x.1:=fun m s W hm h=>by
 unfold stB at h
 split at h
 ·exact gl (E:=25) (sz:=5) (row:=us) (p:=pv) (n:=n) (c:=c) a 0 0 W (EO _) h
 ·obtain⟨u,_,h⟩:=h;exact gl (E:=25) (sz:=5) (row:=us++fg nm u) a 1 1 W (EO _) h
theorem tI{w4:wD}{nm:ByteArray}{s:Nat}(h:stB w4 pv n c us nm s W):w4.heap.size≤W.heap.size:=by
 unfold stB at h
 split at h
 ·obtain⟨x,rfl⟩:=h;exact x.2.size
 ·obtain⟨u,_,h⟩:=h;exact h.h
theorem stB.zero{w4:wD}{nm:ByteArray}:stB w4 pv n c us nm 0 w4.drew:=⟨⟨w4.drew,(EP _ _).drew⟩,V⟩
theorem Ej{w4:wD}{nm:ByteArray}{ys:List wF}(r:stB w4 pv n c us nm 1 W)(s:phB w4 pv n c us nm 8 W ys) :
  ∃u g cap,One 25 w4.heap.size fa W u∧ys.getD 0 At=A (Y ⟨g,0,U⟩) (n+1) cap∧((A pv n c).ownBlock=Y g∨w4.heap.size≤g)∧Chg (fun x=>(A pv n c).ownBlock=Y x) w4 W∧W.ownsRow 0 25 5 (A (Y ⟨g,0,U⟩) (n+1) cap) (n+1) (us++fg nm u):=by
 obtain⟨u,w,a⟩:∃u,One 25 w4.heap.size fa W u∧ApS 25 5 w4 pv n c (us++fg nm u) W:=r;obtain⟨l,y,b⟩:∃u,One 25 w4.heap.size fa W u∧ApV 25 5 w4 pv n c (us++fg nm u) W (ys.getD 0 At):=s
 by_cases o:n<c
 ·have e:ApV 25 5 w4 pv n c (us++fg nm u) W (ys.getD 0 At):=by
   unfold ApV at b ⊢;rw[rv o]at b ⊢;exact b
  obtain⟨g,cap,f,h,i,j⟩:=eZ a e;exact⟨u,g,cap,w,f,h,i,j⟩
 ·have e:ApS 25 5 w4 pv n c (us++fg nm l) W:=by
   unfold ApS at a ⊢;rw[qv o]at a ⊢;exact a
  obtain⟨g,cap,f,h,i,j⟩:=eZ e b;exact⟨l,g,cap,y,f,h,i,j⟩
theorem stB.mk{w4:wD}{nm:ByteArray}{u:wF}(a:One 25 w4.heap.size fa W u)(b:ApS 25 5 w4 pv n c (us++fg nm u) W):stB w4 pv n c us nm 1 W:=⟨u,a,b⟩
theorem phB.mk7{w4:wD}{nm:ByteArray}{u v:wF}(a:One 25 w4.heap.size fa W u)(b:One 25 w4.heap.size (fg nm u) W v):phB w4 pv n c us nm 7 W [v]:=⟨u,a,b⟩
theorem phB.mk8{w4:wD}{nm:ByteArray}{u v:wF}(a:One 25 w4.heap.size fa W u)(b:ApV 25 5 w4 pv n c (us++fg nm u) W v):phB w4 pv n c us nm 8 W [v]:=⟨u,a,b⟩
theorem CB{L:Nat}{nm:ByteArray}{u:wF}(h:One 25 L fa W u):∀x∈fg nm u,x.oneCell'=true:=by
 obtain⟨g5,rfl,_⟩:=h;simp[fg,Value.oneCell']
theorem me{j:Nat}{v:wF}{wr l:wD}(h:(fb d).at_ wr (fun b=>j+1≤b∧b<wr.heap.size) T vs)(f:FK wr l)(r:Chg (fun b=>v.ownBlock=Y b) l W)(w:q≤j)(i:∀g,v.ownBlock=Y g→g≤j)(s:v.ownBlock=Y g∨l.heap.size≤g) :
  (fb d).at_ W (fun b=>q+1≤b∧b<W.heap.size∧b≠g) T vs:=by
 have x:=f.size;have y:=r.h;refine (fb d).N (fun b a=>⟨by have:=a.1;omega,by have:=a.2;omega,?_⟩) ((fb d).C (fun b a o u=>(r.u b (by have:=a.2;omega) (fun e=>by have:=i b e;have:=a.1;omega)).trans ((f.block b a.2).trans u)) h);rintro rfl;rcases s with e|e
 ·have:=i b e;have:=a.1;omega
 ·have:=a.2;omega
theorem zr{L:Nat}{w4:wD}{nm:ByteArray}{u:wF}(C:L≤w4.heap.size)(D:1≤n)(l:nm.size≤maxLen)(z:One 25 w4.heap.size fa W u)(h:W.ownsRow 0 25 5 (A (Y ⟨g,0,U⟩) (n+1) cap) (n+1) (us++fg nm u)) :
  (fb 2).at_ W (fun b=>L≤b∧b<W.heap.size∧b≠g) (.mk 2 nm 0 0 [.mk 3 ⟨#[102]⟩ 0 0 []]) (fg nm u):=by
 obtain⟨g5,rfl,E,o⟩:=z;have w:=(EN.1 o).1;have r:g5≠g:=by
  rintro rfl;rcases h.2 with ⟨e,_⟩|⟨F,y,cur,e,_,f,G,_,s,_⟩
  ·cases e
  ·injection e with j _ B
   injection j with j
   injection j with j
   subst j;subst B;rw[o]at f;injection f with f
   injection f with f
   rw[←f]at s;have s:5=cap*5:=s;omega
 refine⟨⟨show 2<256 by omega,l,show (-9223372036854775808:Int)≤0 by omega,show (0:Int)<9223372036854775808 by omega,show (-9223372036854775808:Int)≤0 by omega,show (0:Int)<9223372036854775808 by omega⟩,_,V,_,V,Or.inr ⟨g5,0,1,List.cons_ne_nil _ _,⟨by omega,w,r⟩,w,EO _,by unfold maxLen;omega,V,fun i x a=>?_⟩⟩
 match i,a with
 | 0,a =>
  injection a with a
  subst a;refine⟨fa,oL (by decide) (by decide) (by decide) (by decide),fun m u hm=>?_⟩;rw[FI _ _ _ _ _ _ o]
  simpa using hm
 | i+1,a =>
  have a:([ab.mk 3 ⟨#[102]⟩ 0 0 []]:List ab)[i+1]?=Y x:=a;simp at a
end
theorem pJ(a0 a1 a2 a3 a4 a5:Int)(w:wD)(ht:aR w) :
  xL xD 4 #[I Z a0,I Z a1,I Z a2,I Z a3,I Z a4,I Z a5] w (am true w):=by
 have HT:=Hd (fun W (hW:FK w W)=>ht.z hW);have HA:=Hd (yT w ht);clear ht
 go_enter Tryz.func4,Tryz.ntmps4
 go_wp2_with fail
 refine EX HA.o ?_;rintro e w1 ⟨rfl,e0⟩;have da:=Hd e0;clear HA e0;go_wp2_with fail
 refine EX (lh a0 34 _ V _ (by decide) (by decide)) ?_;rintro e w2 ⟨nt,cC,rfl,y⟩;have cR:=Hd (da.o.trans (y.mono da.o.size));clear y da;go_wp2_with fail
 refine EX (lh a1 8 _ V _ (by decide) (by decide)) ?_;rintro e w3 ⟨nf,hX,rfl,y⟩;have dc:=Hd (cR.o.trans (y.mono cR.o.size));clear y cR;go_wp2_with fail
 refine EX (lh a2 66 _ V _ (by decide) (by decide)) ?_;rintro e w4 ⟨nr,cT,rfl,y⟩;have dd:=Hd (dc.o.trans (y.mono dc.o.size));clear y dc;go_wp2_with fail
 refine EX (lh a3 10 _ V _ (by decide) (by decide)) ?_;rintro e w5 ⟨nc,hY,rfl,y⟩;have aq:=Hd (dd.o.trans (y.mono dd.o.size));clear y dd;go_wp2_with fail
 refine EX (lh a4 18 _ V _ (by decide) (by decide)) ?_;rintro e w6 ⟨nv,h0,rfl,y⟩;have bR:=Hd (aq.o.trans (y.mono aq.o.size));clear y aq;obtain⟨w7,dg⟩:=zzx ((w6.alloc (wq #[I O 1,J ⟨#[]⟩,I Z 0,I Z 0,A U 0 0] 25)).alloc (wq #[I O 2,J ⟨#[109,97,110,121]⟩,I Z 0,I Z 0,A U 0 0] 25));obtain⟨X0,X1,_⟩:=ap w6 (wq #[I O 1,J ⟨#[]⟩,I Z 0,I Z 0,A U 0 0] 25) (wq #[I O 2,J ⟨#[109,97,110,121]⟩,I Z 0,I Z 0,A U 0 0] 25);have av:=fU w6 (wq #[I O 1,J ⟨#[]⟩,I Z 0,I Z 0,A U 0 0] 25) (wq #[I O 2,J ⟨#[109,97,110,121]⟩,I Z 0,I Z 0,A U 0 0] 25);rw[←dg]at X0 X1 av;obtain⟨gM,gN,e1,h4,e2⟩:=zz5 (bR.o.trans (av.mono bR.o.size)) X0 av bR.o.size (ia.start (d:=1) (m:=1) X1);have gO:=Hd (fun W (hW:FK w6 W)=>bR.o.trans (hW.mono bR.o.size));go_upto_region 6 with fail
 change AR _ _ _ _ ((w6.alloc (wq #[I O 1,J ⟨#[]⟩,I Z 0,I Z 0,A U 0 0] 25)).alloc (wq #[I O 2,J ⟨#[109,97,110,121]⟩,I Z 0,I Z 0,A U 0 0] 25));rw[←dg];clear dg X0 X1 av bR gM;unfold FK at e1 gO;generalize w6.heap.size=q at *;go_wp2_with fail
 go_loopw [20] (ml 1 1 2 ⟨#[109,97,110,121]⟩ 0 w7 (q+1) 0 0 7) (fun i _=>nf-(intOf i).toNat)
 case atStart=>exact⟨0,[],_,EO _,Fa _,V,V,EP _ _,e2.o⟩
 case round =>
  obtain⟨j,xs,v,cV,hj,rfl,hl,y,hk⟩:=hrel;obtain⟨n,hn⟩:=zzy (xs.length);obtain⟨pv,c,rfl⟩:=hk.K.b;rw[hn]at hl hk;obtain⟨HB,Q,HN⟩:=zz3 y hk hn;have cW:(0:Int)≤j:=by omega
  have S:=Hd hl;have b6:n≤9000:=by omega
  clear y hk hl
  by_cases bl:j<nf
  ·have a6:(j:Int)<nf:=by omega
   obtain⟨us,f,M⟩:=Q.o.K;rw[HN.o,iC]at f;have a:=Q.o.h;have C4:=fun x:Ks wr (fun b=>b=q+1)=>x.b V (cells5 a).2.2.2.2
   have ar:∀b,b=q+1→b<wr.heap.size∧(A pv n c).ownBlock≠Y b:=fun b y=>⟨by rw[y];exact (EN.1 a).1,fun e=>by have:=Q.o.own b e;omega⟩
   obtain⟨bn,ak,G,bq⟩:=zz4 f M (gl (E:=25) (sz:=5) (row:=us++cS 3 (nameB j) 0 0) (K:=fun b=>b=q+1) ar) (lz j (by omega));clear f M a ar;go_wp2_with fail
   refine RE.u (by kernel_rfl) 8 [3,5,6] [6] (stA 25 5 wr pv n c (us++cS 3 (nameB j) 0 0)) (ApR wr) (fun i ys=>if i=3 then J (nameB j) else ys.getD 0 At) (phA 25 5 wr pv n c (cS 3 (nameB j) 0 0) (us++cS 3 (nameB j) 0 0) 5 6) (by kernel_rfl) (fun _ _ _ _ _ _ h y=>h.z y) (fun _ _ _ _ h _ hR=>h.C hR) stA.zero ?_;simp only[EY,Fi,EZ,Fh]
   repeat (refine RE.b (fun W=>∃x:Ks wr (fun b=>b=q+1),W=x.1) (G.o _) V V V stA.zero ?_;go_big_quiet_step (fail);refine Bk ?_)
   refine RE.f V V ?_ (fun e3=>?_)
   ·intro W H N R;refine RE.y 14 _ _ V (enters_of Tryz.func14 (by kernel_rfl) V) #[_] (by simp[Act.eval]) ((bq.o W).mono ?_);rintro e W' ⟨rfl,y⟩;exact⟨_,V,[],V,y,ApR.f y,trivial⟩
   simp only[B4,EQ,EW,EV,reduceIte]
   repeat (refine RE.b (fun W=>∃x:Ks wr (fun b=>b=q+1),W=x.1) (G.o _) V V V stA.zero ?_;go_big_quiet_step (fail);refine Bk ?_)
   refine RE.f V V ?_ (fun b5=>?_)
   ·intro W H N R;obtain⟨s9,_,h9⟩:=H;exact cB ej (vs:=cS 3 (nameB j) 0 0) _ V V V h9.h (fun v W' y ho=>⟨[v],V,y,ApR.f y,ho⟩)
   simp only[B4,EQ,EW,EV,Nat.reduceEqDiff,reduceIte]
   repeat (refine RE.b (fun W=>∃x:Ks wr (fun b=>b=q+1),W=x.1) (G.o _) V V V stA.zero ?_;go_big_quiet_step (fail);refine wpQuiet_nil ?_)
   refine RE.f V V ?_ (fun e4=>?_)
   ·intro W H N R;obtain⟨x,rfl⟩:∃x:Wb wr,W=x.1:=N V;exact eC ej (p:=pv) (n:=n) (c:=c) (w4:=wr) (vs:=cS 3 (nameB j) 0 0) (xs:=us) _ _ V V (R 5 b5 (by kernel_rfl) V) V (by simp[Value.oneCell',cS]) x.2 bn.o (by omega) (fun v' W' h1 h2 h3=>⟨[v'],V,h1,h2,h3⟩)
   simp only[B4,EQ,EW,EV,Nat.reduceEqDiff,reduceIte]
   repeat (refine RE.b (fun W=>∃x:Ks wr (fun b=>b=q+1),W=x.1) (G.o _) V V V stA.zero ?_;go_big_quiet_step (fail);refine Bk ?_)
   refine RE.h ?_;intro W N R;have N:ApS 25 5 wr pv n c (us++cS 3 (nameB j) 0 0) W:=N;have hV:ApV 25 5 wr pv n c (us++cS 3 (nameB j) 0 0) W (e4.getD 0 At):=R 6 e4 V;obtain⟨g,cap,eg,hg,H,B⟩:=eZ N hV;rw[eg];obtain⟨a,C,D⟩:=ip HB.o Q.o HN.o ak.o hg H B (T:=.mk 3 (nameB j) 0 0 []) (oL (by decide) (by show 3≤maxLen;unfold maxLen;omega) (by decide) (by decide)) (lx (by show 3≤72007;omega) (EO _));obtain⟨b0,b1,b2,b3,b4⟩:=cells5 a;have f4:=ac a 4;obtain⟨W5,F⟩:=zzx (W.setCell ⟨q+1,4,U⟩ (A (Y ⟨g,0,U⟩) (n+1) cap));rw[←F]at C D;have HP:Hid (ml 1 1 2 ⟨#[109,97,110,121]⟩ 0 w7 (q+1) 0 0 7 (I Z ((j+1:Nat):Int)) W5):=⟨j+1,_,_,by omega,by omega,V,by rw[Fc,HN.o];have:=S.o;show n+1=_;omega,C,D⟩;clear N R eg hg H B a C D C4 G;go_upto_region 8 with fail
   change AR _ _ _ _ (W.setCell ⟨q+1,4,U⟩ (A (Y ⟨g,0,U⟩) (n+1) cap));rw[←F];clear F b0 b1 b2 b3 b4 f4;go_wp2_with fail
   exact⟨HP.o,by simp[intOf];omega⟩
  ·have a6:¬(j:Int)<nf:=by omega
   have br:xs.length≤7:=by rw[HN.o];have:=S.o;omega
   have X:=ia.start (d:=2) (m:=100) (aa HB.o gN.o (Nat.lt_succ_self _));have al:=e1.o.trans (HB.o.mono (Fl q));have bb:=(EN.1 X.h).1;have b7:Hid (∀g,(A U 0 0).ownBlock=Y g→g≤(q+1)):=fun g h=>by cases h
   have b8:Hid (q≤(q+1)):=Fl q;obtain⟨WA,ad⟩:=zzx (wr.alloc (wq #[I O 2,J ⟨#[109,97,110,121]⟩,I Z 0,I Z 0,A pv n c] 25));have P:FK wr WA:=by rw[ad];exact (EP _ wr).alloc (EO _) _
   obtain⟨bt,bc,af⟩:=zz3 P (al.trans (P.mono (Fu bb))) (X.z P);obtain⟨us,f,M⟩:=af.o.K;rw[(V:([]:List ab).length=0),iC,ad]at f;obtain⟨HO,ak⟩:=zz2 f M;obtain⟨b0,b1,b2,b3,b4⟩:=cells5 Q.o.h;obtain⟨x0,x1,x2,x3,x4⟩:=cells5 X.h;clear X P al bb f M;go_upto_region 11 with (at_builtin;go_must (refine dU ej V (.tmp 59) (.tmp 61) V (p:=U) (n:=0) (c:=0) (xs:=us) (z:=[I O 2,J ⟨#[109,97,110,121]⟩,I Z 0,I Z 0,A pv n c]) V V HO.o (p9 wr _) V (by simp[Value.oneCell']) (by omega) ?_);intro g cap W hg H B;rw[←ad]at hg H;clear b0 b1 b2 b3 b4 x0 x1 x2 x3 x4;obtain⟨a,C,D⟩:=ip bc.o af.o (V:([]:List ab).length=0) ak.o hg H B (T:=.mk 2 ⟨#[109,97,110,121]⟩ 0 0 xs) (me (Q.o.tree (by decide) (by decide) (by decide)) bt.o H b8.o b7.o hg) ((kh (by decide) br (by decide) Q.o.good).le (by decide));obtain⟨b0,b1,b2,b3,b4⟩:=cells5 a;have f4:=ac a 4)
   obtain⟨W5,F⟩:=zzx (W.setCell ⟨q,4,U⟩ (A (Y ⟨g,0,U⟩) (0+1) cap));rw[←F]at C D;obtain⟨aq,ba⟩:=zz2 C D;clear hg H B a C D ad;change AR _ _ _ _ (W.setCell ⟨q,4,U⟩ (A (Y ⟨g,0,U⟩) (0+1) cap));rw[←F];clear F b0 b1 b2 b3 b4 f4;go_wp2_with fail
   clear br Q HB HN e2
   go_loopw [21] (ml 2 100 1 ⟨#[]⟩ 0 w6 q 0 1 40) (fun i _=>nt-(intOf i).toNat)
   case atStart=>exact⟨1,_,_,EO _,by decide,V,V,aq.o,ba.o⟩
   case round =>
    obtain⟨j,xs,v,cV,hj,rfl,hl,y,hk⟩:=hrel;obtain⟨n,hn⟩:=zzy (xs.length);obtain⟨pv,c,rfl⟩:=hk.K.b;rw[hn]at hl hk;obtain⟨HB,Q,HN⟩:=zz3 y hk hn;have cW:(0:Int)≤j:=by omega
    have S:=Hd hl;have b6:n≤9000:=by omega
    clear y hk hl
    try clear aq ba
    by_cases bl:j<nt
    ·have a6:(j:Int)<nt:=by omega
     obtain⟨us,f,M⟩:=Q.o.K;rw[HN.o,iC]at f;have a:=Q.o.h;have C4:=fun x:Ks wr (fun b=>b=q)=>x.b V (cells5 a).2.2.2.2
     have ar:∀b,b=q→b<wr.heap.size∧(A pv n c).ownBlock≠Y b:=fun b y=>⟨by rw[y];exact (EN.1 a).1,fun e=>by have:=Q.o.own b e;omega⟩
     obtain⟨bn,ak,G,bq⟩:=zz4 f M (Ev (us:=us) (nm:=nameB j) (K:=fun b=>b=q) ar) (lz j (by omega));clear f M a ar;go_wp2_with fail
     refine RE.u (by kernel_rfl) 10 [3,5,7,8] [8] (stB wr pv n c us (nameB j)) (ApR wr) (fun i ys=>if i=3 then J (nameB j) else if i=5 then A (Y ⟨(intOf (ys.getD 0 At)).toNat,0,U⟩) 1 1 else ys.getD 0 At) (phB wr pv n c us (nameB j)) (by kernel_rfl) (fun _ _ _ _ _ _ h y=>h.z y) (fun _ _ _ _ h _ hR=>h.C hR) stB.zero ?_;simp only[EY,Fi,EZ,Fh]
     repeat (refine RE.b (fun W=>∃x:Ks wr (fun b=>b=q),W=x.1) (G.o _) V V V stB.zero ?_;go_big_quiet_step (fail);refine Bk ?_)
     refine RE.f V V ?_ (fun e3=>?_)
     ·intro W H N R;refine RE.y 14 _ _ V (enters_of Tryz.func14 (by kernel_rfl) V) #[_] (by simp[Act.eval]) ((bq.o W).mono ?_);rintro e W' ⟨rfl,y⟩;exact⟨_,V,[],V,y,ApR.f y,trivial⟩
     simp only[B4,EQ,EW,EV,Nat.reduceEqDiff,reduceIte]
     repeat (refine RE.b (fun W=>∃x:Ks wr (fun b=>b=q),W=x.1) (G.o _) V V V stB.zero ?_;go_big_quiet_step (fail);refine Bk ?_)
     refine RE.f V V ?_ (fun b5=>?_)
     ·intro W H N R;obtain⟨s9,_,h9⟩:=H;exact cB ej (vs:=fa) _ V V V (tI h9) (fun v W' y ho=>by obtain⟨g5,rfl,h1,h2⟩:=ho;exact⟨[I Z g5],V,y,ApR.f y,g5,V,h1,h2⟩)
     simp only[B4,EQ,EW,EV,Nat.reduceEqDiff,reduceIte]
     repeat (refine RE.b (fun W=>∃x:Ks wr (fun b=>b=q),W=x.1) (G.o _) V V V stB.zero ?_;go_big_quiet_step (fail);refine Bk ?_)
     refine RE.f V V ?_ (fun dp=>?_)
     ·intro W H N R;obtain⟨s9,_,h9⟩:=H;have h5:One 25 wr.heap.size fa W (A (Y ⟨(intOf (b5.getD 0 At)).toNat,0,U⟩) 1 1):=R 5 b5 (by kernel_rfl) V;exact cB ej (vs:=fg (nameB j) (A (Y ⟨(intOf (b5.getD 0 At)).toNat,0,U⟩) 1 1)) _ V V V (tI h9) (fun v W' y ho=>⟨[v],V,y,ApR.f y,phB.mk7 (h5.z y) ho⟩)
     simp only[B4,EQ,EW,EV,Nat.reduceEqDiff,reduceIte]
     repeat (refine RE.b (fun W=>∃x:Ks wr (fun b=>b=q),W=x.1) (G.o _) V V V stB.zero ?_;go_big_quiet_step (fail);refine wpQuiet_nil ?_)
     refine RE.f V V ?_ (fun e5=>?_)
     ·intro W H N R;obtain⟨x,rfl⟩:∃x:Wb wr,W=x.1:=N V;obtain⟨u,hu,h7⟩:∃u,One 25 wr.heap.size fa x.1 u∧One 25 wr.heap.size (fg (nameB j) u) x.1 (dp.getD 0 At):=R 7 dp (by kernel_rfl) V;exact eC ej (p:=pv) (n:=n) (c:=c) (w4:=wr) (vs:=fg (nameB j) u) (xs:=us) _ _ V V h7 V (CB hu) x.2 bn.o (by omega) (fun v' W' h1 h2 h3=>⟨[v'],V,stB.mk (hu.C h2) h1,h2,phB.mk8 (hu.C h2) h3⟩)
     simp only[B4,EQ,EW,EV,Nat.reduceEqDiff,reduceIte]
     repeat (refine RE.b (fun W=>∃x:Ks wr (fun b=>b=q),W=x.1) (G.o _) V V V stB.zero ?_;go_big_quiet_step (fail);refine Bk ?_)
     refine RE.h ?_;intro W N R;have N:stB wr pv n c us (nameB j) 1 W:=N;have hV:phB wr pv n c us (nameB j) 8 W e5:=R 8 e5 V;obtain⟨u,g,cap,h5,eg,hg,H,B⟩:=Ej N hV;have gS:q+1≤wr.heap.size:=Q.o.le;rw[eg];obtain⟨a,C,D⟩:=ip HB.o Q.o HN.o ak.o hg H B (zr (L:=q+1) gS (by have:=S.o;omega) (by show 3≤maxLen;unfold maxLen;omega) h5 B) ((kh (n:=1) (m:=1) (l:=[.mk 3 ⟨#[102]⟩ 0 0 []]) (by show 3≤72007;omega) (EO 1) (by decide) (fun T hT=>by rw[List.mem_singleton.1 hT];exact lx (by decide) (EO _))).le (by decide));obtain⟨b0,b1,b2,b3,b4⟩:=cells5 a;have f4:=ac a 4;obtain⟨W5,F⟩:=zzx (W.setCell ⟨q,4,U⟩ (A (Y ⟨g,0,U⟩) (n+1) cap));rw[←F]at C D;have HP:Hid (ml 2 100 1 ⟨#[]⟩ 0 w6 q 0 1 40 (I Z ((j+1:Nat):Int)) W5):=⟨j+1,_,_,by omega,by omega,V,by rw[Fc,HN.o];have:=S.o;show n+1=_;omega,C,D⟩;clear N R eg hg H B a C D C4 G;go_upto_region 13 with fail
     change AR _ _ _ _ (W.setCell ⟨q,4,U⟩ (A (Y ⟨g,0,U⟩) (n+1) cap));rw[←F];clear F b0 b1 b2 b3 b4 f4;go_wp2_with fail
     exact⟨HP.o,by simp[intOf];omega⟩
    ·have a6:¬(j:Int)<nt:=by omega
     generalize n=n2 at *;have h6:n2≤40:=by have:=S.o;omega
     clear b6 S;go_wp2_with fail
     go_loopw [22] (ml 2 100 1 ⟨#[]⟩ 0 w6 q n2 0 66) (fun i _=>nr-(intOf i).toNat)
     case atStart=>exact⟨0,_,_,EO _,Fa _,V,by rw[HN.o];rfl,HB.o,Q.o⟩
     case round =>
      obtain⟨j,xs,v,cV,hj,rfl,hl,y,hk⟩:=hrel;obtain⟨n,hn⟩:=zzy (xs.length);obtain⟨pv,c,rfl⟩:=hk.K.b;rw[hn]at hl hk;obtain⟨HB,Q,HN⟩:=zz3 y hk hn;have cW:(0:Int)≤j:=by omega
      have S:=Hd hl;have b6:n≤9000:=by omega
      clear y hk hl
      try clear cR h8
      by_cases bl:j<nr
      ·have a6:(j:Int)<nr:=by omega
       obtain⟨e6,e7⟩:=zz2 (fun W=>rE a5 2003 W (by decide) (by decide)) (fun W=>rE a4 2 W (by decide) (by decide));obtain⟨ih,iv⟩:=pZ a5 2003 (by decide);obtain⟨ix,iA⟩:=pZ a4 2 (by decide);unfold Dg at e6 e7;generalize jE a5 2003=s at *;generalize jE a4 2=z at *;have hm:-2003≤s*(1-2*z)∧s*(1-2*z)≤2003:=by
        have:z=0∨z=1:=by omega
        rcases this with rfl|rfl
        ·omega
        ·omega
       obtain⟨iB,iX⟩:=hm;obtain⟨us,f,M⟩:=Q.o.K;rw[HN.o,iC]at f;have a:=Q.o.h;have C4:=fun x:Ks wr (fun b=>b=q)=>x.b V (cells5 a).2.2.2.2
       have ar:∀b,b=q→b<wr.heap.size∧(A pv n c).ownBlock≠Y b:=fun b y=>⟨by rw[y];exact (EN.1 a).1,fun e=>by have:=Q.o.own b e;omega⟩
       obtain⟨bn,ak,G,bq⟩:=zz4 f M (gl (E:=25) (sz:=5) (row:=us++cS 4 (nameB j) (s*(1-2*z)) 0) (K:=fun b=>b=q) ar) (lz j (by omega));clear f M a ar;go_wp2_with fail
       refine RE.u (by kernel_rfl) 15 [3,5,7,12,13] [13] (stA 25 5 wr pv n c (us++cS 4 (nameB j) (s*(1-2*z)) 0)) (ApR wr) (fun i ys=>if i=3 then J (nameB j) else if i=5 then I Z s else if i=7 then I Z z else ys.getD 0 At) (phA 25 5 wr pv n c (cS 4 (nameB j) (s*(1-2*z)) 0) (us++cS 4 (nameB j) (s*(1-2*z)) 0) 12 13) (by kernel_rfl) (fun _ _ _ _ _ _ h y=>h.z y) (fun _ _ _ _ h _ hR=>h.C hR) stA.zero ?_;simp only[EY,Fi,EZ,Fh]
       repeat (refine RE.b (fun W=>∃x:Ks wr (fun b=>b=q),W=x.1) (G.o _) V V V stA.zero ?_;go_big_quiet_step (fail);refine Bk ?_)
       refine RE.f V V ?_ (fun e3=>?_)
       ·intro W H N R;refine RE.y 14 _ _ V (enters_of Tryz.func14 (by kernel_rfl) V) #[_] (by simp[Act.eval]) ((bq.o W).mono ?_);rintro e W' ⟨rfl,y⟩;exact⟨_,V,[],V,y,ApR.f y,trivial⟩
       simp only[B4,EQ,EW,EV,Nat.reduceEqDiff,reduceIte]
       repeat (refine RE.b (fun W=>∃x:Ks wr (fun b=>b=q),W=x.1) (G.o _) V V V stA.zero ?_;go_big_quiet_step (fail);refine Bk ?_)
       refine RE.f V V ?_ (fun b5=>?_)
       ·intro W H N R;refine RE.y 13 _ _ V (enters_of Tryz.func13 (by kernel_rfl) V) #[_,_] (by simp[Act.eval]) ((e6.o W).mono ?_);rintro e W' ⟨rfl,y⟩;exact⟨_,V,[],V,y,ApR.f y,trivial⟩
       simp only[B4,EQ,EW,EV,Nat.reduceEqDiff,reduceIte]
       repeat (refine RE.b (fun W=>∃x:Ks wr (fun b=>b=q),W=x.1) (G.o _) V V V stA.zero ?_;go_big_quiet_step (fail);refine Bk ?_)
       refine RE.f V V ?_ (fun dp=>?_)
       ·intro W H N R;refine RE.y 13 _ _ V (enters_of Tryz.func13 (by kernel_rfl) V) #[_,_] (by simp[Act.eval]) ((e7.o W).mono ?_);rintro e W' ⟨rfl,y⟩;exact⟨_,V,[],V,y,ApR.f y,trivial⟩
       simp only[B4,EQ,EW,EV,Nat.reduceEqDiff,reduceIte]
       repeat (refine RE.b (fun W=>∃x:Ks wr (fun b=>b=q),W=x.1) (G.o _) V V V stA.zero ?_;go_big_quiet_step (fail);refine Bk ?_)
       refine RE.f V V ?_ (fun b9=>?_)
       ·intro W H N R;obtain⟨s9,_,h9⟩:=H;exact cB ej (vs:=cS 4 (nameB j) (s*(1-2*z)) 0) _ V V V h9.h (fun v W' y ho=>⟨[v],V,y,ApR.f y,ho⟩)
       simp only[B4,EQ,EW,EV,Nat.reduceEqDiff,reduceIte]
       repeat (refine RE.b (fun W=>∃x:Ks wr (fun b=>b=q),W=x.1) (G.o _) V V V stA.zero ?_;go_big_quiet_step (fail);refine wpQuiet_nil ?_)
       refine RE.f V V ?_ (fun bd=>?_)
       ·intro W H N R;obtain⟨x,rfl⟩:∃x:Wb wr,W=x.1:=N V;exact eC ej (p:=pv) (n:=n) (c:=c) (w4:=wr) (vs:=cS 4 (nameB j) (s*(1-2*z)) 0) (xs:=us) _ _ V V (R 12 b9 (by kernel_rfl) V) V (by simp[Value.oneCell',cS]) x.2 bn.o (by omega) (fun v' W' h1 h2 h3=>⟨[v'],V,h1,h2,h3⟩)
       simp only[B4,EQ,EW,EV,Nat.reduceEqDiff,reduceIte]
       repeat (refine RE.b (fun W=>∃x:Ks wr (fun b=>b=q),W=x.1) (G.o _) V V V stA.zero ?_;go_big_quiet_step (fail);refine Bk ?_)
       refine RE.h ?_;intro W N R;have N:ApS 25 5 wr pv n c (us++cS 4 (nameB j) (s*(1-2*z)) 0) W:=N;have hV:ApV 25 5 wr pv n c (us++cS 4 (nameB j) (s*(1-2*z)) 0) W (bd.getD 0 At):=R 13 bd V;obtain⟨g,cap,eg,hg,H,B⟩:=eZ N hV;rw[eg];obtain⟨a,C,D⟩:=ip HB.o Q.o HN.o ak.o hg H B (T:=.mk 4 (nameB j) (s*(1-2*z)) 0 []) (oL (by decide) (by show 3≤maxLen;unfold maxLen;omega) ⟨by omega,by omega⟩ (by decide)) (lx (by show 3≤72007;omega) (by decide));obtain⟨b0,b1,b2,b3,b4⟩:=cells5 a;have f4:=ac a 4;obtain⟨W5,F⟩:=zzx (W.setCell ⟨q,4,U⟩ (A (Y ⟨g,0,U⟩) (n+1) cap));rw[←F]at C D;have HP:Hid (ml 2 100 1 ⟨#[]⟩ 0 w6 q n2 0 66 (I Z ((j+1:Nat):Int)) W5):=⟨j+1,_,_,by omega,by omega,V,by rw[Fc,HN.o];have:=S.o;show n+1=_;omega,C,D⟩;clear N R eg hg H B a C D C4 G;go_upto_region 17 with fail
       change AR _ _ _ _ (W.setCell ⟨q,4,U⟩ (A (Y ⟨g,0,U⟩) (n+1) cap));rw[←F];clear F b0 b1 b2 b3 b4 f4;go_wp2_with fail
       exact⟨HP.o,by simp[intOf];omega⟩
      ·have a6:¬(j:Int)<nr:=by omega
       generalize n=nx at *;generalize xs=xx at *;have hK:nx≤106:=by have:=S.o;omega
       clear b6 S;have af:=Q;have c0:=HN;have bc:=HB;generalize wr=wl at *;generalize pv=px at *;generalize c=cx at *;clear Q HN HB;obtain⟨w9,c1⟩:=zzx (wl.alloc (wq #[I O 4,J ⟨#[108,97,115,116]⟩,I Z 0,I Z 7,A U 0 0] 25));have e8:FK wl w9:=by rw[c1];exact (EP _ wl).alloc (EO _) _
       have ds:=p9 wl (wq #[I O 4,J ⟨#[108,97,115,116]⟩,I Z 0,I Z 7,A U 0 0] 25);rw[←c1]at ds;obtain⟨e9,fm⟩:=zz2 e8 (ia.start (d:=1) (m:=8) ds);clear e8 ds;go_upto_region 20 with fail
       change AR _ _ _ _ (wl.alloc (wq #[I O 4,J ⟨#[108,97,115,116]⟩,I Z 0,I Z 7,A U 0 0] 25));rw[←c1];clear c1;go_wp2_with fail
       go_loopw [24] (ml 1 8 4 ⟨#[108,97,115,116]⟩ 7 wl wl.heap.size 0 0 10) (fun i _=>nc-(intOf i).toNat)
       case atStart=>exact⟨0,[],_,EO _,Fa _,V,V,e9.o,fm.o⟩
       case round =>
        obtain⟨jo,xo,v,cV,hj,rfl,hl,y,hk⟩:=hrel;obtain⟨no,hn⟩:=zzy (xo.length);obtain⟨po,co,rfl⟩:=hk.K.b;rw[hn]at hl hk;obtain⟨ca,c3,cb⟩:=zz3 y hk hn;have cW:(0:Int)≤jo:=by omega
        have c8:=Hd hl;have hL:no≤9000:=by omega
        clear y hk hl
        try clear e9 fm
        by_cases bl:jo<nc
        ·have a6:(jo:Int)<nc:=by omega
         generalize wr=wo at *;obtain⟨wy,c5⟩:=zzx (wo.alloc (wq #[I O 5,J ⟨#[109,97,110,121]⟩,I Z 0,I Z 0,A U 0 0] 25));have fv:FK wo wy:=by rw[c5];exact (EP _ wo).alloc (EO _) _
         have dv:=p9 wo (wq #[I O 5,J ⟨#[109,97,110,121]⟩,I Z 0,I Z 0,A U 0 0] 25);rw[←c5]at dv;obtain⟨fz,fI⟩:=zz2 fv (ia.start (d:=0) (m:=1) dv);clear fv dv;go_upto_region 24 with fail
         change AR _ _ _ _ (wo.alloc (wq #[I O 5,J ⟨#[109,97,110,121]⟩,I Z 0,I Z 0,A U 0 0] 25));rw[←c5];clear c5;go_wp2_with fail
         go_loopw [26] (ml 0 1 5 ⟨#[109,97,110,121]⟩ 0 wo wo.heap.size 0 0 7) (fun i _=>nf-(intOf i).toNat)
         case atStart=>exact⟨0,[],_,EO _,Fa _,V,V,fz.o,fI.o⟩
         case round =>
          obtain⟨j,xs,v,cV,hj,rfl,hl,y,hk⟩:=hrel;obtain⟨n,hn⟩:=zzy (xs.length);obtain⟨pv,c,rfl⟩:=hk.K.b;rw[hn]at hl hk;obtain⟨HB,Q,HN⟩:=zz3 y hk hn;have cW:(0:Int)≤j:=by omega
          have S:=Hd hl;have b6:n≤9000:=by omega
          clear y hk hl
          try clear fz fI
          by_cases bl:j<nf
          ·have a6:(j:Int)<nf:=by omega
           obtain⟨v1,i1,gT,jj⟩:∃v1:Nat,1≤v1∧v1≤18∧max (1:Int) (nv:Int)=(v1:Int):=⟨max 1 nv,by omega,by omega,by omega⟩;have ha:jo*nf≤10*8:=Nat.mul_le_mul (by omega) (by omega);have hM:(0:Int)≤(jo:Int)*(nf:Int):=by rw[←Int.natCast_mul];exact Int.natCast_nonneg _
           have hN:(jo:Int)*(nf:Int)≤80:=by rw[←Int.natCast_mul];exact Int.ofNat_le.2 ha
           have jv:(1:Int)≤(v1:Int):=by omega
           have j2:(j+jo*nf) % v1<18:=ET (Nat.mod_lt _ (by omega)) gT;obtain⟨us,f,M⟩:=Q.o.K;rw[HN.o,iC]at f;have a:=Q.o.h;have C4:=fun x:Ks wr (fun b=>b=wo.heap.size)=>x.b V (cells5 a).2.2.2.2
           have ar:∀b,b=wo.heap.size→b<wr.heap.size∧(A pv n c).ownBlock≠Y b:=fun b y=>⟨by rw[y];exact (EN.1 a).1,fun e=>by have:=Q.o.own b e;omega⟩
           obtain⟨bn,ak,G⟩:=zz3 f M (gl (E:=25) (sz:=5) (row:=us++cS 13 (nameB ((j+jo*nf) % v1)) 0 9) (K:=fun b=>b=wo.heap.size) ar);have bq:Hid (∀W,xL xD 14 #[I Z (((j:Int)+(jo:Int)*(nf:Int)) % (v1:Int))] W (fun e w'=>e=Ending.returned (J (nameB ((j+jo*nf) % v1)))∧FK W w')):=lz ((j+jo*nf) % v1) (by omega);clear f M a ar;go_wp2_with fail
           refine RE.u (by kernel_rfl) 15 [10,12,13] [13] (stA 25 5 wr pv n c (us++cS 13 (nameB ((j+jo*nf) % v1)) 0 9)) (ApR wr) (fun i ys=>if i=10 then J (nameB ((j+jo*nf) % v1)) else ys.getD 0 At) (phA 25 5 wr pv n c (cS 13 (nameB ((j+jo*nf) % v1)) 0 9) (us++cS 13 (nameB ((j+jo*nf) % v1)) 0 9) 12 13) (by kernel_rfl) (fun _ _ _ _ _ _ h y=>h.z y) (fun _ _ _ _ h _ hR=>h.C hR) stA.zero ?_;simp only[EY,Fi,EZ,Fh]
           repeat (refine RE.b (fun W=>∃x:Ks wr (fun b=>b=wo.heap.size),W=x.1) (G.o _) V V V stA.zero ?_;go_big_quiet_step (fail);refine Bk ?_)
           refine RE.f V V ?_ (fun hO=>?_)
           ·intro W H N R;refine RE.y 14 _ _ V (enters_of Tryz.func14 (by kernel_rfl) V) #[_] (by simp[Act.eval]) ((bq.o W).mono ?_);rintro e W' ⟨rfl,y⟩;exact⟨_,V,[],V,y,ApR.f y,trivial⟩
           simp only[B4,EQ,EW,EV,reduceIte]
           repeat (refine RE.b (fun W=>∃x:Ks wr (fun b=>b=wo.heap.size),W=x.1) (G.o _) V V V stA.zero ?_;go_big_quiet_step (fail);refine Bk ?_)
           refine RE.f V V ?_ (fun b9=>?_)
           ·intro W H N R;obtain⟨s9,_,h9⟩:=H;exact cB ej (vs:=cS 13 (nameB ((j+jo*nf) % v1)) 0 9) _ V V V h9.h (fun v W' y ho=>⟨[v],V,y,ApR.f y,ho⟩)
           simp only[B4,EQ,EW,EV,Nat.reduceEqDiff,reduceIte]
           repeat (refine RE.b (fun W=>∃x:Ks wr (fun b=>b=wo.heap.size),W=x.1) (G.o _) V V V stA.zero ?_;go_big_quiet_step (fail);refine wpQuiet_nil ?_)
           refine RE.f V V ?_ (fun bd=>?_)
           ·intro W H N R;obtain⟨x,rfl⟩:∃x:Wb wr,W=x.1:=N V;exact eC ej (p:=pv) (n:=n) (c:=c) (w4:=wr) (vs:=cS 13 (nameB ((j+jo*nf) % v1)) 0 9) (xs:=us) _ _ V V (R 12 b9 (by kernel_rfl) V) V (by simp[Value.oneCell',cS]) x.2 bn.o (by omega) (fun v' W' h1 h2 h3=>⟨[v'],V,h1,h2,h3⟩)
           simp only[B4,EQ,EW,EV,Nat.reduceEqDiff,reduceIte]
           repeat (refine RE.b (fun W=>∃x:Ks wr (fun b=>b=wo.heap.size),W=x.1) (G.o _) V V V stA.zero ?_;go_big_quiet_step (fail);refine Bk ?_)
           refine RE.h ?_;intro W N R;have N:ApS 25 5 wr pv n c (us++cS 13 (nameB ((j+jo*nf) % v1)) 0 9) W:=N;have hV:ApV 25 5 wr pv n c (us++cS 13 (nameB ((j+jo*nf) % v1)) 0 9) W (bd.getD 0 At):=R 13 bd V;obtain⟨g,cap,eg,hg,H,B⟩:=eZ N hV;rw[eg];obtain⟨a,C,D⟩:=ip HB.o Q.o HN.o ak.o hg H B (T:=.mk 13 (nameB ((j+jo*nf) % v1)) 0 9 []) (oL (by decide) (by show 3≤maxLen;unfold maxLen;omega) (by decide) (by decide)) (lx (by show 3≤72007;omega) (EO _));obtain⟨b0,b1,b2,b3,b4⟩:=cells5 a;have f4:=ac a 4;obtain⟨W5,F⟩:=zzx (W.setCell ⟨wo.heap.size,4,U⟩ (A (Y ⟨g,0,U⟩) (n+1) cap));rw[←F]at C D;have HP:Hid (ml 0 1 5 ⟨#[109,97,110,121]⟩ 0 wo wo.heap.size 0 0 7 (I Z ((j+1:Nat):Int)) W5):=⟨j+1,_,_,by omega,by omega,V,by rw[Fc,HN.o];have:=S.o;show n+1=_;omega,C,D⟩;clear N R eg hg H B a C D C4 G;go_upto_region 26 with fail
           change AR _ _ _ _ (W.setCell ⟨wo.heap.size,4,U⟩ (A (Y ⟨g,0,U⟩) (n+1) cap));rw[←F];clear F b0 b1 b2 b3 b4 f4;go_wp2_with fail
           exact⟨HP.o,by simp[intOf];omega⟩
          ·have a6:¬(j:Int)<nf:=by omega
           have br:xs.length≤7:=by rw[HN.o];have:=S.o;omega
           have X:=c3.o.z HB.o;have al:=ca.o.trans (HB.o.mono ca.o.size);have bb:=(EN.1 X.h).1;have b7:Hid (∀g,(A po no co).ownBlock=Y g→g≤wo.heap.size):=fun g h=>Fu (c3.o.K.lt h)
           have b8:Hid (wl.heap.size≤wo.heap.size):=ca.o.size;obtain⟨WA,ad⟩:=zzx (wr.alloc (wq #[I O 5,J ⟨#[109,97,110,121]⟩,I Z 0,I Z 0,A pv n c] 25));have P:FK wr WA:=by rw[ad];exact (EP _ wr).alloc (EO _) _
           obtain⟨bt,bc,af⟩:=zz3 P (al.trans (P.mono (Fu bb))) (X.z P);obtain⟨us,f,M⟩:=af.o.K;rw[cb.o,iC,ad]at f;obtain⟨HO,ak⟩:=zz2 f M;obtain⟨b0,b1,b2,b3,b4⟩:=cells5 Q.o.h;obtain⟨x0,x1,x2,x3,x4⟩:=cells5 X.h;clear X P al bb f M;go_upto_region 22 with (at_builtin;go_must (refine dU ej V (.tmp 127) (.tmp 129) V (p:=po) (n:=no) (c:=co) (xs:=us) (z:=[I O 5,J ⟨#[109,97,110,121]⟩,I Z 0,I Z 0,A pv n c]) V V HO.o (p9 wr _) V (by simp[Value.oneCell']) (by omega) ?_);intro g cap W hg H B;rw[←ad]at hg H;clear b0 b1 b2 b3 b4 x0 x1 x2 x3 x4;obtain⟨a,C,D⟩:=ip bc.o af.o cb.o ak.o hg H B (T:=.mk 5 ⟨#[109,97,110,121]⟩ 0 0 xs) (me (Q.o.tree (by decide) (by decide) (by decide)) bt.o H b8.o b7.o hg) (kh (n:=7) (m:=1) (by decide) br (by decide) Q.o.good);obtain⟨b0,b1,b2,b3,b4⟩:=cells5 a;have f4:=ac a 4)
           obtain⟨W5,F⟩:=zzx (W.setCell ⟨wl.heap.size,4,U⟩ (A (Y ⟨g,0,U⟩) (no+1) cap));rw[←F]at C D;obtain⟨aq,ba⟩:=zz2 C D;clear hg H B a C D ad;change AR _ _ _ _ (W.setCell ⟨wl.heap.size,4,U⟩ (A (Y ⟨g,0,U⟩) (no+1) cap));rw[←F];clear F b0 b1 b2 b3 b4 f4;go_wp2_with fail
           exact⟨⟨jo+1,_,_,by omega,by omega,V,by rw[Fc,cb.o];have:=c8.o;show no+1=_;omega,aq.o,ba.o⟩,by simp[intOf];omega⟩
        ·have a6:¬(jo:Int)<nc:=by omega
         have Q:=c3;have HB:=ca;have HN:=cb;generalize xo=xs at *;generalize no=n at *;generalize po=pv at *;generalize co=c at *;clear c3 ca cb;have br:xs.length≤10:=by rw[HN.o];have:=c8.o;omega
         have X:=af.o.z HB.o;have al:=bc.o.trans (HB.o.mono (Nat.le_of_succ_le af.o.le));have bb:=(EN.1 X.h).1;have b7:Hid (∀g,(A px nx cx).ownBlock=Y g→g≤wl.heap.size):=fun g h=>Fu (af.o.K.lt h)
         have b8:Hid (q≤wl.heap.size):=Nat.le_of_succ_le af.o.le;obtain⟨WA,ad⟩:=zzx (wr.alloc (wq #[I O 4,J ⟨#[108,97,115,116]⟩,I Z 0,I Z 7,A pv n c] 25));have P:FK wr WA:=by rw[ad];exact (EP _ wr).alloc (EO _) _
         obtain⟨bt,bc,af⟩:=zz3 P (al.trans (P.mono (Fu bb))) (X.z P);obtain⟨us,f,M⟩:=af.o.K;rw[c0.o,iC,ad]at f;obtain⟨HO,ak⟩:=zz2 f M;obtain⟨b0,b1,b2,b3,b4⟩:=cells5 Q.o.h;obtain⟨x0,x1,x2,x3,x4⟩:=cells5 X.h;clear X P al bb f M;go_upto_region 30 with (at_builtin;go_must (refine dU ej V (.tmp 133) (.tmp 135) V (p:=px) (n:=nx) (c:=cx) (xs:=us) (z:=[I O 4,J ⟨#[108,97,115,116]⟩,I Z 0,I Z 7,A pv n c]) V V HO.o (p9 wr _) V (by simp[Value.oneCell']) (by omega) ?_);intro g cap W hg H B;rw[←ad]at hg H;clear b0 b1 b2 b3 b4 x0 x1 x2 x3 x4;obtain⟨a,C,D⟩:=ip bc.o af.o c0.o ak.o hg H B (T:=.mk 4 ⟨#[108,97,115,116]⟩ 0 7 xs) (me (Q.o.tree (by decide) (by decide) (by decide)) bt.o H b8.o b7.o hg) ((kh (n:=10) (m:=8) (by decide) br (by decide) Q.o.good).le (by decide));obtain⟨b0,b1,b2,b3,b4⟩:=cells5 a;have f4:=ac a 4)
         obtain⟨W5,F⟩:=zzx (W.setCell ⟨q,4,U⟩ (A (Y ⟨g,0,U⟩) (nx+1) cap));rw[←F]at C D;obtain⟨aq,ba⟩:=zz2 C D;clear hg H B a C D ad;change AR _ _ _ _ (W.setCell ⟨q,4,U⟩ (A (Y ⟨g,0,U⟩) (nx+1) cap));rw[←F];clear F b0 b1 b2 b3 b4 f4;clear Q HB HN br;have bB:=kh (d:=2) (m:=100) (n:=110) (k:=1) (t:=⟨#[]⟩) (nu:=0) (p:=0) (by decide) (by rw[Fc,c0.o];show nx+1≤110;omega) (by decide) ba.o.good;have cc:=AT ba.o (by decide) (by decide) (by decide);obtain⟨ea,eb⟩:=zz2 (gO.o _ aq.o) ba.o.h;clear ba aq af bc c0;generalize ab.mk 1 ⟨#[]⟩ 0 0 (xx++[ab.mk 4 ⟨#[108,97,115,116]⟩ 0 7 xs])=T at *;have ec:=Hd (show gx 3 T from bB.1);have HM:=Hd (show aM 3 T≤100000 from EU bB.2 (by decide));have ek:=Hd (fun fM (hV:FK W5 fM)=>cc.z hV);clear bB cc;have fT:=Hd (tQ 3 T _ W5 (ek.o _ (EP _ _)) ec.o (HT.o _ ea.o));have gf:=Hd (fun fM (hV:FK W5 fM)=>yF 3 T _ W5.heap.size fM (ek.o fM hV) hV.size ec.o HM.o);obtain⟨r,hr⟩:=zzy (eP 3 T);rw[hr]at fT gf;clear hr ek ec HM;obtain⟨m0,m1,m2,m3,m4⟩:=cells5 eb.o;go_wp2_with fail
         refine fT.o.mono ?_;intro e w4 ch;obtain⟨el,pt,ct,pr,cr,rfl,en,eo⟩:=rS ch;obtain⟨nt,cC⟩:=zzy ((mj r).a.length);obtain⟨nr,cT⟩:=zzy ((mj r).b.length);obtain⟨⟨fe,fp⟩,ep⟩:∃x,B6 r=x:=⟨_,rfl⟩;rw[cC]at en ⊢;rw[cT]at eo ⊢;rw[ep];dsimp only;obtain⟨hc,hd,hf,hh,hi⟩:=zz5 cC cT ep en eo;obtain⟨wA,c6⟩:=zzx (((w4.alloc (wq #[A pt nt ct,A pr nr cr] 32)).alloc (wq #[I Z fe,I Z fp] 35)));have P:FK w4 wA:=by rw[c6];exact fU w4 _ _
         obtain⟨X0,X1,_⟩:=ap w4 (wq #[A pt nt ct,A pr nr cr] 32) (wq #[I Z fe,I Z fp] 35);rw[←c6]at X0 X1;have gg:w4.heap.size+1<wA.heap.size:=(EN.1 X1).1;have ck:=el.trans (P.mono el.size);obtain⟨hp,hq,hs,bt,cl,gD⟩:=zz6 (aa ck eb.o (EN.1 eb.o).1) X0 X1 P ck c6;clear el P X0 X1 ck en eo ch m0 m1 m2 m3 m4 cC cT ep c6;go_upto_region 31 with fail
         change AR _ _ _ _ ((w4.alloc (wq #[A pt nt ct,A pr nr cr] 32)).alloc (wq #[I Z fe,I Z fp] 35));rw[←gD.o];clear gD;obtain⟨b0,b1,b2,b3,b4⟩:=cells5 hp.o;go_wp2_with fail
         refine (gf.o wA cl.o).mono ?_;intro e w7 ch;obtain⟨av,pu,cu,pv,cv,rfl,er,et⟩:=rS ch;rw[hc.o]at er ⊢;rw[hd.o]at et ⊢;rw[hf.o];dsimp only;obtain⟨hv,hx⟩:=zz2 er et;obtain⟨wB,c7⟩:=zzx (((w7.alloc (wq #[A pu nt cu,A pv nr cv] 32)).alloc (wq #[I Z fe,I Z fp] 35)));have ev:FK w7 wB:=by rw[c7];exact fU w7 _ _
         obtain⟨X0,X1,_⟩:=ap w7 (wq #[A pu nt cu,A pv nr cv] 32) (wq #[I Z fe,I Z fp] 35);rw[←c7]at X0 X1;have hP:w7.heap.size+1<wB.heap.size:=(EN.1 X1).1;have bk:=av.trans (ev.mono av.size);have hQ:=av.size;obtain⟨hy,hz,hA,hD,hG,cq,gE⟩:=zz7 X0 X1 (aa bk hq.o (by omega)) (aa bk hs.o gg) bk ev (ea.o.trans ((cl.o.trans (bk.mono cl.o.size)).mono ea.o.size));have gF:=Hd c7;clear av ev X0 X1 bk er et ch b0 b1 b2 b3 b4 c7;go_upto_region 32 with fail
         change AR _ _ _ _ ((w7.alloc (wq #[A pu nt cu,A pv nr cv] 32)).alloc (wq #[I Z fe,I Z fp] 35));rw[←gF.o];clear gF;obtain⟨x0,x1,_,_⟩:=eB hA.o;obtain⟨y0,y1,_,_⟩:=eB hD.o;obtain⟨z0,z1,_,_⟩:=eB hy.o;obtain⟨v0,v1,_,_⟩:=eB hz.o;have cA:Hid (xL xD 11 #[xS #[A pt nt ct,A pr nr cr],xS #[A pu nt cu,A pv nr cv]] wB (cz wB)):=by
          have hI:=hG.o;have gH:=bt.o;have k4:FK w4 wB:=gH.trans (hI.mono gH.size);have bl:∀b,b<w4.heap.size→b<wB.heap.size:=fun b h=>ET h k4.size
          have c9:∀b,b<w7.heap.size→b<wB.heap.size:=fun b h=>ET h cq.o.size
          exact uC 3 (mj r) _ _ wB (mx.2 ⟨_,_,V,Rd.y bl (Rd.X (Rd.y (fun b h=>h.2) hh.o) (fun _ h=>h) k4),Rd.y bl (Rd.X (Rd.y (fun b h=>h.2) hi.o) (fun _ h=>h) k4)⟩)
           (mx.2 ⟨_,_,V,Rd.y c9 (Rd.X (Rd.y (fun b h=>h.2) hv.o) (fun _ h=>h) cq.o),Rd.y c9 (Rd.X (Rd.y (fun b h=>h.2) hx.o) (fun _ h=>h) cq.o)⟩)
         go_wp2_with fail
         refine EX cA.o ?_;rintro e w8 ⟨rfl,gL⟩;have hJ:=Hd (gE.o.trans (gL.mono gE.o.size));clear gL cA x0 x1 y0 y1 z0 z1 v0 v1;go_wp2_with fail
         go_ret;exact⟨V,hJ.o⟩
