/- Parts of one proof, joined; conditions stand in each theorem. -/
import Derived.Test.YtkhfjgjjhlnnnaaGreatDoorMJ
import Derived.Test.YtkhfjgjjhlnnnaaGreatDoorMRI
import Derived.Great.BuildSlice
import Derived.Laws.Rows
import Derived.ChangeArms
import Derived.RowKit
open Go renaming World→vk,Value→vn,Oper→At
open Option renaming some→Y
open Go.Proofs.Tryz renaming prog→wq
namespace Go.Proofs.YtkhfjgjjhlnnnaaGreatDoor
set_option maxRecDepth 100000
open Go.RowKit
theorem aj.more{w:vk}{B:Nat}:∀{d:Nat} {a:List ab} {c:vn},aj w B d a c→aj w B (d+1) a c:=by
 intro d
 induction d with
 | zero =>
  rintro a c ⟨f,sp,cap,e⟩;exact Or.inl ⟨f,sp,cap,e⟩
 | succ d g =>
  rintro a c (h|⟨b,off,cap,e,j,k,m,n,p⟩)
  ·exact Or.inl h
  ·refine Or.inr ⟨b,off,cap,e,j,k,m,n,fun i T q=>?_⟩;obtain⟨r,s,t,u,c2,v,c4,x⟩:=p i T q;exact⟨r,s,t,u,c2,v,c4,g x⟩
theorem aj.deeper{w:vk}{B d d':Nat}(c:d≤d'){a:List ab}{b:vn}(h:aj w B d a b):aj w B d' a b:=by
 induction c with
 | refl=>exact h
 | step _ e=>exact e.more
theorem bz.deeper{w:vk}{B d d':Nat}(a:d≤d'){T:ab}{v:vn}(h:bz w B d T v):bz w B d' T v:=by
 obtain⟨b,s,c,e⟩:=h;exact⟨b,s,c,e.deeper a⟩
inductive RTy where
 | node (d:Nat) (T:ab)
 | kids (d:Nat) (Ts:List ab)
 | box
 | val (v:vn)
 | raw
def tidy(l:List At) (a:Nat):Bool:=
 (List.range l.length).all fun i=>match l[i]? with
  | none=>true
  | some o=>o.after.all (fun e=>decide (e.on<i)) &&
    (decide (i+1=l.length)||match o.dst with
     | some t=>decide (t<a)&&(List.range l.length).all (fun j=>decide (j=i)||(match l[j]? with|some b=>decide (b.dst≠Y t)|none=>true))
     | none=>false)
theorem DZ{l:List At}{a i:Nat}{o:At}(h:tidy l a=true)(m:l[i]?=Y o) :
  (∀e∈o.after,e.on<i)∧(i+1<l.length→∃t,o.dst=Y t∧t<a∧∀(j:Nat) (g:At),j≠i→l[j]?=Y g→g.dst≠Y t):=by
 have p:i<l.length:=(FD.1 m).1;have n:=FW.1 h i (List.mem_range.2 p);simp only[m,FG,Bool.or_eq_true,r8]at n;obtain⟨q,b⟩:=n;refine⟨fun e he=>?_,fun r=>?_⟩
 ·have:=Array.all_eq_true_iff_forall_mem.1 q e he
  simpa using this
 ·rcases b with b|b
  ·omega
  ·cases c:o.dst with
   | none=>rw[c]at b;cases b
   | some t =>
    rw[c]at b;simp only[FG,r8,FW,List.mem_range,Bool.or_eq_true]at b;refine⟨t,V,b.1,fun j g s d=>?_⟩;have k:j<l.length:=(FD.1 d).1;rcases b.2 j k with f|f
    ·exact absurd f s
    ·rw[d]at f;simpa using f
theorem mj{l:List At}{a:Nat}(h:tidy l a=true){listed:Array Bool}(b:listed.size=l.toArray.size)(j:Region.ready .any l.toArray listed=[]):∀i,i<l.length→listed.getD i false=true:=by
 intro i
 induction i using Nat.strongRecOn with
 | _ i k =>
  intro m
  cases d:listed.getD i false with
  | true=>rfl
  | false =>
   exfalso
   obtain⟨o,f⟩:∃o,l[i]?=Y o:=⟨l[i],Fq m⟩;obtain⟨n,_⟩:=DZ h f;have g:listed.size=l.length:=by simpa using b
   have:i∈Region.ready .any l.toArray listed:=by
    refine mem_ready.2 ⟨?_,o,by simpa using f,fun e he _=>?_⟩
    ·have c:i<listed.size:=by omega
     simp[c]at d ⊢;exact d
    ·have p:=n e he;exact k e.on p (by omega)
   rw[j]at this
   cases this
theorem fY{listed:Array Bool}{i:Nat}(h:i<listed.size):(listed.setIfInBounds i true).getD i false=true:=by simp[h]
theorem bp{listed:Array Bool}{i j:Nat}(h:i≠j):(listed.setIfInBounds i true).getD j false=listed.getD j false:=by simp[h]
section
variable {l:List At} {a0:Act} {w0:vk} {ty:Nat→RTy} {i:Nat} {o:At}
end
section
variable {l:List At} {a0:Act} {w0:vk} {ty:Nat→RTy} {i:Nat} {o:At}
end
open Go.ChangeShapes Go.WideShapes Go.ChangeAt
theorem yH{α:Type}{p:Nat→α→Prop}:∀{n:Nat},(∀i,i<n→∃x,p i x)→∃l:List α,l.length=n∧∀i x,l[i]?=Y x→p i x:=by
 intro n
 induction n with
 | zero=>intro _;exact⟨[],V,fun i x h=>by simp at h⟩
 | succ n e =>
  intro h;obtain⟨l,c,f⟩:=e (fun i d=>h i (Nat.lt_succ_of_lt d));obtain⟨x,g⟩:=h n (Nat.lt_succ_self n);refine⟨l++[x],by simp[c],fun i y a=>?_⟩
  by_cases d:i<n
  ·rw[F6 (by omega)]at a;exact f i y a
  ·rw[FS (by omega)]at a;have b:i=n:=by
    have:=(FD.1 a).1;simp at this;omega
   subst b;simp[c]at a;subst a;exact g
theorem sG:Tryz.prog.cellsOf 25=5:=by kernel_rfl
theorem yR{H:Type}{enc:TypeId×vn→H}{w:vk}{sp:Nat→Bool}{c:Bool}:∀(fuel:Nat) (cs:List vn) (x:DataW H×List MemPlace),DataW.trod enc wq w 0 sp c fuel 25 cs=Y x→
  ∃T s,cs=ai T s∧Fits T∧aj w w.heap.size fuel T.q s:=by
 intro fuel
 induction fuel using Nat.strongRecOn with
 | _ fuel ih =>
 intro cs x h;obtain⟨xs,n,rfl,rfl,N,p,f⟩:=DataW.trod_struct Tryz.underlying25 h;rw[sG]at N
 match cs,N with
 | [v0,v1,v2,v3,v4],_ =>
  have g:∀i,i<5→∃y,xs[i]?=Y y:=fun i r=>⟨xs[i]'(by rw[p];exact r),Fq _⟩
  obtain⟨P,e0⟩:=g 0 (by omega);obtain⟨Q,e1⟩:=g 1 (by omega);obtain⟨R,e2⟩:=g 2 (by omega);obtain⟨S,e3⟩:=g 3 (by omega);obtain⟨W,e4⟩:=g 4 (by omega);have c0:Tryz.prog.cellsOf 22=1:=by kernel_rfl
  have c1:Tryz.prog.cellsOf 9=1:=by kernel_rfl
  have c2:Tryz.prog.cellsOf 3=1:=by kernel_rfl
  have c4:Tryz.prog.cellsOf 23=1:=by kernel_rfl
  have f0:DataW.trod enc wq w 0 sp c n 22 (([v0,v1,v2,v3,v4].drop 0).take (Tryz.prog.cellsOf 22))=Y P:=(f 0 _ V).trans e0;rw[c0]at f0;change DataW.trod enc wq w 0 sp c n 22 [v0]=Y P at f0;have f1:DataW.trod enc wq w 0 sp c n 9 (([v0,v1,v2,v3,v4].drop 1).take (Tryz.prog.cellsOf 9))=Y Q:=(f 1 _ V).trans e1;rw[c1]at f1;change DataW.trod enc wq w 0 sp c n 9 [v1]=Y Q at f1;have f2:DataW.trod enc wq w 0 sp c n 3 (([v0,v1,v2,v3,v4].drop 2).take (Tryz.prog.cellsOf 3))=Y R:=(f 2 _ V).trans e2;rw[c2]at f2;change DataW.trod enc wq w 0 sp c n 3 [v2]=Y R at f2;have f3:DataW.trod enc wq w 0 sp c n 3 (([v0,v1,v2,v3,v4].drop 3).take (Tryz.prog.cellsOf 3))=Y S:=(f 3 _ V).trans e3;rw[c2]at f3;change DataW.trod enc wq w 0 sp c n 3 [v3]=Y S at f3;have f4:DataW.trod enc wq w 0 sp c n 23 (([v0,v1,v2,v3,v4].drop 4).take (Tryz.prog.cellsOf 23))=Y W:=(f 4 _ V).trans e4;rw[c4]at f4;change DataW.trod enc wq w 0 sp c n 23 [v4]=Y W at f4;obtain⟨k,g0,_,w0⟩:=DataW.trod_int Tryz.underlying22 f0;obtain⟨t,g1,_,w1⟩:=DataW.trod_string Tryz.underlying9 f1;obtain⟨nm,g2,_,w2⟩:=DataW.trod_int Tryz.underlying3 f2;obtain⟨pl,g3,_,w3⟩:=DataW.trod_int Tryz.underlying3 f3;have g4:=DataW.trod_slice Tryz.underlying23 f4;simp only[List.cons.injEq,and_true]at g0 g1 g2 g3 g4;subst g0 g1 g2 g3;have u0:0≤k∧k≤255:=by
   have h:=w0;unfold Lit.wf at h;rw[FG]at h;exact⟨tf h.1,tf h.2⟩
  have u2:-9223372036854775808≤nm∧nm≤9223372036854775807:=by
   have h:=w2;unfold Lit.wf at h;rw[FG]at h;exact⟨tf h.1,tf h.2⟩
  have u3:-9223372036854775808≤pl∧pl≤9223372036854775807:=by
   have h:=w3;unfold Lit.wf at h;rw[FG]at h;exact⟨tf h.1,tf h.2⟩
  obtain⟨k',rfl⟩:∃k':Nat,k=k':=⟨k.toNat,by omega⟩;have mk:∀v,aj w w.heap.size (n+1) v v4→∃T s,[Value.int IntKind.u8 k',Value.string t,Value.int IntKind.i64 nm,Value.int IntKind.i64 pl,v4]=ai T s∧Fits T∧aj w w.heap.size (n+1) T.q s:=
   fun v hk=>⟨.mk k' t nm pl v,v4,V,⟨by show k'<256;omega,w1,by show _≤nm;omega,by show nm<_;omega,by show _≤pl;omega,by show pl<_;omega⟩,hk⟩
  rcases g4 with ⟨rfl,_⟩|⟨a,len,cap,elems,rest,X,hn,rfl,_,_,z,B,ad,C,_⟩
  ·exact mk [] (Or.inl ⟨V,_,_,V⟩)
  ·subst hn;have j:∀i,i<len→∃y:ab×vn,Fits y.1∧aj w w.heap.size X y.1.q y.2∧∀m u,(ai y.1 y.2)[m]?=Y u→w.cell? ((a.add (i*5)).add m)=Y u:=by
    intro i r;have h1:=C i r;rw[Fq (by omega),sG]at h1;obtain⟨D,h2,h3⟩:=Option.bind_eq_some_iff.1 h1;obtain⟨T,s,rfl,E,F⟩:=ih X (by omega) D _ h3;obtain⟨_,_,h5⟩:=World.cells?_some h2;refine⟨(T,s),E,F,fun m u hm=>?_⟩;have G:m<5:=(FD.1 hm).1;exact (h5 m G).trans hm
   obtain⟨l,d,hp⟩:=yH j;refine mk (l.map (·.1)) ?_
   by_cases h0:len=0
   ·subst h0;have:l=[]:=FP d;subst this;exact Or.inl ⟨V,_,_,V⟩
   ·obtain⟨b,off,spot⟩:=a;have K:∃u,w.cell? (((⟨b,off,spot⟩:Addr).add (0*5)).add 0)=Y u:=by
     obtain⟨y,L⟩:∃y,l[0]?=Y y:=⟨l[0]'(by omega),Fq _⟩;exact⟨_,(hp 0 y L).2.2 0 _ V⟩
    obtain⟨u,hu⟩:=K;have M:spot=none:=World.cell?_spot (a:=⟨b,off,spot⟩) (by simpa [Addr.add]using hu);subst M;have hb:b<w.heap.size:=World.block_lt_of_cell? w _ (by simpa [Addr.add]using hu);refine Or.inr ⟨b,off,cap,?_,hb,by simpa [d]using z,B,by simp[d],fun i T hT=>?_⟩
    ·intro e;have:=tE List.length e;simp[d]at this;exact h0 this
    ·rw[List.getElem?_map]at hT;obtain⟨y,L,rfl⟩:=Option.map_eq_some_iff.1 hT;obtain⟨q1,q2,q3⟩:=hp i y L;have q:∀m u,(ai y.1 y.2)[m]?=Y u→w.cell? ⟨b,off+i*5+m,none⟩=Y u:=fun m u hm=>by
      have:=q3 m u hm
      rwa [add_plain,add_plain]at this
     exact⟨q1,y.2,q 0 _ V,q 1 _ V,q 2 _ V,q 3 _ V,q 4 _ V,q2.deeper (FN _)⟩
theorem open_node{H:Type}{enc:TypeId×vn→H}{w:vk}{sp:Nat→Bool}{b:Bool}{r:Reach}{base:Nat}{v:vn}{d:DataW H}{c:List MemPlace}(a:Value.okWide wq w r base 25 v)(h:DataW.Trod enc wq w 0 sp b 25 v d c) :
  ∃(n:Nat) (T:ab),bz w w.heap.size n T v:=by
 obtain⟨fuel,e⟩:=h;obtain⟨T,s,f,g,j⟩:=yR fuel _ _ e;obtain⟨cs,rfl,_⟩:=okWide_struct Tryz.underlying25 a;refine⟨fuel,T,g,s,?_,j⟩;have:cs.toList=ai T s:=f
 show Value.agg cs=Value.agg (ai T s).toArray
 rw[←this]
