/- Parts of one proof, joined; conditions stand in each theorem. -/
import Derived.Test.YtmpekinjoeibbaaGreatDoorMJ
import Derived.Test.YtmpekinjoeibbaaGreatDoorMRI
import Derived.Great.BuildSlice
import Derived.Laws.Rows
import Derived.ChangeArms
import Derived.RowKit
namespace Go.Proofs.YtmpekinjoeibbaaGreatDoor
open Go.RowKit
theorem aF.y{w:World}{B:Nat}:∀{d:Nat} {a:List ah} {c:Value},aF w B d a c→aF w B (d+1) a c:=by
 intro d
 induction d with
 | zero =>
  rintro a c ⟨f,sp,cap,e⟩;exact Or.inl ⟨f,sp,cap,e⟩
 | succ d g =>
  rintro a c (h|⟨b,off,cap,e,j,k,m,n,p⟩)
  ·exact Or.inl h
  ·refine Or.inr ⟨b,off,cap,e,j,k,m,n,fun i T q=>?_⟩;obtain⟨r,s,c0,c1,c2,t,c4,u⟩:=p i T q;exact⟨r,s,c0,c1,c2,t,c4,g u⟩
inductive RTy where
 | node (d:Nat) (T:ah)
 | kids (d:Nat) (Ts:List ah)
 | box
 | val (v:Value)
 | raw
def tidy(l:List Oper) (a:Nat):Bool:=
 (List.range l.length).all fun i=>match l[i]? with
  | none=>true
  | some o=>o.after.all (fun e=>decide (e.on<i)) &&
    (decide (i+1=l.length)||match o.dst with
     | some t=>decide (t<a)&&(List.range l.length).all (fun j=>decide (j=i)||(match l[j]? with|some b=>decide (b.dst≠some t)|none=>true))
     | none=>false)
theorem DF{l:List Oper}{a i:Nat}{o:Oper}(h:tidy l a=true)(m:l[i]?=some o) :
  (∀e∈o.after,e.on<i)∧(i+1<l.length→∃t,o.dst=some t∧t<a∧∀(j:Nat) (g:Oper),j≠i→l[j]?=some g→g.dst≠some t):=by
 have p:i<l.length:=(Fo.1 m).1;have n:=FG.1 h i (List.mem_range.2 p);simp only[m,Fp,Bool.or_eq_true,oE]at n;obtain⟨q,b⟩:=n;refine⟨fun e he=>?_,fun r=>?_⟩
 ·have:=Array.all_eq_true_iff_forall_mem.1 q e he
  simpa using this
 ·rcases b with b|b
  ·omega
  ·cases c:o.dst with
   | none=>rw[c]at b;cases b
   | some t =>
    rw[c]at b;simp only[Fp,oE,FG,List.mem_range,Bool.or_eq_true]at b;refine⟨t,Z,b.1,fun j g s d=>?_⟩;have k:j<l.length:=(Fo.1 d).1;rcases b.2 j k with f|f
    ·exact absurd f s
    ·rw[d]at f;simpa using f
theorem l9{l:List Oper}{a:Nat}(h:tidy l a=true){listed:Array Bool}(b:listed.size=l.toArray.size)(j:Region.ready .any l.toArray listed=[]):∀i,i<l.length→listed.getD i false=true:=by
 intro i
 induction i using Nat.strongRecOn with
 | _ i k =>
  intro m
  cases d:listed.getD i false with
  | true=>rfl
  | false =>
   exfalso
   obtain⟨o,f⟩:∃o,l[i]?=some o:=⟨l[i],EX m⟩;obtain⟨n,_⟩:=DF h f;have g:listed.size=l.length:=by simpa using b
   have:i∈Region.ready .any l.toArray listed:=by
    refine mem_ready.2 ⟨?_,o,by simpa using f,fun e he _=>?_⟩
    ·have c:i<listed.size:=by omega
     simp[c]at d ⊢;exact d
    ·have p:=n e he;exact k e.on p (by omega)
   rw[j]at this
   cases this
theorem fJ{listed:Array Bool}{i:Nat}(h:i<listed.size):(listed.setIfInBounds i true).getD i false=true:=by simp[h]
theorem bh{listed:Array Bool}{i j:Nat}(h:i≠j):(listed.setIfInBounds i true).getD j false=listed.getD j false:=by simp[h]
section
variable {l:List Oper} {a0:Act} {w0:World} {ty:Nat→RTy} {i:Nat} {o:Oper}
end
section
variable {l:List Oper} {a0:Act} {w0:World} {ty:Nat→RTy} {i:Nat} {o:Oper}
end
open Go.ChangeShapes Go.WideShapes Go.ChangeAt
