/- Parts of one proof, joined; conditions stand in each theorem. -/
import Derived.Test.YtoahnjkclckodaaGreatDoorMH
import Derived.Test.YtoahnjkclckodaaGreatDoorMRI
import Derived.Great.BuildSlice
import Derived.Laws.Rows
namespace Go.Proofs.YtoahnjkclckodaaGreatDoor
open Go.RowKit
theorem ax.more{w:World}{B:Nat}:∀{d:Nat} {ks:List ac} {a:Value},ax w B d ks a→ax w B (d+1) ks a:=by
 intro d
 induction d with
 | zero =>
  rintro ks a ⟨e,sp,cap,c⟩;exact Or.inl ⟨e,sp,cap,c⟩
 | succ d f =>
  rintro ks a (h|⟨b,off,cap,c,g,j,k,m,n⟩)
  ·exact Or.inl h
  ·refine Or.inr ⟨b,off,cap,c,g,j,k,m,fun i T p=>?_⟩;obtain⟨q,s,r,t,c2,u,c4,v⟩:=n i T p;exact⟨q,s,r,t,c2,u,c4,f v⟩
inductive RTy where
 | node (d:Nat) (T:ac)
 | kids (d:Nat) (Ts:List ac)
 | box
 | val (v:Value)
 | raw
def tidy(l:List Oper) (a:Nat):Bool:=
 (List.range l.length).all fun i=>match l[i]? with
  | none=>true
  | some o=>o.after.all (fun e=>decide (e.on<i)) &&
    (decide (i+1=l.length)||match o.dst with
     | some t=>decide (t<a)&&(List.range l.length).all (fun j=>decide (j=i)||(match l[j]? with|some b=>decide (b.dst≠some t)|none=>true))
     | none=>false)
theorem Iq{l:List Oper}{a i:Nat}{o:Oper}(h:tidy l a=true)(m:l[i]?=some o) :
  (∀e∈o.after,e.on<i)∧(i+1<l.length→∃t,o.dst=some t∧t<a∧∀(j:Nat) (g:Oper),j≠i→l[j]?=some g→g.dst≠some t):=by
 have hi:i<l.length:=(J3.1 m).1;have n:=Kh.1 h i (List.mem_range.2 hi);simp only[m,J4,Bool.or_eq_true,oB]at n;obtain⟨p,b⟩:=n;refine⟨fun e he=>?_,fun q=>?_⟩
 ·have:=Array.all_eq_true_iff_forall_mem.1 p e he
  simpa using this
 ·rcases b with b|b
  ·omega
  ·cases c:o.dst with
   | none=>rw[c]at b;cases b
   | some t =>
    rw[c]at b;simp only[J4,oB,Kh,List.mem_range,Bool.or_eq_true]at b;refine⟨t,Z,b.1,fun j g r d=>?_⟩;have k:j<l.length:=(J3.1 d).1;rcases b.2 j k with f|f
    ·exact absurd f r
    ·rw[d]at f;simpa using f
theorem oH{l:List Oper}{a:Nat}(h:tidy l a=true){listed:Array Bool}(b:listed.size=l.toArray.size)(j:Region.ready .any l.toArray listed=[]):∀i,i<l.length→listed.getD i false=true:=by
 intro i
 induction i using Nat.strongRecOn with
 | _ i k =>
  intro hi
  cases d:listed.getD i false with
  | true=>rfl
  | false =>
   exfalso
   obtain⟨o,f⟩:∃o,l[i]?=some o:=⟨l[i],JR hi⟩;obtain⟨m,_⟩:=Iq h f;have g:listed.size=l.length:=by simpa using b
   have:i∈Region.ready .any l.toArray listed:=by
    refine mem_ready.2 ⟨?_,o,by simpa using f,fun e he _=>?_⟩
    ·have c:i<listed.size:=by omega
     simp[c]at d ⊢;exact d
    ·have n:=m e he;exact k e.on n (by omega)
   rw[j]at this
   cases this
theorem gd{listed:Array Bool}{i:Nat}(h:i<listed.size):(listed.setIfInBounds i true).getD i false=true:=by simp[h]
theorem bp{listed:Array Bool}{i j:Nat}(h:i≠j):(listed.setIfInBounds i true).getD j false=listed.getD j false:=by simp[h]
section
variable {l:List Oper} {a0:Act} {w0:World} {ty:Nat→RTy} {i:Nat} {o:Oper}
end
section
variable {l:List Oper} {a0:Act} {w0:World} {ty:Nat→RTy} {i:Nat} {o:Oper}
end
