/- Several texts joined, each with its own sentence and conditions ahead of it: RefD, RefE, RefF, PlainA. -/
import Derived.Test.YtglbjooofdnbkaaGreatDoorMD
import Derived.Handy
namespace Go.Proofs.YtglbjooofdnbkaaGreatDoor
open Go.RowKit
theorem ext_data (s:ByteArray)(a b:Nat):(s.extract a b).data.toList=(s.data.toList.drop a).take (b-a):=by
 rw[ByteArray.data_extract,Array.toList_extract]
theorem signAt_ext (s:ByteArray)(k:Nat)(g:ByteArray)(h:k+g.size≤s.size):((s.extract k (k+g.size)).toList==g.toList)=signAt s k g:=by
 unfold signAt
 rw[←Lib.hasPrefix_of_take,ByteArray.toList_eq,ByteArray.toList_eq,ext_data,Nat.add_sub_cancel_left]
 have e:g.data.toList.length=g.size:=by simp
 rw[e]
 have h1:decide (g.size≤(s.data.toList.drop k).length)=true:=by simp;omega
 rw[h1,Bool.true_and]
def offOf (kd:Nat):Nat:=if kd==3||kd==5 then 1 else 0
theorem bytes_ext (x y:ByteArray)(h:x.data.toList=y.data.toList):x=y:=by
 obtain⟨⟨x⟩⟩:=x
 obtain⟨⟨y⟩⟩:=y
 simpa using h
theorem tokenAt_span (s:ByteArray)(k:Nat)(hk:k<s.size)(h0:(tokenAt s k s[k]).2.2.1=0) :
  (tokenAt s k s[k]).2.2.2=k+offOf (tokenAt s k s[k]).1+(tokenAt s k s[k]).2.1.size ∧
  s.extract (k+offOf (tokenAt s k s[k]).1) (tokenAt s k s[k]).2.2.2=(tokenAt s k s[k]).2.1∧(tokenAt s k s[k]).1<7:=by
 unfold tokenAt at h0 ⊢
 by_cases hc:isLow s[k]=true
 ·rw[if_pos hc]
  have h1:=scanTo_ge isOn s k
  have h2:=scanTo_le isOn s k (by omega)
  have e:∀x:Bool,offOf (if x=true then 1 else 2)=0∧(if x=true then 1 else 2)<7:=by intro x;cases x<;>decide
  dsimp only
  rw[(e _).1,ext_size s _ _ h2]
  exact⟨by omega,rfl,(e _).2⟩
 ·rw[if_neg hc] at h0 ⊢
  by_cases hq:(s[k]==63||s[k]==39)=true
  ·rw[if_pos hq]
   have h1:=scanTo_ge isOn s (k+1)
   have h2:=scanTo_le isOn s (k+1) (by omega)
   have e:∀x:Bool,offOf (if x=true then 5 else 3)=1∧(if x=true then 5 else 3)<7:=by intro x;cases x<;>decide
   dsimp only
   rw[(e _).1,ext_size s _ _ h2]
   exact⟨by omega,rfl,(e _).2⟩
  ·rw[if_neg hq] at h0 ⊢
   by_cases hd:isDig s[k]=true
   ·rw[if_pos hd]
    have h1:=scanTo_ge isDig s k
    have h2:=scanTo_le isDig s k (by omega)
    have e:offOf 4=0:=rfl
    dsimp only
    rw[e,ext_size s _ _ h2]
    exact⟨by omega,rfl,by omega⟩
   ·rw[if_neg hd] at h0 ⊢
    cases hf:signsL.find? (fun g=>Lib.hasPrefix (s.data.toList.drop k) g.data.toList) with
    | none=>rw[hf] at h0;simp at h0
    | some g =>
     have hp:signAt s k g=true:=List.find?_some hf
     have h2:=signAt_le s k g (by omega) hp
     have h3:=signAt_ext s k g h2
     rw[hp] at h3
     refine⟨rfl,bytes_ext _ _ ?_,(by show 6<7;omega)⟩
     have h4:(s.extract k (k+g.size)).toList=g.toList:=by simpa using h3
     rw[ByteArray.toList_eq,ByteArray.toList_eq] at h4
     exact h4
theorem toks_err (s:ByteArray):∀(f k er pl:Nat),(toks f s k).2=some (er,pl)→er≠0∧pl<s.size:=by
 intro f
 induction f with
 | zero=>intro k er pl h;cases h
 | succ f ih =>
  intro k er pl h
  unfold toks at h
  split at h
  ·rename_i h1
   split at h
   ·exact ih _ _ _ h
   ·rename_i h2
    simp only[Option.some.injEq,Prod.mk.injEq] at h
    obtain⟨rfl,rfl⟩:=h
    exact⟨h2,h1⟩
  ·cases h
end Go.Proofs.YtglbjooofdnbkaaGreatDoor
