/- Parts of one proof, joined; conditions stand in each theorem. -/
import Derived.Test.YtkhfjgjjhlnnnaaGreatDoorYMD
import Derived.Handy
namespace Go.Proofs.YtkhfjgjjhlnnnaaGreatDoor
open Go.RowKit
theorem Ca(s:ByteArray)(a b:Nat):(s.extract a b).data.toList=(s.data.toList.drop a).take (b-a):=by rw[ByteArray.data_extract,Array.toList_extract]
theorem xP(s:ByteArray)(k:Nat)(g:ByteArray)(h:k+g.size≤s.size):((s.extract k (k+g.size)).toList==g.toList)=iW s k g:=by
 unfold iW;rw[←Lib.hasPrefix_of_take,Fb,Fb,Ca,Nat.add_sub_cancel_left];have e:g.data.toList.length=g.size:=by simp
 rw[e];have a:decide (g.size≤(s.data.toList.drop k).length)=true:=by simp;omega
 rw[a,Bool.true_and]
def qR(kd:Nat):Nat:=if kd==3||kd==5 then 1 else 0
theorem Bp(x y:ByteArray)(h:x.data.toList=y.data.toList):x=y:=by
 obtain⟨⟨x⟩⟩:=x;obtain⟨⟨y⟩⟩:=y
 simpa using h
theorem ue(s:ByteArray)(k:Nat)(n:k<s.size)(b:(aj s k s[k]).2.2.1=0) :
  (aj s k s[k]).2.2.2=k+qR (aj s k s[k]).1+(aj s k s[k]).2.1.size∧
  s.extract (k+qR (aj s k s[k]).1) (aj s k s[k]).2.2.2=(aj s k s[k]).2.1∧(aj s k s[k]).1<7:=by
 unfold aj at b ⊢
 by_cases c:isLow s[k]=true
 ·rw[rv c];have d:=fk be s k;have a:=dm be s k (by omega);have e:∀x:Bool,qR (if x=true then 1 else 2)=0∧(if x=true then 1 else 2)<7:=by intro x;cases x<;>decide
  dsimp only;rw[(e _).1,ext_size s _ _ a];exact⟨by omega,V,(e _).2⟩
 ·rw[qv c]at b ⊢
  by_cases f:(s[k]==63||s[k]==39)=true
  ·rw[rv f];have d:=fk be s (k+1);have a:=dm be s (k+1) (by omega);have e:∀x:Bool,qR (if x=true then 5 else 3)=1∧(if x=true then 5 else 3)<7:=by intro x;cases x<;>decide
   dsimp only;rw[(e _).1,ext_size s _ _ a];exact⟨by omega,V,(e _).2⟩
  ·rw[qv f]at b ⊢
   by_cases h:bN s[k]=true
   ·rw[rv h];have d:=fk bN s k;have a:=dm bN s k (by omega);have e:qR 4=0:=rfl;dsimp only;rw[e,ext_size s _ _ a];exact⟨by omega,V,by omega⟩
   ·rw[qv h]at b ⊢
    cases i:eK.find? (fun g=>Lib.hasPrefix (s.data.toList.drop k) g.data.toList) with
    | none=>rw[i]at b;simp at b
    | some g =>
     have j:iW s k g=true:=List.find?_some i;have a:=nU s k g (by omega) j;have l:=xP s k g a;rw[j]at l;refine⟨V,Bp _ _ ?_,(by show 6<7;omega)⟩;have m:(s.extract k (k+g.size)).toList=g.toList:=by simpa using l
     rw[Fb,Fb]at m;exact m
theorem BI(s:ByteArray):∀(f k er pl:Nat),(toks f s k).2=some (er,pl)→er≠0∧pl<s.size:=by
 intro f
 induction f with
 | zero=>intro k er pl h;cases h
 | succ f a =>
  intro k er pl h;unfold toks at h
  split at h
  ·rename_i b
   split at h
   ·exact a _ _ _ h
   ·rename_i c
    simp only[ss,Prod.mk.injEq]at h;obtain⟨rfl,rfl⟩:=h;exact⟨c,b⟩
  ·cases h
