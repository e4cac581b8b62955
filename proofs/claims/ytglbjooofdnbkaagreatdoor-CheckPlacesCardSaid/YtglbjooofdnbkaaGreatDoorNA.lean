/- Several texts joined, each with its own sentence and conditions ahead of it: MakR, MakP, GenA, MakD, MakE. -/
import Derived.Test.YtglbjooofdnbkaaGreatDoorNA0
import Derived.Test.YtglbjooofdnbkaaGreatDoorMA
namespace Go.Proofs.YtglbjooofdnbkaaGreatDoor
open Go.RowKit
def exactT:Nat→Tree→Prop
 | 0,T=>T.kids=[]
 | d+1,T=>∀k∈T.kids,exactT d k
theorem exactT.more:∀(d:Nat)(T:Tree),exactT d T→exactT (d+1) T
 | 0,T,h=>fun k hk=>by
  have h:T.kids=[]:=h
  rw[h] at hk;cases hk
 | d+1,T,h=>fun k hk=>exactT.more d k (h k hk)
theorem okF_more:∀(d:Nat)(T:Tree),exactT d T→okF d T=true→okF (d+1) T=true
 | 0,T,h,hok=>by
  have h:T.kids=[]:=h
  show (levelOk T&&T.kids.all (okF 0))=true
  rw[h,show levelOk T=true from hok];rfl
 | d+1,T,h,hok=>by
  have hok:(levelOk T&&T.kids.all (okF d))=true:=hok
  rw[Bool.and_eq_true,List.all_eq_true] at hok
  show (levelOk T&&T.kids.all (okF (d+1)))=true
  rw[Bool.and_eq_true,List.all_eq_true]
  exact⟨hok.1,fun k hk=>okF_more d k (h k hk) (hok.2 k hk)⟩
theorem okF_level {d:Nat}{T:Tree}(h:okF d T=true):levelOk T=true:=by
 cases d with
 | zero=>exact h
 | succ d=>exact (Bool.and_eq_true _ _ ▸ (show (levelOk T&&T.kids.all (okF d))=true from h)).1
theorem kid_ok {d:Nat}{T k:Tree}(he:exactT d T)(h:okF d T=true)(hk:k∈T.kids):exactT d k∧okF d k=true:=by
 cases d with
 | zero=>have he:T.kids=[]:=he;rw[he] at hk;cases hk
 | succ d =>
  have h:(levelOk T&&T.kids.all (okF d))=true:=h
  rw[Bool.and_eq_true,List.all_eq_true] at h
  exact⟨exactT.more d k (he k hk),okF_more d k (he k hk) (h.2 k hk)⟩
theorem foldE_inv {σ α:Type}{f:σ→α→Except Flt σ}(I:σ→Prop)(A:α→Prop)(hs:∀s x s',I s→A x→f s x=.ok s'→I s'):∀(l:List α)(s s':σ),(∀x∈l,A x)→I s→foldE f s l=.ok s'→I s'
 | [],s,s',_,hi,h=>by injection h with h;subst h;exact hi
 | x::l,s,s',hA,hi,h=>by
  unfold foldE at h
  split at h
  ·cases h
  ·rename_i s1 h1
   exact foldE_inv I A hs l s1 s' (fun y hy=>hA y (List.mem_cons_of_mem _ hy)) (hs s x s1 hi (hA x List.mem_cons_self) h1) h
theorem idxB_lt (x:ByteArray):∀(l:List ByteArray)(m k:Nat),idxB x l m=some k→m≤k∧k<m+l.length
 | [],m,k,h=>by cases h
 | y::l,m,k,h=>by
  unfold idxB at h
  split at h
  ·injection h with h;subst h;simp
  ·have:=idxB_lt x l (m+1) k h
   simp only[List.length_cons];omega
theorem idxOf_lt {x:ByteArray}{l:List ByteArray}{k:Nat}(h:idxOf x l=some k):k<l.length:=by
 have:=idxB_lt x l 0 k h;omega
theorem listE_inv {α β:Type}{f:α→Except Flt β}{l:List α}{ys:List β}(P:β→Prop)(A:α→Prop)(hf:∀x y,A x→f x=.ok y→P y)(hA:∀x∈l,A x)(h:listE f l=.ok ys):(∀y∈ys,P y):=by
 refine foldE_inv (fun ys=>∀y∈ys,P y) A (fun s x s' hs hx h=>?_) l [] ys hA (fun y hy=>by cases hy) h
 split at h
 ·cases h
 ·rename_i y hy
  injection h with h
  subst h
  intro z hz
  rcases List.mem_append.1 hz with hz|hz
  ·exact hs z hz
  ·obtain rfl:=List.mem_singleton.1 hz
   exact hf x z hx hy
theorem listE_lenR {α β:Type}{f:α→Except Flt β}:∀(l:List α)(ys0 ys:List β),foldE (fun ys x=>match f x with | .error e=>.error e | .ok y=>.ok (ys++[y])) ys0 l=.ok ys→ys.length=ys0.length+l.length
 | [],ys0,ys,h=>by injection h with h;subst h;simp
 | x::l,ys0,ys,h=>by
  unfold foldE at h
  split at h
  ·cases h
  ·rename_i s1 h1
   split at h1
   ·cases h1
   ·injection h1 with h1
    subst h1
    have:=listE_lenR l _ ys h
    rw[List.length_append,List.length_singleton] at this
    rw[List.length_cons];omega
theorem opM_oneR (t:List UInt8)(h:amongB oneL t=true):1≤(opM t 1).1∧(opM t 1).1≤11∧((opM t 1).1==4||(opM t 1).1==11)=true∧(opM t 1).2=false:=by
 unfold amongB oneL at h
 simp only[List.any_cons,List.any_nil,Bool.or_false,Bool.or_eq_true,beq_iff_eq] at h
 rcases h with h|h<;>subst h<;>decide
theorem opM_twoR (t:List UInt8)(h:amongB twoL t=true):1≤(opM t 2).1∧(opM t 2).1≤11∧((opM t 2).1==4||(opM t 2).1==11)=false:=by
 unfold amongB twoL at h
 simp only[List.any_cons,List.any_nil,Bool.or_false,Bool.or_eq_true,beq_iff_eq] at h
 rcases h with h|h|h|h|h|h|h|h|h|h|h<;>subst h<;>decide
theorem level_text {T:Tree}(h:levelOk T=true):textOk T.kind T.text.data.toList T.kids.length=true∧kidsOk T.kind T.kids=true∧numOk T.kind T.num=true:=by
 unfold levelOk at h
 simp only[Bool.and_eq_true] at h
 exact⟨h.1.1.1.2,h.2,h.1.1.2⟩
theorem text_op {t:List UInt8}{n:Nat}(h:textOk 16 t n=true):(n=1∧amongB oneL t=true)∨(n=2∧amongB twoL t=true):=by
 have h:((n==1&&amongB oneL t)||(n==2&&amongB twoL t))=true:=h
 simpa using h
theorem text_name {k n:Nat}{t:List UInt8}(h:textOk k t n=true)(hk:k=13∨k=15):namedF t=true:=by
 rcases hk with rfl|rfl<;>exact h
def exprK (T:Tree):Prop:=T.kind=13∨T.kind=14∨T.kind=15∨T.kind=16
theorem exprs_kind {l:List Tree}(h:exprsB l=true):∀T∈l,exprK T:=by
 unfold exprsB among at h
 simp only[Bool.and_eq_true,List.all_eq_true] at h
 intro T hT
 have:=h.2 T hT
 unfold exprK
 simpa using this
theorem const_ok {T:Tree}(h:levelOk T=true)(hk:T.kind=14∨T.kind=15):valOk (constM T)=true:=by
 obtain⟨h1,_,_⟩:=level_text h
 unfold constM
 rcases hk with hk|hk
 ·rw[hk];rfl
 ·rw[hk] at h1 ⊢
  have:=text_name h1 (Or.inr rfl)
  show ((0:Int)==0&&namedF T.text.data.toList)=true
  rw[this];rfl
theorem mkExpr_leaf {vars:List ByteArray}{d:Nat}{T:Tree}(hk:T.kind=14∨T.kind=15):mkExpr vars d T=.ok (.mk 1 (constM T) 0 0 []):=by
 have hb:(T.kind==14||T.kind==15)=true:=by rcases hk with h|h<;>rw[h]<;>rfl
 cases d<;>(unfold mkExpr;simp only[hb,if_true])
theorem mkExpr_var {vars:List ByteArray}{d:Nat}{T:Tree}(hk:T.kind=13):mkExpr vars d T=match idxOf T.text vars with|some k=>.ok (.mk 2 .zero k 0 [])|none=>.error (213,T.place):=by
 cases d<;>(unfold mkExpr;simp only[hk,Nat.reduceBEq,Bool.or_self,Bool.false_eq_true,if_false,beq_self_eq_true,if_true];first|done|(cases idxOf T.text vars<;>rfl))
theorem mkExpr_op {vars:List ByteArray}{d:Nat}{T:Tree}(hk:T.kind=16):mkExpr vars (d+1) T=match listE (mkExpr vars d) T.kids with
   | .error e=>.error e
   | .ok ks=>.ok (.mk 3 .zero 0 (opM T.text.data.toList T.kids.length).1 (if (opM T.text.data.toList T.kids.length).2 then ks.reverse else ks)):=by
 rw[mkExpr];simp only[hk,Nat.reduceBEq,Bool.or_self,Bool.false_eq_true,if_false];cases listE (mkExpr vars d) T.kids<;>rfl
theorem exprTop_mono {v v':Int}(hv:v≤v'){e:CExpr}(h:exprTop v e=true):exprTop v' e=true:=by
 unfold exprTop at *
 split
 ·rename_i h1;rw[if_pos h1] at h;exact h
 ·rename_i h1
  rw[if_neg h1] at h
  split
  ·rename_i h2
   rw[if_pos h2] at h
   simp only[Bool.and_eq_true,decide_eq_true_eq] at h ⊢
   exact⟨h.1,by omega⟩
  ·rename_i h2
   rw[if_neg h2] at h;exact h
theorem exprOk_mono {v v':Int}(hv:v≤v'):∀(d:Nat)(e:CExpr),exprOk v d e=true→exprOk v' d e=true
 | 0,e,h=>exprTop_mono hv h
 | d+1,e,h=>by
  have h:(exprTop v e&&e.kids.all (exprOk v d))=true:=h
  rw[Bool.and_eq_true,List.all_eq_true] at h
  show (exprTop v' e&&e.kids.all (exprOk v' d))=true
  rw[Bool.and_eq_true,List.all_eq_true]
  exact⟨exprTop_mono hv h.1,fun k hk=>exprOk_mono hv d k (h.2 k hk)⟩
theorem mkExpr_ok {vars:List ByteArray}:∀(d:Nat)(T:Tree)(e:CExpr),exactT d T→okF d T=true→exprK T→mkExpr vars d T=.ok e→exprOk vars.length d e=true:=by
 intro d
 induction d with
 | zero =>
  intro T e he hok hk h
  have hl:levelOk T=true:=hok
  have he:T.kids=[]:=he
  show exprTop vars.length e=true
  rcases hk with hk|hk|hk|hk
  ·rw[mkExpr_var hk] at h
   split at h
   ·rename_i k hi
    injection h with h;subst h
    have:=idxOf_lt hi
    unfold exprTop
    simp[CExpr.kind,CExpr.val,CExpr.op,CExpr.kids,CExpr.var,zeroV,CVal.zero,this]
   ·cases h
  ·rw[mkExpr_leaf (Or.inl hk)] at h
   injection h with h;subst h
   have:=const_ok hl (Or.inl hk)
   unfold exprTop
   simp[CExpr.kind,CExpr.val,CExpr.op,CExpr.kids,CExpr.var,this]
  ·rw[mkExpr_leaf (Or.inr hk)] at h
   injection h with h;subst h
   have:=const_ok hl (Or.inr hk)
   unfold exprTop
   simp[CExpr.kind,CExpr.val,CExpr.op,CExpr.kids,CExpr.var,this]
  ·obtain⟨h1,_,_⟩:=level_text hl
   rw[hk,he] at h1
   rcases text_op h1 with ⟨h2,_⟩|⟨h2,_⟩<;>cases h2
 | succ d ih =>
  intro T e he hok hk h
  have hl:=okF_level hok
  show (exprTop vars.length e&&e.kids.all (exprOk vars.length d))=true
  rcases hk with hk|hk|hk|hk
  ·rw[mkExpr_var hk] at h
   split at h
   ·rename_i k hi
    injection h with h;subst h
    have:=idxOf_lt hi
    unfold exprTop
    simp[CExpr.kind,CExpr.val,CExpr.op,CExpr.kids,CExpr.var,zeroV,CVal.zero,this]
   ·cases h
  ·rw[mkExpr_leaf (Or.inl hk)] at h
   injection h with h;subst h
   have:=const_ok hl (Or.inl hk)
   unfold exprTop
   simp[CExpr.kind,CExpr.val,CExpr.op,CExpr.kids,CExpr.var,this]
  ·rw[mkExpr_leaf (Or.inr hk)] at h
   injection h with h;subst h
   have:=const_ok hl (Or.inr hk)
   unfold exprTop
   simp[CExpr.kind,CExpr.val,CExpr.op,CExpr.kids,CExpr.var,this]
  ·rw[mkExpr_op hk] at h
   split at h
   ·cases h
   ·rename_i ks hks
    injection h with h;subst h
    obtain⟨h1,h2,_⟩:=level_text hl
    rw[hk] at h1 h2
    have hokk:(levelOk T&&T.kids.all (okF d))=true:=hok
    rw[Bool.and_eq_true,List.all_eq_true] at hokk
    have hall:=listE_inv (fun e=>exprOk vars.length d e=true) (fun t=>t∈T.kids) (fun x y hx hy=>ih x y (he x hx) (hokk.2 x hx) (exprs_kind (show exprsB T.kids=true from h2) x hx) hy) (fun x hx=>hx) hks
    have hlen:ks.length=T.kids.length:=by have:=listE_lenR T.kids [] ks hks;simpa using this
    rw[Bool.and_eq_true,List.all_eq_true]
    refine⟨?_,fun k hkm=>hall k ?_⟩
    ·unfold exprTop
     rcases text_op h1 with ⟨hn,ha⟩|⟨hn,ha⟩
     ·obtain⟨o1,o2,o3,o4⟩:=opM_oneR _ ha
      rw[hn,o4]
      rw[hn] at hlen
      simp[CExpr.kind,CExpr.val,CExpr.op,CExpr.kids,CExpr.var,zeroV,CVal.zero,o1,o2,o3,hlen]
     ·obtain⟨o1,o2,o3⟩:=opM_twoR _ ha
      rw[hn]
      rw[hn] at hlen
      have hl2:(if (opM T.text.data.toList 2).2=true then ks.reverse else ks).length=2:=by split<;>simp[hlen]
      generalize (if (opM T.text.data.toList 2).2=true then ks.reverse else ks)=kk at *
      simp[CExpr.kind,CExpr.val,CExpr.op,CExpr.kids,CExpr.var,zeroV,CVal.zero,o1,o2,o3,hl2]
    ·have hkm:k∈(if (opM T.text.data.toList T.kids.length).2=true then ks.reverse else ks):=hkm
     split at hkm
     ·simpa using hkm
     ·exact hkm
def ArgI (binds:Bool) (v0:Int) (s:List ByteArray×List CArg):Prop:=argsOk binds v0 s.2=some (s.1.length:Int)∧s.1.length≤16∧v0≤(s.1.length:Int)
theorem argsOk_snoc (binds:Bool):∀(l:List CArg)(v v':Int)(a:CArg),argsOk binds v l=some v'→argsOk binds v (l++[a])=argOk binds v' a
 | [],v,v',a,h=>by
  injection h with h;subst h
  show (match argOk binds v a with|none=>none|some v'=>some v')=_
  cases argOk binds v a<;>rfl
 | b::l,v,v',a,h=>by
  have h:(match argOk binds v b with|none=>none|some v'=>argsOk binds v' l)=some v':=h
  show (match argOk binds v b with|none=>none|some v'=>argsOk binds v' (l++[a]))=_
  cases hb:argOk binds v b with
  | none=>rw[hb] at h;cases h
  | some v1 =>
   rw[hb] at h
   exact argsOk_snoc binds l v1 v' a h
theorem argStep_ok {binds:Bool}{v0:Int}{s s':List ByteArray×List CArg}{T:Tree}(hi:ArgI binds v0 s)(hl:levelOk T=true)(hk:T.kind=12∨T.kind=13∨T.kind=14∨T.kind=15)(h:argStep binds s T=.ok s'):ArgI binds v0 s':=by
 obtain⟨h1,h2,h3⟩:=hi
 unfold argStep at h
 split at h
 ·injection h with h;subst h
  refine⟨?_,h2,h3⟩
  rw[argsOk_snoc binds _ _ _ _ h1];rfl
 ·split at h
  ·split at h
   ·rename_i k hx
    injection h with h;subst h
    have:=idxOf_lt hx
    refine⟨?_,h2,h3⟩
    rw[argsOk_snoc binds _ _ _ _ h1]
    unfold argOk
    simp[zeroV,CVal.zero,this]
   ·split at h
    ·cases h
    ·split at h
     ·cases h
     ·injection h with h;subst h
      rename_i hb hm
      have hb:binds=true:=by simpa using hb
      refine⟨?_,?_,?_⟩
      ·rw[argsOk_snoc binds _ _ _ _ h1]
       unfold argOk
       simp[zeroV,CVal.zero,hb]
      ·simp;omega
      ·simp;omega
  ·injection h with h;subst h
   rename_i h12 h13
   have hk':T.kind=14∨T.kind=15:=by
    simp at h12 h13
    omega
   refine⟨?_,h2,h3⟩
   rw[argsOk_snoc binds _ _ _ _ h1]
   have:=const_ok hl hk'
   unfold argOk
   simp[this]
theorem typeIdx_lt {x:ByteArray}{l:List CType}{k:Nat}(h:typeIdx x l=some k):k<l.length:=by
 have:=idxOf_lt h
 simpa using this
theorem typed_fits {types:List CType}{T:Tree}{k:Nat}(h:typedM types T=.ok k):fitsType types k T.kids.length=true:=by
 unfold typedM at h
 split at h
 ·cases h
 ·rename_i j hj
  split at h
  ·rename_i hf
   injection h with h;subst h
   have:=typeIdx_lt hj
   unfold fitsType
   simp only[Int.toNat_natCast]
   rw[hf]
   simp[this]
  ·cases h
theorem actOk_mono {d:Nat}{types:List CType}{s s':Int×Int}(h1:s.1≤s'.1)(h2:s.2≤s'.2){a:CAct}(h:actOk d types s a=true):actOk d types s' a=true:=by
 have hx:∀l:List CExpr,l.all (exprOk s.1 d)=true→l.all (exprOk s'.1 d)=true:=fun l hl=>by
  rw[List.all_eq_true] at hl ⊢
  exact fun e he=>exprOk_mono h1 d e (hl e he)
 unfold actOk at *
 split
 ·rename_i c1
  rw[if_pos c1] at h
  simp only[Bool.and_eq_true] at h ⊢
  exact⟨h.1,hx _ h.2⟩
 ·rename_i c1
  rw[if_neg c1] at h
  split
  ·rename_i c2
   rw[if_pos c2] at h
   simp only[Bool.and_eq_true,decide_eq_true_eq] at h ⊢
   exact⟨h.1,by omega⟩
  ·rename_i c2
   rw[if_neg c2] at h
   split
   ·rename_i c3
    rw[if_pos c3] at h
    simp only[Bool.and_eq_true] at h ⊢
    exact⟨h.1,hx _ h.2⟩
   ·rename_i c3
    rw[if_neg c3] at h;exact h
theorem condsOk_snoc (d:Nat)(types:List CType):∀(l:List CCond)(s s':Int×Int)(c:CCond),condsOk d types s l=some s'→condsOk d types s (l++[c])=condOk d types s' c
 | [],s,s',c,h=>by
  injection h with h;subst h
  show (match condOk d types s c with|none=>none|some v'=>some v')=_
  cases condOk d types s c<;>rfl
 | b::l,s,s',c,h=>by
  have h:(match condOk d types s b with|none=>none|some v'=>condsOk d types v' l)=some s':=h
  show (match condOk d types s b with|none=>none|some v'=>condsOk d types v' (l++[c]))=_
  cases hb:condOk d types s b with
  | none=>rw[hb] at h;cases h
  | some v1 =>
   rw[hb] at h
   exact condsOk_snoc d types l v1 s' c h
def PartI (d:Nat) (types:List CType) (s:RSt):Prop:=condsOk d types (0,0) s.conds=some ((s.vars.length:Int),(factsM s.conds:Int))∧s.vars.length≤16∧∀a∈s.acts,actOk d types ((s.vars.length:Int),(factsM s.conds:Int)) a=true
theorem factsM_snoc (l:List CCond)(c:CCond):factsM (l++[c])=factsM l+(if c.kind==1 then 1 else 0):=by
 unfold factsM
 rw[List.filter_append,List.length_append]
 by_cases h:(c.kind==1)=true
 ·rw[if_pos h];simp[List.filter,h]
 ·rw[if_neg h]
  simp only[Bool.not_eq_true] at h
  simp[List.filter,h]
theorem arg_len {binds:Bool}{s s':List ByteArray×List CArg}{T:Tree}(h:argStep binds s T=.ok s'):s'.2.length=s.2.length+1:=by
 unfold argStep at h
 split at h
 ·injection h with h;subst h;simp
 ·split at h
  ·split at h
   ·injection h with h;subst h;simp
   ·split at h
    ·cases h
    ·split at h
     ·cases h
     ·injection h with h;subst h;simp
  ·injection h with h;subst h;simp
theorem args_len {binds:Bool}:∀(l:List Tree)(s s':List ByteArray×List CArg),foldE (argStep binds) s l=.ok s'→s'.2.length=s.2.length+l.length
 | [],s,s',h=>by injection h with h;subst h;simp
 | T::l,s,s',h=>by
  unfold foldE at h
  split at h
  ·cases h
  ·rename_i s1 h1
   have:=args_len l s1 s' h
   have:=arg_len h1
   rw[List.length_cons];omega
theorem args_ok {d:Nat}{binds:Bool}{T:Tree}{vs:List ByteArray}{r:List ByteArray×List CArg}(he:exactT d T)(hok:okF d T=true)(hm:among [12,13,14,15] T.kids=true)(hv:vs.length≤16)(h:foldE (argStep binds) (vs,[]) T.kids=.ok r):ArgI binds vs.length r:=by
 refine foldE_inv (ArgI binds vs.length) (fun t=>levelOk t=true∧(t.kind=12∨t.kind=13∨t.kind=14∨t.kind=15)) (fun s x s' hs hx hh=>argStep_ok hs hx.1 hx.2 hh) T.kids (vs,[]) r (fun x hx=>⟨okF_level (kid_ok he hok hx).2,?_⟩) ⟨rfl,hv,Int.le_refl _⟩ h
 unfold among at hm
 rw[List.all_eq_true] at hm
 have:=hm x hx
 simpa using this
theorem exprs_ok {d:Nat}{T:Tree}{vs:List ByteArray}{xs:List CExpr}(he:exactT d T)(hok:okF d T=true)(hm:exprsB T.kids=true)(h:listE (mkExpr vs d) T.kids=.ok xs):xs.all (exprOk vs.length d)=true:=by
 rw[List.all_eq_true]
 exact listE_inv (fun e=>exprOk vs.length d e=true) (fun t=>t∈T.kids) (fun x y hx hy=>mkExpr_ok d x y (kid_ok he hok hx).1 (kid_ok he hok hx).2 (exprs_kind hm x hx) hy) (fun x hx=>hx) h
theorem partStep_ok {d:Nat}{types:List CType}{s s':RSt}{T:Tree}(hi:PartI d types s)(he:exactT d T)(hok:okF d T=true)(hk:5≤T.kind∧T.kind≤11)(h:partStep d types s T=.ok s'):PartI d types s'∧s'.conds.length=s.conds.length+(if condB T then 1 else 0)∧s'.acts.length=s.acts.length+(if condB T then 0 else 1):=by
 obtain⟨h1,h2,h3⟩:=hi
 obtain⟨_,hkids,hnum⟩:=level_text (okF_level hok)
 have hcases:T.kind=5∨T.kind=6∨T.kind=7∨T.kind=8∨T.kind=9∨T.kind=10∨T.kind=11:=by omega
 unfold partStep at h
 have fact:∀(q:Nat),T.kind=q→(q=5∨q=6)→PartI d types s'∧s'.conds.length=s.conds.length+1∧s'.acts.length=s.acts.length:=by
  intro q hq hq'
  rw[if_pos (by rw[hq];rcases hq' with rfl|rfl<;>rfl)] at h
  split at h
  ·cases h
  ·rename_i k hty
   split at h
   ·cases h
   ·rename_i r hr
    injection h with h;subst h
    have hm:among [12,13,14,15] T.kids=true:=by rw[hq] at hkids;rcases hq' with rfl|rfl<;>exact hkids
    obtain⟨a1,a2,a3⟩:=args_ok he hok hm h2 hr
    have hlen:=args_len T.kids _ r hr
    simp only[List.length_nil,Nat.zero_add] at hlen
    have hf:=typed_fits hty
    rw[←hlen] at hf
    have hkk:((if T.kind==6 then (2:Int) else 1)==1)=(T.kind==5):=by rw[hq];rcases hq' with rfl|rfl<;>rfl
    have hco:condOk d types ((s.vars.length:Int),(factsM s.conds:Int)) ⟨if T.kind==6 then 2 else 1,k,r.2,.zero⟩=some ((r.1.length:Int),if (T.kind==5)=true then (factsM s.conds:Int)+1 else factsM s.conds):=by
     unfold condOk
     have hz:zeroE CExpr.zero=true:=by decide
     have ho:((if T.kind==6 then (2:Int) else 1)==1||(if T.kind==6 then (2:Int) else 1)==2)=true:=by rw[hq];rcases hq' with rfl|rfl<;>rfl
     dsimp only
     rw[if_pos ho]
     simp only[if_true,hf,hz,Bool.and_self,hkk,a1]
    refine⟨⟨?_,a2,fun a ha=>actOk_mono ?_ ?_ (h3 a ha)⟩,by simp,rfl⟩
    ·show condsOk d types (0,0) (s.conds++[_])=_
     rw[condsOk_snoc d types _ _ _ _ h1,hco,factsM_snoc]
     simp only[hkk]
     rcases hq' with rfl|rfl<;>rw[hq]<;>rfl
    ·exact a3
    ·show (factsM s.conds:Int)≤factsM (s.conds++[_])
     rw[factsM_snoc];omega
 have act:∀a:CAct,s'=⟨s.vars,s.conds,s.acts++[a]⟩→actOk d types ((s.vars.length:Int),(factsM s.conds:Int)) a=true→PartI d types s'∧s'.conds.length=s.conds.length∧s'.acts.length=s.acts.length+1:=by
  rintro a rfl ha
  refine⟨⟨h1,h2,fun b hb=>?_⟩,rfl,by simp⟩
  rcases List.mem_append.1 hb with hb|hb
  ·exact h3 b hb
  ·obtain rfl:=List.mem_singleton.1 hb;exact ha
 rcases hcases with hq|hq|hq|hq|hq|hq|hq
 ·have:=fact 5 hq (Or.inl rfl)
  have hc:condB T=true:=by unfold condB;rw[hq];rfl
  rw[hc];simpa using this
 ·have:=fact 6 hq (Or.inr rfl)
  have hc:condB T=true:=by unfold condB;rw[hq];rfl
  rw[hc];simpa using this
 ·have hc:condB T=true:=by unfold condB;rw[hq];rfl
  rw[hc]
  clear fact act
  simp only[hq,Nat.reduceBEq,Bool.or_self,Bool.false_eq_true,if_false,if_true] at h
  rw[hq] at hkids
  have hk7:(T.kids.length==1&&exprsB T.kids)=true:=hkids
  simp only[Bool.and_eq_true,beq_iff_eq] at hk7
  obtain⟨hl1,hex⟩:=hk7
  split at h
  ·rename_i hn;rw[hn] at hl1;cases hl1
  ·rename_i t l hn
   split at h
   ·cases h
   ·rename_i x hx
    injection h with h;subst h
    have hmem:t∈T.kids:=by rw[hn];exact List.mem_cons_self
    have hxo:=mkExpr_ok d t x (kid_ok he hok hmem).1 (kid_ok he hok hmem).2 (exprs_kind hex t hmem) hx
    have hco:condOk d types ((s.vars.length:Int),(factsM s.conds:Int)) ⟨3,0,[],x⟩=some ((s.vars.length:Int),(factsM s.conds:Int)):=by
     unfold condOk
     simp[hxo]
    have hfm:factsM (s.conds++[⟨3,0,[],x⟩])=factsM s.conds:=by rw[factsM_snoc];rfl
    refine⟨⟨?_,h2,fun a ha=>by show actOk d types ((s.vars.length:Int),(factsM (s.conds++[⟨3,0,[],x⟩]):Int)) a=true;rw[hfm];exact h3 a ha⟩,by simp,rfl⟩
    ·show condsOk d types (0,0) (s.conds++[_])=_
     rw[condsOk_snoc d types _ _ _ _ h1,hco]
     show _=some (_,((factsM (s.conds++[⟨3,0,[],x⟩]):Nat):Int))
     rw[hfm]
 ·have hc:condB T=false:=by unfold condB;rw[hq];rfl
  rw[hc]
  simp only[hq,Nat.reduceBEq,Bool.or_self,Bool.false_eq_true,if_false,if_true] at h
  rw[hq] at hkids
  have hex:exprsB T.kids=true:=hkids
  split at h
  ·cases h
  ·rename_i k hty
   split at h
   ·cases h
   ·rename_i xs hxs
    injection h with h
    have hf:=typed_fits hty
    have hlen:xs.length=T.kids.length:=by have:=listE_lenR T.kids [] xs hxs;simpa using this
    rw[←hlen] at hf
    have hall:=exprs_ok he hok hex hxs
    have:=act ⟨1,k,0,xs⟩ h.symm (by unfold actOk;simp only[hf,hall];rfl)
    simpa using this
 ·have hc:condB T=false:=by unfold condB;rw[hq];rfl
  rw[hc]
  simp only[hq,Nat.reduceBEq,Bool.or_self,Bool.false_eq_true,if_false,if_true] at h
  split at h
  ·cases h
  ·rename_i hn
   injection h with h
   have:=act ⟨2,0,T.num-1,[]⟩ h.symm (by
    unfold actOk
    simp at hn ⊢
    omega)
   simpa using this
 ·have hc:condB T=false:=by unfold condB;rw[hq];rfl
  rw[hc]
  simp only[hq,Nat.reduceBEq,Bool.or_self,Bool.false_eq_true,if_false,if_true] at h
  rw[hq] at hkids
  have hex:(decide (0<T.kids.length)&&exprsB T.kids)=true:=hkids
  simp only[Bool.and_eq_true,decide_eq_true_eq] at hex
  split at h
  ·cases h
  ·rename_i xs hxs
   injection h with h
   have hlen:xs.length=T.kids.length:=by have:=listE_lenR T.kids [] xs hxs;simpa using this
   have hall:=exprs_ok he hok hex.2 hxs
   have hne:xs.isEmpty=false:=by
    cases xs with
    | nil=>simp at hlen;omega
    | cons _ _=>rfl
   have:=act ⟨3,0,0,xs⟩ h.symm (by unfold actOk;simp only[hall,hne];rfl)
   simpa using this
 ·have hc:condB T=false:=by unfold condB;rw[hq];rfl
  rw[hc]
  simp only[hq,Nat.reduceBEq,Bool.or_self,Bool.false_eq_true,if_false] at h
  injection h with h
  have:=act ⟨4,0,0,[]⟩ h.symm (by rfl)
  simpa using this
theorem conds_count:∀l:List Tree,among [8,9,10,11] (l.dropWhile condB)=true→(l.filter condB).length=condsM l∧(∀T∈l,5≤T.kind∧T.kind≤11)
 | [],_=>⟨rfl,fun T hT=>by cases hT⟩
 | T::l,h=>by
  unfold condsM
  cases hc:condB T with
  | true =>
   rw[List.dropWhile_cons,hc,if_pos rfl] at h
   obtain⟨h1,h2⟩:=conds_count l h
   rw[List.filter_cons,hc,if_pos rfl,List.takeWhile_cons,hc,if_pos rfl,List.length_cons,List.length_cons,h1]
   refine⟨rfl,fun x hx=>?_⟩
   rcases List.mem_cons.1 hx with rfl|hx
   ·unfold condB at hc
    simp at hc
    omega
   ·exact h2 x hx
  | false =>
   rw[List.dropWhile_cons,hc] at h
   have h:among [8,9,10,11] (T::l)=true:=h
   unfold among at h
   rw[List.all_eq_true] at h
   have hk:∀x∈T::l,8≤x.kind∧x.kind≤11:=fun x hx=>by
    have:=h x hx
    simp at this
    omega
   rw[List.takeWhile_cons,hc]
   refine⟨?_,fun x hx=>by have:=hk x hx;omega⟩
   have:(T::l).filter condB=[]:=by
    rw[List.filter_eq_nil_iff]
    intro x hx
    have:=hk x hx
    unfold condB
    simp
    omega
   rw[this];rfl
theorem parts_ok {d:Nat}{types:List CType}:∀(l:List Tree)(s s':RSt),(∀T∈l,exactT d T∧okF d T=true∧5≤T.kind∧T.kind≤11)→PartI d types s→foldE (partStep d types) s l=.ok s'→PartI d types s'∧s'.conds.length=s.conds.length+(l.filter condB).length∧s'.acts.length+(l.filter condB).length=s.acts.length+l.length
 | [],s,s',_,hi,h=>by injection h with h;subst h;exact⟨hi,by simp,by simp⟩
 | T::l,s,s',hA,hi,h=>by
  unfold foldE at h
  split at h
  ·cases h
  ·rename_i s1 h1
   obtain⟨a1,a2,a3⟩:=hA T List.mem_cons_self
   obtain⟨b1,b2,b3⟩:=partStep_ok hi a1 a2 a3 h1
   obtain⟨c1,c2,c3⟩:=parts_ok l s1 s' (fun x hx=>hA x (List.mem_cons_of_mem _ hx)) b1 h
   refine⟨c1,?_,?_⟩
   ·rw[List.filter_cons]
    cases hc:condB T<;>simp[hc] at b2 b3 ⊢<;>omega
   ·rw[List.filter_cons]
    cases hc:condB T<;>simp[hc] at b2 b3 ⊢<;>omega
theorem apartB_snoc:∀(l seen:List ByteArray)(x:ByteArray),apartB seen (l++[x])=(apartB seen l&&!(idxOf x (seen++l)).isSome)
 | [],seen,x=>by
  show (!(idxOf x seen).isSome&&true)=(true&&!(idxOf x (seen++[])).isSome)
  simp
 | y::l,seen,x=>by
  show (!(idxOf y seen).isSome&&apartB (seen++[y]) (l++[x]))=(!(idxOf y seen).isSome&&apartB (seen++[y]) l&&!(idxOf x (seen++y::l)).isSome)
  rw[apartB_snoc l (seen++[y]) x,Bool.and_assoc]
  simp
theorem text_named {k n:Nat}{t:List UInt8}(h:textOk k t n=true)(hk:k=2∨k=4):namedF t=true:=by
 rcases hk with rfl|rfl
 ·have h:(namedF t&&!wordB t)=true:=h
  rw[Bool.and_eq_true] at h;exact h.1
 ·have h:(namedF t&&!wordB t)=true:=h
  rw[Bool.and_eq_true] at h;exact h.1
theorem types_ok {ts ts':List CType}{T:Tree}(hl:levelOk T=true)(hi:ts.length≤32∧ts.all typeOk=true∧apartB [] (ts.map CType.name)=true)(h:typeStep ts T=.ok ts'):ts'.length≤32∧ts'.all typeOk=true∧apartB [] (ts'.map CType.name)=true:=by
 unfold typeStep at h
 split at h
 ·rename_i hk
  split at h
  ·cases h
  ·rename_i hn
   split at h
   ·cases h
   ·rename_i hm
    split at h
    ·cases h
    ·injection h with h;subst h
     simp only[Bool.or_eq_true,decide_eq_true_eq,not_or,Nat.not_le,Nat.not_lt] at hm
     obtain⟨i1,i2,i3⟩:=hi
     have hk2:T.kind=2:=by simpa using hk
     have hnm:=text_named (level_text hl).1 (Or.inl hk2)
     refine⟨by simp;omega,?_,?_⟩
     ·rw[List.all_append,i2]
      simp[typeOk,hnm]
      omega
     ·rw[List.map_append,List.map_singleton,apartB_snoc,i3]
      have hn:(idxOf T.text (ts.map CType.name)).isSome=false:=by
       unfold typeIdx at hn
       simpa using hn
      simp[hn]
 ·injection h with h;subst h;exact hi
theorem rule_ok {d:Nat}{types:List CType}{rs rs':List CRule}{T:Tree}(he:exactT d T)(hok:okF d T=true)(hi:rs.length≤64∧rs.all (ruleOk d types)=true∧apartB [] (rs.map CRule.name)=true)(h:ruleStep d types rs T=.ok rs'):rs'.length≤64∧rs'.all (ruleOk d types)=true∧apartB [] (rs'.map CRule.name)=true:=by
 unfold ruleStep at h
 split at h
 ·rename_i hk
  have hk4:T.kind=4:=by simpa using hk
  split at h
  ·cases h
  ·rename_i hn
   split at h
   ·cases h
   ·rename_i hs
    split at h
    ·cases h
    ·rename_i hm
     split at h
     ·cases h
     ·rename_i s hps
      injection h with h;subst h
      simp only[Bool.or_eq_true,decide_eq_true_eq,not_or,Nat.not_le,Nat.not_lt,Int.not_lt] at hm hs
      obtain⟨i1,i2,i3⟩:=hi
      obtain⟨htx,hkd,_⟩:=level_text (okF_level hok)
      rw[hk4] at hkd
      obtain⟨q1,q2⟩:=conds_count T.kids hkd
      obtain⟨p1,p2,p3⟩:=parts_ok T.kids ⟨[],[],[]⟩ s (fun x hx=>⟨(kid_ok he hok hx).1,(kid_ok he hok hx).2,q2 x hx⟩) ⟨rfl,Nat.zero_le _,fun a ha=>by cases ha⟩ hps
      have hnm:=text_named htx (Or.inr hk4)
      simp only[List.length_nil,Nat.zero_add] at p2 p3
      refine⟨by simp;omega,?_,?_⟩
      ·rw[List.all_append,i2]
       obtain⟨r1,r2,r3⟩:=p1
       have hr:ruleOk d types ⟨T.text,T.num,s.vars.length,s.conds,s.acts⟩=true:=by
        unfold ruleOk
        simp only[r1,hnm,Bool.true_and,Bool.and_eq_true,decide_eq_true_eq,List.all_eq_true,beq_self_eq_true]
        and_intros<;>first|trivial|omega|exact r3
       simp[hr]
      ·rw[List.map_append,List.map_singleton,apartB_snoc,i3]
       have hn:(idxOf T.text (rs.map CRule.name)).isSome=false:=by simpa using hn
       simp[hn]
 ·injection h with h;subst h;exact hi
theorem made_right {d:Nat}{T:Tree}{R:CRules}(he:exactT d T)(hok:okF d T=true)(h:makeM d T=.ok R):rulesOk d R=true:=by
 unfold makeM at h
 split at h
 ·cases h
 ·rename_i ts hts
  split at h
  ·cases h
  ·rename_i rs hrs
   injection h with h;subst h
   obtain⟨t1,t2,t3⟩:=foldE_inv (fun ts=>ts.length≤32∧ts.all typeOk=true∧apartB [] (ts.map CType.name)=true) (fun x=>levelOk x=true) (fun s x s' hi hx h=>types_ok hx hi h) T.kids [] ts (fun x hx=>okF_level (kid_ok he hok hx).2) ⟨Nat.zero_le _,rfl,rfl⟩ hts
   obtain⟨r1,r2,r3⟩:=foldE_inv (fun rs=>rs.length≤64∧rs.all (ruleOk d ts)=true∧apartB [] (rs.map CRule.name)=true) (fun x=>exactT d x∧okF d x=true) (fun s x s' hi hx h=>rule_ok hx.1 hx.2 hi h) T.kids [] rs (fun x hx=>kid_ok he hok hx) ⟨Nat.zero_le _,rfl,rfl⟩ hrs
   unfold rulesOk
   simp only[t2,t3,r2,r3,Bool.and_true,Bool.and_eq_true,decide_eq_true_eq]
   exact⟨t1,r1⟩
def atT (f:Int→Int):Tree→Tree
 | .mk k t n p l=>.mk k t n (f p) (l.map (atT f))
theorem atT_parts (f:Int→Int)(T:Tree):(atT f T).kind=T.kind∧(atT f T).text=T.text∧(atT f T).num=T.num∧(atT f T).place=f T.place∧(atT f T).kids=T.kids.map (atT f):=by
 obtain⟨k,t,n,p,l⟩:=T
 rw[atT]
 exact⟨rfl,rfl,rfl,rfl,rfl⟩
def errF {σ:Type} (f:Int→Int):Except Flt σ→Except Flt σ
 | .error e=>.error (e.1,f e.2)
 | .ok s=>.ok s
theorem foldE_at {σ:Type}{f:Int→Int}{g:σ→Tree→Except Flt σ}(h:∀s T,g s (atT f T)=errF f (g s T)):∀(l:List Tree)(s:σ),foldE g s (l.map (atT f))=errF f (foldE g s l)
 | [],s=>rfl
 | T::l,s=>by
  rw[List.map_cons]
  unfold foldE
  rw[h s T]
  cases g s T with
  | error e=>rfl
  | ok s'=>exact foldE_at h l s'
theorem listE_at {β:Type}{f:Int→Int}{g:Tree→Except Flt β}(h:∀T,g (atT f T)=errF f (g T))(l:List Tree):listE g (l.map (atT f))=errF f (listE g l):=by
 refine foldE_at (fun s T=>?_) l []
 rw[h T]
 cases g T<;>rfl
theorem const_at (f:Int→Int)(T:Tree):constM (atT f T)=constM T:=by
 obtain⟨h1,h2,_⟩:=atT_parts f T
 unfold constM
 rw[h1,h2]
theorem mkExpr_at (f:Int→Int)(vars:List ByteArray):∀(d:Nat)(T:Tree),mkExpr vars d (atT f T)=errF f (mkExpr vars d T):=by
 intro d
 induction d with
 | zero =>
  intro T
  obtain⟨h1,h2,h3,h4,h5⟩:=atT_parts f T
  unfold mkExpr
  rw[h1,h2,h4,h5,const_at,List.length_map]
  split
  ·rfl
  ·split
   ·cases idxOf T.text vars<;>rfl
   ·rfl
 | succ d ih =>
  intro T
  obtain⟨h1,h2,h3,h4,h5⟩:=atT_parts f T
  rw[mkExpr]
  dsimp only
  rw[h1,h2,h4,h5,const_at,List.length_map,listE_at ih]
  split
  ·rfl
  ·split
   ·cases idxOf T.text vars<;>rfl
   ·cases listE (mkExpr vars d) T.kids<;>rfl
theorem argStep_at (f:Int→Int)(b:Bool)(s:List ByteArray×List CArg)(T:Tree):argStep b s (atT f T)=errF f (argStep b s T):=by
 obtain⟨h1,h2,h3,h4,h5⟩:=atT_parts f T
 unfold argStep
 rw[h1,h2,h4,const_at]
 split
 ·rfl
 ·split
  ·cases idxOf T.text s.1 with
   | some k=>rfl
   | none =>
    dsimp only
    split
    ·rfl
    ·split<;>rfl
  ·rfl
theorem typed_at (f:Int→Int)(ts:List CType)(T:Tree):typedM ts (atT f T)=errF f (typedM ts T):=by
 obtain⟨h1,h2,h3,h4,h5⟩:=atT_parts f T
 unfold typedM
 rw[h2,h4,h5,List.length_map]
 cases typeIdx T.text ts with
 | none=>rfl
 | some k =>
  dsimp only
  split<;>rfl
theorem partStep_at (f:Int→Int)(d:Nat)(ts:List CType)(s:RSt)(T:Tree):partStep d ts s (atT f T)=errF f (partStep d ts s T):=by
 obtain⟨h1,h2,h3,h4,h5⟩:=atT_parts f T
 unfold partStep
 rw[h1,h3,h4,h5,typed_at,foldE_at (argStep_at f _),listE_at (mkExpr_at f s.vars d)]
 split
 ·cases typedM ts T with
  | error e=>rfl
  | ok k=>cases foldE (argStep (T.kind==5)) (s.vars,[]) T.kids<;>rfl
 ·split
  ·cases T.kids with
   | nil=>rfl
   | cons t l =>
    rw[List.map_cons]
    dsimp only
    rw[mkExpr_at]
    cases mkExpr s.vars d t<;>rfl
  ·split
   ·cases typedM ts T with
    | error e=>rfl
    | ok k=>cases listE (mkExpr s.vars d) T.kids<;>rfl
   ·split
    ·split<;>rfl
    ·split
     ·cases listE (mkExpr s.vars d) T.kids<;>rfl
     ·rfl
theorem condB_at (f:Int→Int)(T:Tree):condB (atT f T)=condB T:=by
 unfold condB;rw[(atT_parts f T).1]
theorem condsM_at (f:Int→Int):∀l:List Tree,condsM (l.map (atT f))=condsM l
 | []=>rfl
 | T::l=>by
  have ih:=condsM_at f l
  unfold condsM at *
  rw[List.map_cons,List.takeWhile_cons,List.takeWhile_cons,condB_at]
  split
  ·rw[List.length_cons,List.length_cons,ih]
  ·rfl
theorem ruleStep_at (f:Int→Int)(d:Nat)(ts:List CType)(rs:List CRule)(T:Tree):ruleStep d ts rs (atT f T)=errF f (ruleStep d ts rs T):=by
 obtain⟨h1,h2,h3,h4,h5⟩:=atT_parts f T
 unfold ruleStep
 rw[h1,h2,h3,h4,h5,condsM_at,List.length_map,foldE_at (partStep_at f d ts)]
 split
 ·split
  ·rfl
  ·split
   ·rfl
   ·split
    ·rfl
    ·cases foldE (partStep d ts) ⟨[],[],[]⟩ T.kids<;>rfl
 ·rfl
theorem fieldStep_at (f:Int→Int)(s:List ByteArray)(T:Tree):fieldStep s (atT f T)=errF f (fieldStep s T):=by
 obtain⟨h1,h2,h3,h4,h5⟩:=atT_parts f T
 unfold fieldStep
 rw[h2,h4]
 split<;>rfl
theorem typeStep_at (f:Int→Int)(ts:List CType)(T:Tree):typeStep ts (atT f T)=errF f (typeStep ts T):=by
 obtain⟨h1,h2,h3,h4,h5⟩:=atT_parts f T
 unfold typeStep
 rw[h1,h2,h4,h5,List.length_map,foldE_at (fieldStep_at f)]
 split
 ·split
  ·rfl
  ·split
   ·rfl
   ·cases foldE fieldStep [] T.kids<;>rfl
 ·rfl
theorem makeM_at (f:Int→Int)(d:Nat)(T:Tree):makeM d (atT f T)=errF f (makeM d T):=by
 obtain⟨h1,h2,h3,h4,h5⟩:=atT_parts f T
 unfold makeM
 rw[h5,foldE_at (typeStep_at f)]
 cases foldE typeStep [] T.kids with
 | error e=>rfl
 | ok ts =>
  dsimp only [errF]
  rw[foldE_at (ruleStep_at f d ts)]
  cases foldE (ruleStep d ts) [] T.kids<;>rfl
theorem level_at (f:Int→Int)(hf:∀p,0≤p→0≤f p)(T:Tree)(h:levelOk T=true):levelOk (atT f T)=true:=by
 obtain⟨h1,h2,h3,h4,h5⟩:=atT_parts f T
 have hk:∀(S:List Nat) (l:List Tree),among S (l.map (atT f))=among S l:=fun S l=>by
  unfold among
  rw[List.all_map]
  congr 1
  funext t
  show S.contains (atT f t).kind=_
  rw[(atT_parts f t).1]
 have he:∀l:List Tree,exprsB (l.map (atT f))=exprsB l:=fun l=>by
  unfold exprsB
  rw[hk,List.all_map]
  congr 2
  funext t
  show (!((atT f t).kind==14&&negB (atT f t).text.data.toList))=_
  rw[(atT_parts f t).1,(atT_parts f t).2.1]
 have hd:∀l:List Tree,(l.map (atT f)).dropWhile condB=(l.dropWhile condB).map (atT f):=fun l=>by
  induction l with
  | nil=>rfl
  | cons t l ih =>
   rw[List.map_cons,List.dropWhile_cons,List.dropWhile_cons,condB_at]
   split
   ·exact ih
   ·rfl
 have hko:kidsOk T.kind (T.kids.map (atT f))=kidsOk T.kind T.kids:=by
  unfold kidsOk rowB
  rw[hd]
  simp only[hk,he,List.length_map,List.isEmpty_map]
 unfold levelOk at h ⊢
 rw[h1,h2,h3,h4,h5,List.length_map,hko]
 simp only[Bool.and_eq_true,decide_eq_true_eq] at h ⊢
 exact⟨⟨h.1.1,hf _ h.1.2⟩,h.2⟩
theorem ok_at (f:Int→Int)(hf:∀p,0≤p→0≤f p):∀(d:Nat)(T:Tree),okF d T=true→okF d (atT f T)=true
 | 0,T,h=>level_at f hf T h
 | d+1,T,h=>by
  have h:(levelOk T&&T.kids.all (okF d))=true:=h
  rw[Bool.and_eq_true,List.all_eq_true] at h
  show (levelOk (atT f T)&&(atT f T).kids.all (okF d))=true
  rw[Bool.and_eq_true,List.all_eq_true,(atT_parts f T).2.2.2.2]
  refine⟨level_at f hf T h.1,fun x hx=>?_⟩
  obtain⟨y,hy,rfl⟩:=List.mem_map.1 hx
  exact ok_at f hf d y (h.2 y hy)
theorem deep_at (f:Int→Int):∀(d:Nat)(T:Tree),deepF d (atT f T)=deepF d T∧manyF d (atT f T)=manyF d T
 | 0,T=>⟨rfl,rfl⟩
 | d+1,T=>by
  have e1:(deepF d) ∘ (atT f)=deepF d:=funext fun t=>(deep_at f d t).1
  have e2:(manyF d) ∘ (atT f)=manyF d:=funext fun t=>(deep_at f d t).2
  constructor
  ·show ((atT f T).kids.map (deepF d)).foldl Nat.max 0+1=(T.kids.map (deepF d)).foldl Nat.max 0+1
   rw[(atT_parts f T).2.2.2.2,List.map_map,e1]
  ·show ((atT f T).kids.map (manyF d)).foldl (· + ·) 1=(T.kids.map (manyF d)).foldl (· + ·) 1
   rw[(atT_parts f T).2.2.2.2,List.map_map,e2]
theorem right_at (f:Int→Int)(hf:∀p,0≤p→0≤f p)(d:Nat)(T:Tree)(h:rightF d T=true):rightF d (atT f T)=true:=by
 unfold rightF at *
 simp only[Bool.and_eq_true] at h
 rw[(atT_parts f T).1,(deep_at f d T).1,(deep_at f d T).2,ok_at f hf d T h.1.1.2]
 rw[h.1.1.1,h.1.2,h.2];rfl
structure Rd (α:Type) where
 n:Nat
 at_:World→(Nat→Prop)→α→List Value→Prop
 len:∀{w F x vs},at_ w F x vs→vs.length=n
 keep:∀{w w':World} {F x vs},(∀b,F b→∀o,w.heap[b]? = some o→w'.heap[b]? = some o)→at_ w F x vs→at_ w' F x vs
 sub:∀{w:World} {F G:Nat→Prop} {x vs},(∀b,F b→G b)→at_ w F x vs→at_ w G x vs
 one:∀{w F x vs},at_ w F x vs→∀u∈vs,u.oneCell'=true
def Rd.row {α:Type} (r:Rd α) (w:World) (F:Nat→Prop) (xs:List α) (v:Value):Prop:=
 (xs=[]∧∃p c,v=.slice p 0 c)∨∃b off cap,xs≠[]∧F b∧b<w.heap.size∧xs.length≤cap∧cap≤maxLen∧v=.slice (some ⟨b,off,none⟩) xs.length cap ∧
  ∀i x,xs[i]? = some x→∃vs,r.at_ w F x vs∧∀m u,vs[m]? = some u→w.cell? ⟨b,off+i*r.n+m,none⟩=some u
theorem cell_keep {w w':World}{b:Nat}(h:∀o,w.heap[b]? = some o→w'.heap[b]? = some o){i:Nat}{u:Value}(hc:w.cell? ⟨b,i,none⟩=some u):w'.cell? ⟨b,i,none⟩=some u:=by
 obtain⟨o,ho⟩:∃o,w.heap[b]? = some o:=by
  cases hh:w.heap[b]? with
  | none=>unfold World.cell? at hc;simp[hh] at hc
  | some o=>exact⟨o,rfl⟩
 have e:w'.heap[b]? = w.heap[b]?:=(h o ho).trans ho.symm
 have:w'.cell? ⟨b,i,none⟩=w.cell? ⟨b,i,none⟩:=by unfold World.cell?;simp only[e]
 rw[this];exact hc
section
variable {α:Type} {r:Rd α} {w w':World} {F G:Nat→Prop} {xs:List α} {v:Value}
theorem Rd.row_keep (hk:∀b,F b→∀o,w.heap[b]? = some o→w'.heap[b]? = some o)(h:r.row w F xs v):r.row w' F xs v:=by
 rcases h with h|⟨b,off,cap,h1,h2,hlt,h3,h4,h5,h6⟩
 ·exact Or.inl h
 ·have hlt':b<w'.heap.size:=(Array.getElem?_eq_some_iff.1 (hk b h2 _ (Array.getElem?_eq_getElem hlt))).1
  refine Or.inr ⟨b,off,cap,h1,h2,hlt',h3,h4,h5,fun i x hx=>?_⟩
  obtain⟨vs,p1,p2⟩:=h6 i x hx
  exact⟨vs,r.keep hk p1,fun m u hu=>cell_keep (hk b h2) (p2 m u hu)⟩
theorem Rd.row_sub (hs:∀b,F b→G b)(h:r.row w F xs v):r.row w G xs v:=by
 rcases h with h|⟨b,off,cap,h1,h2,hlt,h3,h4,h5,h6⟩
 ·exact Or.inl h
 ·refine Or.inr ⟨b,off,cap,h1,hs b h2,hlt,h3,h4,h5,fun i x hx=>?_⟩
  obtain⟨vs,p1,p2⟩:=h6 i x hx
  exact⟨vs,r.sub hs p1,p2⟩
theorem Rd.row_shape (h:r.row w F xs v):∃p c,v=.slice p xs.length c:=by
 rcases h with ⟨rfl,p,c,rfl⟩|⟨b,off,cap,h1,h2,_,h3,h4,h5,h6⟩
 ·exact⟨p,c,rfl⟩
 ·exact⟨_,_,h5⟩
theorem Rd.row_nil {p:Option Addr}{c:Nat}:r.row w F [] (.slice p 0 c):=Or.inl ⟨rfl,p,c,rfl⟩
theorem Rd.row_at {i:Nat}{x:α}(h:r.row w F xs v)(hx:xs[i]? = some x):∃b off cap vs,v=.slice (some ⟨b,off,none⟩) xs.length cap∧xs.length≤cap∧cap≤maxLen∧F b∧b<w.heap.size∧r.at_ w F x vs∧∀m u,vs[m]? = some u→w.cell? ⟨b,off+i*r.n+m,none⟩=some u:=by
 rcases h with ⟨rfl,_⟩|⟨b,off,cap,h1,h2,hlt,h3,h4,h5,h6⟩
 ·simp at hx
 ·obtain⟨vs,p1,p2⟩:=h6 i x hx
  exact⟨b,off,cap,vs,h5,h3,h4,h2,hlt,p1,p2⟩
theorem Rd.row_len (h:r.row w F xs v):xs.length≤maxLen:=by
 rcases h with ⟨rfl,_⟩|⟨b,off,cap,h1,h2,_,h3,h4,_⟩
 ·exact Nat.zero_le _
 ·omega
end
def Rd.num (k:IntKind) (lo hi:Int):Rd Int where
 n:=1
 at_ _ _ x vs:=vs=[.int k x]∧lo≤x∧x<hi
 len h:=by rw[h.1];rfl
 keep _ h:=h
 sub _ h:=h
 one h:=by rw[h.1];intro u hu;obtain rfl:=List.mem_singleton.1 hu;rfl
def Rd.int:Rd Int:=Rd.num .i64 (-9223372036854775808) 9223372036854775808
def Rd.u8:Rd Int:=Rd.num .u8 0 256
def Rd.str:Rd ByteArray where
 n:=1
 at_ _ _ x vs:=vs=[.string x]∧x.size≤maxLen
 len h:=by rw[h.1];rfl
 keep _ h:=h
 sub _ h:=h
 one h:=by rw[h.1];intro u hu;obtain rfl:=List.mem_singleton.1 hu;rfl
def Rd.list {α:Type} (r:Rd α):Rd (List α) where
 n:=1
 at_ w F xs vs:=∃v,vs=[v]∧r.row w F xs v
 len:=by rintro w F x vs ⟨v,rfl,_⟩;rfl
 keep:=by rintro w w' F x vs hk ⟨v,rfl,h⟩;exact⟨v,rfl,Rd.row_keep hk h⟩
 sub:=by rintro w F G x vs hs ⟨v,rfl,h⟩;exact⟨v,rfl,Rd.row_sub hs h⟩
 one:=by
  rintro w F x vs ⟨v,rfl,h⟩ u hu
  obtain rfl:=List.mem_singleton.1 hu
  obtain⟨p,c,rfl⟩:=Rd.row_shape h
  rfl
def Rd.pair {α β:Type} (r:Rd α) (s:Rd β):Rd (α×β) where
 n:=r.n+s.n
 at_ w F x vs:=∃us ws,vs=us++ws∧r.at_ w F x.1 us∧s.at_ w F x.2 ws
 len:=by rintro w F x vs ⟨us,ws,rfl,h1,h2⟩;rw[List.length_append,r.len h1,s.len h2]
 keep:=by rintro w w' F x vs hk ⟨us,ws,rfl,h1,h2⟩;exact⟨us,ws,rfl,r.keep hk h1,s.keep hk h2⟩
 sub:=by rintro w F G x vs hs ⟨us,ws,rfl,h1,h2⟩;exact⟨us,ws,rfl,r.sub hs h1,s.sub hs h2⟩
 one:=by
  rintro w F x vs ⟨us,ws,rfl,h1,h2⟩ u hu
  rcases List.mem_append.1 hu with h|h
  ·exact r.one h1 u h
  ·exact s.one h2 u h
def Rd.as {α β:Type} (r:Rd α) (f:β→α):Rd β where
 n:=r.n
 at_ w F x vs:=r.at_ w F (f x) vs
 len h:=r.len h
 keep hk h:=r.keep hk h
 sub hs h:=r.sub hs h
 one h:=r.one h
section
variable {α:Type} {r:Rd α} {w w':World} {F G:Nat→Prop} {xs:List α} {x:α} {v:Value} {vs:List Value}
theorem Rd.row_below (h:r.row w F xs v){B:Nat}(hF:∀b,F b→b<B)(hb:Below B w w'):r.row w' F xs v:=
 Rd.row_keep (fun b hf _ ho=>(hb.block b (hF b hf)).trans ho) h
def Rd.cells (r:Rd α) (w:World) (F:Nat→Prop) (xs:List α) (us:List Value):Prop:=us.length=xs.length*r.n∧∀i x,xs[i]? = some x→∃vs,r.at_ w F x vs∧∀m u,vs[m]? = some u→us[i*r.n+m]? = some u
theorem Rd.cells_nil:r.cells w F [] []:=⟨by simp,fun i x hx=>by simp at hx⟩
theorem Rd.cells_snoc {us:List Value}(h:r.cells w F xs us)(hx:r.at_ w F x vs):r.cells w F (xs++[x]) (us++vs):=by
 obtain⟨h1,h2⟩:=h
 have hl:=r.len hx
 refine⟨by rw[List.length_append,h1,hl,List.length_append,List.length_singleton,Nat.add_mul,Nat.one_mul],fun i y hy=>?_⟩
 by_cases hi:i<xs.length
 ·rw[List.getElem?_append_left hi] at hy
  obtain⟨ws,p1,p2⟩:=h2 i y hy
  refine⟨ws,p1,fun m u hu=>?_⟩
  have:=p2 m u hu
  rw[List.getElem?_append_left (List.getElem?_eq_some_iff.1 this).1]
  exact this
 ·have hlt:=(List.getElem?_eq_some_iff.1 hy).1
  rw[List.length_append,List.length_singleton] at hlt
  obtain rfl:i=xs.length:=by omega
  rw[List.getElem?_append_right (Nat.le_refl _),Nat.sub_self] at hy
  simp only[List.getElem?_cons_zero,Option.some.injEq] at hy
  subst hy
  refine⟨vs,hx,fun m u hu=>?_⟩
  rw[←h1,List.getElem?_append_right (Nat.le_add_right _ _),Nat.add_sub_cancel_left]
  exact hu
theorem Rd.cells_keep {us:List Value}(hk:∀b,F b→∀o,w.heap[b]? = some o→w'.heap[b]? = some o)(h:r.cells w F xs us):r.cells w' F xs us:=
 ⟨h.1,fun i x hx=>by obtain⟨vs,p1,p2⟩:=h.2 i x hx;exact⟨vs,r.keep hk p1,p2⟩⟩
theorem Rd.cells_sub {us:List Value}(hs:∀b,F b→G b)(h:r.cells w F xs us):r.cells w G xs us:=
 ⟨h.1,fun i x hx=>by obtain⟨vs,p1,p2⟩:=h.2 i x hx;exact⟨vs,r.sub hs p1,p2⟩⟩
theorem Rd.row_own {us:List Value}{base:Nat}{e:TypeId}(hown:w.ownsRow base e r.n v xs.length us)(hc:r.cells w F xs us)(hF:∀g,v.ownBlock=some g→F g):r.row w F xs v:=by
 obtain⟨hl,⟨rfl,h0⟩|⟨g,cap,cur,rfl,hb,hg,h2,h3,h4,h5⟩⟩:=hown
 ·have:xs=[]:=List.eq_nil_of_length_eq_zero h0
  subst this
  exact Or.inl ⟨rfl,none,0,rfl⟩
 ·by_cases hx:xs=[]
  ·subst hx;exact Or.inl ⟨rfl,_,_,rfl⟩
  ·refine Or.inr ⟨g,0,cap,hx,hF g rfl,(Array.getElem?_eq_some_iff.1 hg).1,h2,h3,rfl,fun i x hi=>?_⟩
   obtain⟨vs,p1,p2⟩:=hc.2 i x hi
   refine⟨vs,p1,fun m u hu=>?_⟩
   have:=p2 m u hu
   rw[←h5,List.getElem?_take] at this
   split at this
   ·rw[cell_of_row _ _ _ _ _ _ hg,Nat.zero_add]
    simpa using this
   ·cases this
end
def valRd:Rd CVal:=(Rd.u8.pair (Rd.int.pair Rd.str)).as fun v=>(v.kind,v.num,v.text)
def Rd.none {α:Type}:Rd (List α) where
 n:=1
 at_ _ _ xs vs:=∃p c,vs=[.slice p 0 c]∧xs=[]
 len:=by rintro w F x vs ⟨p,c,rfl,_⟩;rfl
 keep:=by rintro w w' F x vs _ h;exact h
 sub:=by rintro w F G x vs _ h;exact h
 one:=by
  rintro w F x vs ⟨p,c,rfl,_⟩ u hu
  obtain rfl:=List.mem_singleton.1 hu;rfl
def exprOf (r:Rd (List CExpr)):Rd CExpr:=(Rd.u8.pair (valRd.pair (Rd.int.pair (Rd.u8.pair r)))).as fun e=>(e.kind,e.val,e.var,e.op,e.kids)
def exprRd:Nat→Rd CExpr
 | 0=>exprOf Rd.none
 | d+1=>exprOf (exprRd d).list
def argRd:Rd CArg:=(Rd.u8.pair (Rd.int.pair valRd)).as fun a=>(a.kind,a.var,a.val)
def condRd (d:Nat):Rd CCond:=(Rd.u8.pair (Rd.int.pair (argRd.list.pair (exprRd d)))).as fun c=>(c.kind,c.type,c.args,c.test)
def actRd (d:Nat):Rd CAct:=(Rd.u8.pair (Rd.int.pair (Rd.int.pair (exprRd d).list))).as fun a=>(a.kind,a.type,a.which,a.exprs)
def typeRd:Rd CType:=(Rd.str.pair Rd.int).as fun t=>(t.name,t.fields)
def ruleRd (d:Nat):Rd CRule:=(Rd.str.pair (Rd.int.pair (Rd.int.pair ((condRd d).list.pair (actRd d).list)))).as fun r=>(r.name,r.sal,r.vars,r.conds,r.acts)
def rulesRd (d:Nat):Rd CRules:=(typeRd.list.pair (ruleRd d).list).as fun r=>(r.types,r.rules)
theorem exprRd_n (d:Nat):(exprRd d).n=7:=by cases d<;>rfl
section
variable {w:World} {F:Nat→Prop} {d:Nat} {vs:List Value}
def U8 (x:Int):Prop:=0≤x∧x<256
def I64 (x:Int):Prop:=-9223372036854775808≤x∧x<9223372036854775808
def ValFits (v:CVal):Prop:=U8 v.kind∧I64 v.num∧v.text.size≤maxLen
def valC (v:CVal):List Value:=[.int .u8 v.kind,.int .i64 v.num,.string v.text]
theorem val_at {v:CVal}:valRd.at_ w F v vs↔vs=valC v∧ValFits v:=by
 constructor
 ·rintro ⟨u1,u2,rfl,⟨rfl,h1⟩,⟨v1,v2,rfl,⟨rfl,h2⟩,rfl,h3⟩⟩
  exact⟨rfl,h1,h2,h3⟩
 ·rintro ⟨rfl,h1,h2,h3⟩
  exact⟨[_],[_,_],rfl,⟨rfl,h1⟩,⟨[_],[_],rfl,⟨rfl,h2⟩,rfl,h3⟩⟩
def ekidsAt (w:World) (F:Nat→Prop):Nat→List CExpr→Value→Prop
 | 0,ks,s=>ks=[]∧∃p c,s=.slice p 0 c
 | d+1,ks,s=>(exprRd d).row w F ks s
def ExprFits (e:CExpr):Prop:=U8 e.kind∧ValFits e.val∧I64 e.var∧U8 e.op
def exprC (e:CExpr) (s:Value):List Value:=[.int .u8 e.kind,.int .u8 e.val.kind,.int .i64 e.val.num,.string e.val.text,.int .i64 e.var,.int .u8 e.op,s]
theorem expr_at {e:CExpr}:(exprRd d).at_ w F e vs↔ExprFits e∧∃s,vs=exprC e s∧ekidsAt w F d e.kids s:=by
 cases d with
 | zero =>
  constructor
  ·rintro ⟨u1,u2,rfl,⟨rfl,h1⟩,v1,v2,rfl,hv,x1,x2,rfl,⟨rfl,h3⟩,y1,y2,rfl,⟨rfl,h4⟩,p,c,rfl,h5⟩
   obtain⟨rfl,hw⟩:=val_at.1 hv
   exact⟨⟨h1,hw,h3,h4⟩,_,rfl,h5,p,c,rfl⟩
  ·rintro ⟨⟨h1,hv,h3,h4⟩,s,rfl,h5,p,c,rfl⟩
   exact⟨[_],_,rfl,⟨rfl,h1⟩,valC e.val,_,rfl,val_at.2 ⟨rfl,hv⟩,[_],_,rfl,⟨rfl,h3⟩,[_],[_],rfl,⟨rfl,h4⟩,p,c,rfl,h5⟩
 | succ d =>
  constructor
  ·rintro ⟨u1,u2,rfl,⟨rfl,h1⟩,v1,v2,rfl,hv,x1,x2,rfl,⟨rfl,h3⟩,y1,y2,rfl,⟨rfl,h4⟩,s,rfl,h5⟩
   obtain⟨rfl,hw⟩:=val_at.1 hv
   exact⟨⟨h1,hw,h3,h4⟩,_,rfl,h5⟩
  ·rintro ⟨⟨h1,hv,h3,h4⟩,s,rfl,h5⟩
   exact⟨[_],_,rfl,⟨rfl,h1⟩,valC e.val,_,rfl,val_at.2 ⟨rfl,hv⟩,[_],_,rfl,⟨rfl,h3⟩,[_],[_],rfl,⟨rfl,h4⟩,s,rfl,h5⟩
def ArgFits (a:CArg):Prop:=U8 a.kind∧I64 a.var∧ValFits a.val
def argC (a:CArg):List Value:=[.int .u8 a.kind,.int .i64 a.var,.int .u8 a.val.kind,.int .i64 a.val.num,.string a.val.text]
theorem arg_at {a:CArg}:argRd.at_ w F a vs↔vs=argC a∧ArgFits a:=by
 constructor
 ·rintro ⟨u1,u2,rfl,⟨rfl,h1⟩,v1,v2,rfl,⟨rfl,h2⟩,hv⟩
  obtain⟨rfl,hw⟩:=val_at.1 hv
  exact⟨rfl,h1,h2,hw⟩
 ·rintro ⟨rfl,h1,h2,hv⟩
  exact⟨[_],_,rfl,⟨rfl,h1⟩,[_],valC a.val,rfl,⟨rfl,h2⟩,val_at.2 ⟨rfl,hv⟩⟩
def condC (c:CCond) (sa s:Value):List Value:=[.int .u8 c.kind,.int .i64 c.type,sa]++exprC c.test s
theorem cond_at {c:CCond}:(condRd d).at_ w F c vs↔U8 c.kind∧I64 c.type∧ExprFits c.test∧∃sa s,vs=condC c sa s∧argRd.row w F c.args sa∧ekidsAt w F d c.test.kids s:=by
 constructor
 ·rintro ⟨u1,u2,rfl,⟨rfl,h1⟩,v1,v2,rfl,⟨rfl,h2⟩,x1,x2,rfl,⟨sa,rfl,h3⟩,h4⟩
  obtain⟨hf,s,rfl,hk⟩:=expr_at.1 h4
  exact⟨h1,h2,hf,sa,s,rfl,h3,hk⟩
 ·rintro ⟨h1,h2,hf,sa,s,rfl,h3,hk⟩
  exact⟨[_],_,rfl,⟨rfl,h1⟩,[_],_,rfl,⟨rfl,h2⟩,[_],exprC c.test s,rfl,⟨sa,rfl,h3⟩,expr_at.2 ⟨hf,s,rfl,hk⟩⟩
def actC (a:CAct) (s:Value):List Value:=[.int .u8 a.kind,.int .i64 a.type,.int .i64 a.which,s]
theorem act_at {a:CAct}:(actRd d).at_ w F a vs↔U8 a.kind∧I64 a.type∧I64 a.which∧∃s,vs=actC a s∧(exprRd d).row w F a.exprs s:=by
 constructor
 ·rintro ⟨u1,u2,rfl,⟨rfl,h1⟩,v1,v2,rfl,⟨rfl,h2⟩,x1,x2,rfl,⟨rfl,h3⟩,s,rfl,h4⟩
  exact⟨h1,h2,h3,s,rfl,h4⟩
 ·rintro ⟨h1,h2,h3,s,rfl,h4⟩
  exact⟨[_],_,rfl,⟨rfl,h1⟩,[_],_,rfl,⟨rfl,h2⟩,[_],[_],rfl,⟨rfl,h3⟩,s,rfl,h4⟩
def typeC (t:CType):List Value:=[.string t.name,.int .i64 t.fields]
theorem type_at {t:CType}:typeRd.at_ w F t vs↔vs=typeC t∧t.name.size≤maxLen∧I64 t.fields:=by
 constructor
 ·rintro ⟨u1,u2,rfl,⟨rfl,h1⟩,rfl,h2⟩
  exact⟨rfl,h1,h2⟩
 ·rintro ⟨rfl,h1,h2⟩
  exact⟨[_],[_],rfl,⟨rfl,h1⟩,rfl,h2⟩
def ruleC (r:CRule) (sc sa:Value):List Value:=[.string r.name,.int .i64 r.sal,.int .i64 r.vars,sc,sa]
theorem rule_at {r:CRule}:(ruleRd d).at_ w F r vs↔r.name.size≤maxLen∧I64 r.sal∧I64 r.vars∧∃sc sa,vs=ruleC r sc sa∧(condRd d).row w F r.conds sc∧(actRd d).row w F r.acts sa:=by
 constructor
 ·rintro ⟨u1,u2,rfl,⟨rfl,h1⟩,v1,v2,rfl,⟨rfl,h2⟩,x1,x2,rfl,⟨rfl,h3⟩,y1,y2,rfl,⟨sc,rfl,h4⟩,sa,rfl,h5⟩
  exact⟨h1,h2,h3,sc,sa,rfl,h4,h5⟩
 ·rintro ⟨h1,h2,h3,sc,sa,rfl,h4,h5⟩
  exact⟨[_],_,rfl,⟨rfl,h1⟩,[_],_,rfl,⟨rfl,h2⟩,[_],_,rfl,⟨rfl,h3⟩,[_],[_],rfl,⟨sc,rfl,h4⟩,sa,rfl,h5⟩
theorem rules_at {r:CRules}:(rulesRd d).at_ w F r vs↔∃st sr,vs=[st,sr]∧typeRd.row w F r.types st∧(ruleRd d).row w F r.rules sr:=by
 constructor
 ·rintro ⟨u1,u2,rfl,⟨st,rfl,h1⟩,sr,rfl,h2⟩
  exact⟨st,sr,rfl,h1,h2⟩
 ·rintro ⟨st,sr,rfl,h1,h2⟩
  exact⟨[_],[_],rfl,⟨st,rfl,h1⟩,sr,rfl,h2⟩
end
def Flaw {σ:Type} (r:Except Flt σ):Prop:=∀er,r=.error er→er.1≠0
theorem flaw_ok {σ:Type}(s:σ):Flaw (.ok s:Except Flt σ):=fun er h=>by cases h
theorem flaw_err {σ:Type}(c p:Int)(hc:c≠0):Flaw (.error (c,p):Except Flt σ):=fun er h=>by cases h;exact hc
theorem flaw_of {σ τ:Type}{r:Except Flt σ}{e:Flt}(hr:Flaw r)(he:r=.error e):Flaw (.error e:Except Flt τ):=fun er h=>by cases h;exact hr _ he
theorem foldE_flaw {σ α:Type}{g:σ→α→Except Flt σ}(h:∀s x,Flaw (g s x)):∀(l:List α)(s:σ),Flaw (foldE g s l)
 | [],s=>flaw_ok s
 | x::l,s=>by
  unfold foldE
  split
  ·exact flaw_of (h s x) (by assumption)
  ·exact foldE_flaw h l _
theorem listE_flaw {α β:Type}{g:α→Except Flt β}(h:∀x,Flaw (g x))(l:List α):Flaw (listE g l):=
 foldE_flaw (fun ys x=>by
  split
  ·exact flaw_of (h x) (by assumption)
  ·exact flaw_ok _) l []
theorem mkExpr_flaw (vars:List ByteArray):∀(d:Nat)(T:Tree),Flaw (mkExpr vars d T)
 | 0,T=>by
  unfold mkExpr
  repeat' (first|exact flaw_ok _|exact flaw_err _ _ (by decide)|split)
 | d+1,T=>by
  unfold mkExpr
  repeat' (first|exact flaw_ok _|exact flaw_err _ _ (by decide)|exact flaw_of (listE_flaw (mkExpr_flaw vars d) _) (by assumption)|split)
theorem argStep_flaw (b:Bool)(s:List ByteArray×List CArg)(T:Tree):Flaw (argStep b s T):=by
 unfold argStep
 repeat' (first|exact flaw_ok _|exact flaw_err _ _ (by decide)|split)
theorem typed_flaw (ts:List CType)(T:Tree):Flaw (typedM ts T):=by
 unfold typedM
 repeat' (first|exact flaw_ok _|exact flaw_err _ _ (by decide)|split)
theorem partStep_flaw (d:Nat)(ts:List CType)(s:RSt)(T:Tree):Flaw (partStep d ts s T):=by
 unfold partStep
 repeat' (first|exact flaw_ok _|exact flaw_err _ _ (by decide)|exact flaw_of (typed_flaw _ _) (by assumption)|exact flaw_of (foldE_flaw (argStep_flaw _) _ _) (by assumption)|exact flaw_of (mkExpr_flaw _ _ _) (by assumption)|exact flaw_of (listE_flaw (mkExpr_flaw _ _) _) (by assumption)|split)
theorem ruleStep_flaw (d:Nat)(ts:List CType)(rs:List CRule)(T:Tree):Flaw (ruleStep d ts rs T):=by
 unfold ruleStep
 repeat' (first|exact flaw_ok _|exact flaw_err _ _ (by decide)|exact flaw_of (foldE_flaw (partStep_flaw _ _) _ _) (by assumption)|split)
theorem fieldStep_flaw (s:List ByteArray)(T:Tree):Flaw (fieldStep s T):=by
 unfold fieldStep
 repeat' (first|exact flaw_ok _|exact flaw_err _ _ (by decide)|split)
theorem typeStep_flaw (ts:List CType)(T:Tree):Flaw (typeStep ts T):=by
 unfold typeStep
 repeat' (first|exact flaw_ok _|exact flaw_err _ _ (by decide)|exact flaw_of (foldE_flaw fieldStep_flaw _ _) (by assumption)|split)
theorem makeM_flaw (d:Nat)(T:Tree):Flaw (makeM d T):=by
 unfold makeM
 repeat' (first|exact flaw_ok _|exact flaw_err _ _ (by decide)|exact flaw_of (foldE_flaw typeStep_flaw _ _) (by assumption)|exact flaw_of (foldE_flaw (ruleStep_flaw _ _) _ _) (by assumption)|split)
end Go.Proofs.YtglbjooofdnbkaaGreatDoor
