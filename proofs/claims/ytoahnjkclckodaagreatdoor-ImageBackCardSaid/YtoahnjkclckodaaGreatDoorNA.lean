/- Parts of one proof, joined; conditions stand in each theorem. -/
import Derived.Test.YtoahnjkclckodaaGreatDoorNB
open Bool renaming true→tT
open Except renaming ok→xn,error→zs
open Option renaming some→A,none→Y
open Or renaming inr→wF,inl→wD
open Go.Value renaming slice→O,int→I,string→r9
open Go.IntKind renaming u8→r8,i64→U
namespace Go.Proofs.YtoahnjkclckodaaGreatDoor
open Go.RowKit
def cN:Nat→ac→Prop
 | 0,T=>T.z=[]
 | d+1,T=>∀k∈T.z,cN d k
theorem cN.more:∀(d:Nat) (T:ac),cN d T→cN (d+1) T
 | 0,T,h=>fun k a=>by
  have h:T.z=[]:=h;rw[h]at a;cases a
 | d+1,T,h=>fun k a=>cN.more d k (h k a)
theorem xg:∀(d:Nat) (T:ac),cN d T→okF d T=tT→okF (d+1) T=tT
 | 0,T,h,a=>by
  have h:T.z=[]:=h
  show (bu T&&T.z.all (okF 0))=tT
  rw[h,show bu T=tT from a];rfl
 | d+1,T,h,a=>by
  have a:(bu T&&T.z.all (okF d))=true:=a;rw[J4,Kh]at a
  show (bu T&&T.z.all (okF (d+1)))=tT
  rw[J4,Kh];exact⟨a.1,fun k b=>xg d k (h k b) (a.2 k b)⟩
theorem jB{d:Nat}{T:ac}(h:okF d T=tT):bu T=true:=by
 cases d with
 | zero=>exact h
 | succ d=>exact (J4 _ _ ▸ (show (bu T&&T.z.all (okF d))=tT from h)).1
theorem jT{d:Nat}{T k:ac}(he:cN d T)(h:okF d T=tT)(a:k∈T.z):cN d k∧okF d k=true:=by
 cases d with
 | zero=>have he:T.z=[]:=he;rw[he]at a;cases a
 | succ d =>
  have h:(bu T&&T.z.all (okF d))=true:=h;rw[J4,Kh]at h;exact⟨cN.more d k (he k a),xg d k (he k a) (h.2 k a)⟩
theorem kP{σ α:Type}{f:σ→α→Except Flt σ}(a:σ→Prop)(b:α→Prop)(c:∀s x s',a s→b x→f s x=xn s'→a s'):∀(l:List α) (s s':σ),(∀x∈l,b x)→a s→aV f s l=xn s'→a s'
 | [],s,s',_,hi,h=>by injection h with h;subst h;exact hi
 | x::l,s,s',e,hi,h=>by
  unfold aV at h
  split at h
  ·cases h
  ·rename_i s1 g
   exact kP a b c l s1 s' (fun y i=>e y (List.mem_cons_of_mem _ i)) (c s x s1 hi (e x List.mem_cons_self) g) h
theorem AK(x:ByteArray):∀(l:List ByteArray) (m k:Nat),jt x l m=A k→m≤k∧k<m+l.length
 | [],m,k,h=>by cases h
 | y::l,m,k,h=>by
  unfold jt at h
  split at h
  ·injection h with h;subst h;simp
  ·have:=AK x l (m+1) k h;simp only[Kf];omega
theorem nO{x:ByteArray}{l:List ByteArray}{k:Nat}(h:idxOf x l=A k):k<l.length:=by have:=AK x l 0 k h;omega
theorem uY{α β:Type}{f:α→Except Flt β}{l:List α}{a:List β}(P:β→Prop)(c:α→Prop)(g:∀x y,c x→f x=xn y→P y)(i:∀x∈l,c x)(h:cF f l=xn a):(∀y∈a,P y):=by
 refine kP (fun a=>∀y∈a,P y) c (fun s x s' j k h=>?_) l [] a i (fun y e=>by cases e) h
 split at h
 ·cases h
 ·rename_i y e
  injection h with h
  subst h;intro z b;rcases List.mem_append.1 b with b|b
  ·exact j z b
  ·obtain rfl:=List.mem_singleton.1 b;exact g x z k e
theorem lv{α β:Type}{f:α→Except Flt β}:∀(l:List α) (a b:List β),aV (fun b x=>match f x with | .error e=>zs e | .ok y=>xn (b++[y])) a l=xn b→b.length=a.length+l.length
 | [],a,b,h=>by injection h with h;subst h;simp
 | x::l,a,b,h=>by
  unfold aV at h
  split at h
  ·cases h
  ·rename_i s1 c
   split at c
   ·cases c
   ·injection c with c
    subst c;have:=lv l _ b h;rw[J2,Ko]at this;rw[Kf];omega
theorem GI(t:List UInt8)(h:ev mP t=tT):1≤(opM t 1).1∧(opM t 1).1≤11∧((opM t 1).1==4||(opM t 1).1==11)=tT∧(opM t 1).2=false:=by
 unfold ev mP at h;simp only[List.any_cons,List.any_nil,Bool.or_false,Bool.or_eq_true,q7]at h;rcases h with h|h<;>subst h<;>decide
theorem G8(t:List UInt8)(h:ev mW t=tT):1≤(opM t 2).1∧(opM t 2).1≤11∧((opM t 2).1==4||(opM t 2).1==11)=false:=by
 unfold ev mW at h;simp only[List.any_cons,List.any_nil,Bool.or_false,Bool.or_eq_true,q7]at h;rcases h with h|h|h|h|h|h|h|h|h|h|h<;>subst h<;>decide
theorem gY{T:ac}(h:bu T=tT):nl T.q T.h.data.toList T.z.length=tT∧gw T.q T.z=tT∧wQ T.q T.u=true:=by
 unfold bu at h;simp only[J4]at h;exact⟨h.1.1.1.2,h.2,h.1.1.2⟩
theorem AE{t:List UInt8}{n:Nat}(h:nl 16 t n=tT):(n=1∧ev mP t=tT)∨(n=2∧ev mW t=tT):=by
 have h:((n==1&&ev mP t)||(n==2&&ev mW t))=true:=h
 simpa using h
theorem DD{k n:Nat}{t:List UInt8}(h:nl k t n=tT)(a:k=13∨k=15):cL t=true:=by rcases a with rfl|rfl<;>exact h
def AQ(T:ac):Prop:=T.q=13∨T.q=14∨T.q=15∨T.q=16
theorem nP{l:List ac}(h:ej l=tT):∀T∈l,AQ T:=by
 unfold ej cE at h;simp only[J4,Kh]at h;intro T a;have:=h.2 T a;unfold AQ
 simpa using this
theorem lS{T:ac}(h:bu T=tT)(a:T.q=14∨T.q=15):dV (br T)=true:=by
 obtain⟨b,_,_⟩:=gY h;unfold br;rcases a with a|a
 ·rw[a];rfl
 ·rw[a]at b ⊢;have:=DD b (wF Z)
  show ((0:Int)==0&&cL T.h.data.toList)=tT
  rw[this];rfl
theorem ky{vars:List ByteArray}{d:Nat}{T:ac}(a:T.q=14∨T.q=15):aJ vars d T=xn (.mk 1 (br T) 0 0 []):=by
 have b:(T.q==14||T.q==15)=true:=by rcases a with h|h<;>rw[h]<;>rfl
 cases d<;>(unfold aJ;simp only[b,oX])
theorem sE{vars:List ByteArray}{d:Nat}{T:ac}(a:T.q=13):aJ vars d T=match idxOf T.h vars with|some k=>xn (.mk 2 .zero k 0 [])|none=>zs (213,T.C):=by cases d<;>(unfold aJ;simp only[a,Nat.reduceBEq,Bool.or_self,Ka,oF,q6,oX];first|done|(cases idxOf T.h vars<;>rfl))
theorem En{vars:List ByteArray}{d:Nat}{T:ac}(a:T.q=16):aJ vars (d+1) T=match cF (aJ vars d) T.z with
   | .error e=>zs e
   | .ok ks=>xn (.mk 3 .zero 0 (opM T.h.data.toList T.z.length).1 (if (opM T.h.data.toList T.z.length).2 then ks.reverse else ks)):=by
 rw[aJ];simp only[a,Nat.reduceBEq,Bool.or_self,Ka,oF];cases cF (aJ vars d) T.z<;>rfl
theorem qj{v c:Int}(f:v≤c){e:ak}(h:ey v e=tT):ey c e=true:=by
 unfold ey at *
 split
 ·rename_i a;rw[oj a]at h;exact h
 ·rename_i a
  rw[oe a]at h
  split
  ·rename_i b
   rw[oj b]at h;simp only[J4,oB]at h ⊢;exact⟨h.1,by omega⟩
  ·rename_i b
   rw[oe b]at h;exact h
theorem rh{v a:Int}(b:v≤a):∀(d:Nat) (e:ak),fK v d e=tT→fK a d e=tT
 | 0,e,h=>qj b h
 | d+1,e,h=>by
  have h:(ey v e&&e.z.all (fK v d))=true:=h;rw[J4,Kh]at h
  show (ey a e&&e.z.all (fK a d))=tT
  rw[J4,Kh];exact⟨qj b h.1,fun k c=>rh b d k (h.2 k c)⟩
theorem vc{vars:List ByteArray}:∀(d:Nat) (T:ac) (e:ak),cN d T→okF d T=tT→AQ T→aJ vars d T=xn e→fK vars.length d e=true:=by
 intro d
 induction d with
 | zero =>
  intro T e he c a h;have g:bu T=true:=c;have he:T.z=[]:=he
  show ey vars.length e=tT
  rcases a with a|a|a|a
  ·rw[sE a]at h
   split at h
   ·rename_i k hi
    injection h with h;subst h
    have:=nO hi;unfold ey;simp[ak.q,ak.h,ak.op,ak.z,ak.u,zeroV,aE.zero,this]
   ·cases h
  ·rw[ky (wD a)]at h;injection h with h;subst h
   have:=lS g (wD a);unfold ey;simp[ak.q,ak.h,ak.op,ak.z,ak.u,this]
  ·rw[ky (wF a)]at h;injection h with h;subst h
   have:=lS g (wF a);unfold ey;simp[ak.q,ak.h,ak.op,ak.z,ak.u,this]
  ·obtain⟨i,_,_⟩:=gY g;rw[a,he]at i;rcases AE i with ⟨j,_⟩|⟨j,_⟩<;>cases j
 | succ d v =>
  intro T e he c a h;have g:=jB c
  show (ey vars.length e&&e.z.all (fK vars.length d))=tT
  rcases a with a|a|a|a
  ·rw[sE a]at h
   split at h
   ·rename_i k hi
    injection h with h;subst h
    have:=nO hi;unfold ey;simp[ak.q,ak.h,ak.op,ak.z,ak.u,zeroV,aE.zero,this]
   ·cases h
  ·rw[ky (wD a)]at h;injection h with h;subst h
   have:=lS g (wD a);unfold ey;simp[ak.q,ak.h,ak.op,ak.z,ak.u,this]
  ·rw[ky (wF a)]at h;injection h with h;subst h
   have:=lS g (wF a);unfold ey;simp[ak.q,ak.h,ak.op,ak.z,ak.u,this]
  ·rw[En a]at h
   split at h
   ·cases h
   ·rename_i ks l
    injection h with h;subst h
    obtain⟨i,j,_⟩:=gY g;rw[a]at i j;have f:(bu T&&T.z.all (okF d))=true:=c;rw[J4,Kh]at f;have m:=uY (fun e=>fK vars.length d e=tT) (fun t=>t∈T.z) (fun x y n z=>v x y (he x n) (f.2 x n) (nP (show ej T.z=tT from j) x n) z) (fun x n=>n) l;have hlen:ks.length=T.z.length:=by have:=lv T.z [] ks l;simpa using this
    rw[J4,Kh];refine⟨?_,fun k b=>m k ?_⟩
    ·unfold ey;rcases AE i with ⟨o,p⟩|⟨o,p⟩
     ·obtain⟨q,r,s,B⟩:=GI _ p;rw[o,B];rw[o]at hlen;simp[ak.q,ak.h,ak.op,ak.z,ak.u,zeroV,aE.zero,q,r,s,hlen]
     ·obtain⟨q,r,s⟩:=G8 _ p;rw[o];rw[o]at hlen;have u:(if (opM T.h.data.toList 2).2=tT then ks.reverse else ks).length=2:=by split<;>simp[hlen]
      generalize (if (opM T.h.data.toList 2).2=tT then ks.reverse else ks)=C at *;simp[ak.q,ak.h,ak.op,ak.z,ak.u,zeroV,aE.zero,q,r,s,u]
    ·have b:k∈(if (opM T.h.data.toList T.z.length).2=tT then ks.reverse else ks):=b
     split at b
     ·simpa using b
     ·exact b
def BP(binds:Bool) (v0:Int) (s:List ByteArray×List fe):Prop:=l5 binds v0 s.2=A (s.1.length:Int)∧s.1.length≤16∧v0≤(s.1.length:Int)
theorem je(binds:Bool):∀(l:List fe) (v c:Int) (a:fe),l5 binds v l=A c→l5 binds v (l++[a])=kr binds c a
 | [],v,c,a,h=>by
  injection h with h;subst h
  show (match kr binds v a with|none=>Y|some c=>A c)=_
  cases kr binds v a<;>rfl
 | b::l,v,c,a,h=>by
  have h:(match kr binds v b with|none=>Y|some c=>l5 binds c l)=A c:=h
  show (match kr binds v b with|none=>Y|some c=>l5 binds c (l++[a]))=_
  cases e:kr binds v b with
  | none=>rw[e]at h;cases h
  | some v1 =>
   rw[e]at h;exact je binds l v1 c a h
theorem BI{binds:Bool}{v0:Int}{s s':List ByteArray×List fe}{T:ac}(hi:BP binds v0 s)(j:bu T=tT)(m:T.q=12∨T.q=13∨T.q=14∨T.q=15)(h:cg binds s T=xn s'):BP binds v0 s':=by
 obtain⟨a,b,c⟩:=hi;unfold cg at h
 split at h
 ·injection h with h;subst h
  refine⟨?_,b,c⟩;rw[je binds _ _ _ _ a];rfl
 ·split at h
  ·split at h
   ·rename_i k l
    injection h with h;subst h
    have:=nO l;refine⟨?_,b,c⟩;rw[je binds _ _ _ _ a];unfold kr;simp[zeroV,aE.zero,this]
   ·split at h
    ·cases h
    ·split at h
     ·cases h
     ·injection h with h;subst h
      rename_i e hm
      have e:binds=true:=by simpa using e
      refine⟨?_,?_,?_⟩
      ·rw[je binds _ _ _ _ a];unfold kr;simp[zeroV,aE.zero,e]
      ·simp;omega
      ·simp;omega
  ·injection h with h;subst h
   rename_i f g
   have i:T.q=14∨T.q=15:=by
    simp at f g;omega
   refine⟨?_,b,c⟩;rw[je binds _ _ _ _ a];have:=lS j i;unfold kr;simp[this]
theorem Be{x:ByteArray}{l:List am}{k:Nat}(h:dE x l=A k):k<l.length:=by
 have:=nO h
 simpa using this
theorem sY{types:List am}{T:ac}{k:Nat}(h:cM types T=xn k):oC types k T.z.length=true:=by
 unfold cM at h
 split at h
 ·cases h
 ·rename_i j a
  split at h
  ·rename_i b
   injection h with h;subst h
   have:=Be a;unfold oC;simp only[Int.toNat_natCast];rw[b];simp[this]
  ·cases h
theorem CH{d:Nat}{types:List am}{s s':Int×Int}(i:s.1≤s'.1)(j:s.2≤s'.2){a:dr}(h:kt d types s a=tT):kt d types s' a=true:=by
 have f:∀l:List ak,l.all (fK s.1 d)=tT→l.all (fK s'.1 d)=true:=fun l g=>by
  rw[Kh]at g ⊢;exact fun e he=>rh i d e (g e he)
 unfold kt at *
 split
 ·rename_i b
  rw[oj b]at h;simp only[J4]at h ⊢;exact⟨h.1,f _ h.2⟩
 ·rename_i b
  rw[oe b]at h
  split
  ·rename_i c2
   rw[oj c2]at h;simp only[J4,oB]at h ⊢;exact⟨h.1,by omega⟩
  ·rename_i c2
   rw[oe c2]at h
   split
   ·rename_i c
    rw[oj c]at h;simp only[J4]at h ⊢;exact⟨h.1,f _ h.2⟩
   ·rename_i c
    rw[oe c]at h;exact h
theorem lJ(d:Nat)(types:List am):∀(l:List bj) (s s':Int×Int) (c:bj),iY d types s l=A s'→iY d types s (l++[c])=iJ d types s' c
 | [],s,s',c,h=>by
  injection h with h;subst h
  show (match iJ d types s c with|none=>Y|some a=>A a)=_
  cases iJ d types s c<;>rfl
 | b::l,s,s',c,h=>by
  have h:(match iJ d types s b with|none=>Y|some a=>iY d types a l)=A s':=h
  show (match iJ d types s b with|none=>Y|some a=>iY d types a (l++[c]))=_
  cases e:iJ d types s b with
  | none=>rw[e]at h;cases h
  | some v1 =>
   rw[e]at h;exact lJ d types l v1 s' c h
def qJ(d:Nat) (types:List am) (s:RSt):Prop:=iY d types (0,0) s.a=A ((s.b.length:Int),(aK s.a:Int))∧s.b.length≤16∧∀a∈s.d,kt d types ((s.b.length:Int),(aK s.a:Int)) a=tT
theorem mX(l:List bj)(c:bj):aK (l++[c])=aK l+(if c.q==1 then 1 else 0):=by
 unfold aK;rw[List.filter_append,J2]
 by_cases h:(c.q==1)=tT
 ·rw[oj h];simp[List.filter,h]
 ·rw[oe h];simp only[Bool.not_eq_true]at h;simp[List.filter,h]
theorem IC{binds:Bool}{s s':List ByteArray×List fe}{T:ac}(h:cg binds s T=xn s'):s'.2.length=s.2.length+1:=by
 unfold cg at h
 split at h
 ·injection h with h;subst h;simp
 ·split at h
  ·split at h
   ·injection h with h;subst h;simp
   ·split at h
    ·cases h
    ·split at h
     ·cases h
     ·injection h with h;subst h;simp
  ·injection h with h;subst h;simp
theorem xd{binds:Bool}:∀(l:List ac) (s s':List ByteArray×List fe),aV (cg binds) s l=xn s'→s'.2.length=s.2.length+l.length
 | [],s,s',h=>by injection h with h;subst h;simp
 | T::l,s,s',h=>by
  unfold aV at h
  split at h
  ·cases h
  ·rename_i s1 a
   have:=xd l s1 s' h;have:=IC a;rw[Kf];omega
theorem IP{d:Nat}{binds:Bool}{T:ac}{vs:List ByteArray}{r:List ByteArray×List fe}(he:cN d T)(b:okF d T=tT)(hm:cE [12,13,14,15] T.z=tT)(c:vs.length≤16)(h:aV (cg binds) (vs,[]) T.z=xn r):BP binds vs.length r:=by
 refine kP (BP binds vs.length) (fun t=>bu t=tT∧(t.q=12∨t.q=13∨t.q=14∨t.q=15)) (fun s x s' e a f=>BI e a.1 a.2 f) T.z (vs,[]) r (fun x a=>⟨jB (jT he b a).2,?_⟩) ⟨Z,c,Int.le_refl _⟩ h;unfold cE at hm;rw[Kh]at hm;have:=hm x a
 simpa using this
theorem xz{d:Nat}{T:ac}{vs:List ByteArray}{xs:List ak}(he:cN d T)(a:okF d T=tT)(hm:ej T.z=tT)(h:cF (aJ vs d) T.z=xn xs):xs.all (fK vs.length d)=true:=by
 rw[Kh];exact uY (fun e=>fK vs.length d e=tT) (fun t=>t∈T.z) (fun x y b c=>vc d x y (jT he a b).1 (jT he a b).2 (nP hm x b) c) (fun x b=>b) h
theorem zx{d:Nat}{types:List am}{s s':RSt}{T:ac}(hi:qJ d types s)(he:cN d T)(f:okF d T=tT)(W:5≤T.q∧T.q≤11)(h:cK d types s T=xn s'):qJ d types s'∧s'.a.length=s.a.length+(if a9 T then 1 else 0)∧s'.d.length=s.d.length+(if a9 T then 0 else 1):=by
 obtain⟨H,K,L⟩:=hi;obtain⟨_,c,P⟩:=gY (jB f);have o:T.q=5∨T.q=6∨T.q=7∨T.q=8∨T.q=9∨T.q=10∨T.q=11:=by omega
 unfold cK at h;have fact:∀(q:Nat),T.q=q→(q=5∨q=6)→qJ d types s'∧s'.a.length=s.a.length+1∧s'.d.length=s.d.length:=by
  intro q e i;rw[oj (by rw[e];rcases i with rfl|rfl<;>rfl)]at h
  split at h
  ·cases h
  ·rename_i k p
   split at h
   ·cases h
   ·rename_i r Q
    injection h with h;subst h
    have hm:cE [12,13,14,15] T.z=true:=by rw[e]at c;rcases i with rfl|rfl<;>exact c
    obtain⟨a1,a2,a3⟩:=IP he f hm K Q;have hlen:=xd T.z _ r Q;simp only[List.length_nil,Nat.zero_add]at hlen;have v:=sY p;rw[←hlen]at v;have y:((if T.q==6 then (2:Int) else 1)==1)=(T.q==5):=by rw[e];rcases i with rfl|rfl<;>rfl
    have u:iJ d types ((s.b.length:Int),(aK s.a:Int)) ⟨if T.q==6 then 2 else 1,k,r.2,.zero⟩=A ((r.1.length:Int),if (T.q==5)=tT then (aK s.a:Int)+1 else aK s.a):=by
     unfold iJ;have R:zeroE ak.zero=true:=by decide
     have S:((if T.q==6 then (2:Int) else 1)==1||(if T.q==6 then (2:Int) else 1)==2)=true:=by rw[e];rcases i with rfl|rfl<;>rfl
     dsimp only;rw[oj S];simp only[oX,v,R,Bool.and_self,y,a1]
    refine⟨⟨?_,a2,fun a z=>CH ?_ ?_ (L a z)⟩,by simp,Z⟩
    ·show iY d types (0,0) (s.a++[_])=_
     rw[lJ d types _ _ _ _ H,u,mX];simp only[y];rcases i with rfl|rfl<;>rw[e]<;>rfl
    ·exact a3
    ·show (aK s.a:Int)≤aK (s.a++[_])
     rw[mX];omega
 have act:∀a:dr,s'=⟨s.b,s.a,s.d++[a]⟩→kt d types ((s.b.length:Int),(aK s.a:Int)) a=tT→qJ d types s'∧s'.a.length=s.a.length∧s'.d.length=s.d.length+1:=by
  rintro a rfl z;refine⟨⟨H,K,fun b B=>?_⟩,Z,by simp⟩;rcases List.mem_append.1 B with B|B
  ·exact L b B
  ·obtain rfl:=List.mem_singleton.1 B;exact z
 rcases o with e|e|e|e|e|e|e
 ·have:=fact 5 e (wD Z);have g:a9 T=true:=by unfold a9;rw[e];rfl
  rw[g];simpa using this
 ·have:=fact 6 e (wF Z);have g:a9 T=true:=by unfold a9;rw[e];rfl
  rw[g];simpa using this
 ·have g:a9 T=true:=by unfold a9;rw[e];rfl
  rw[g];clear fact act;simp only[e,Nat.reduceBEq,Bool.or_self,Ka,oF,oX]at h;rw[e]at c;have C:(T.z.length==1&&ej T.z)=true:=c;simp only[J4,q7]at C;obtain⟨D,hex⟩:=C
  split at h
  ·rename_i E;rw[E]at D;cases D
  ·rename_i t l E
   split at h
   ·cases h
   ·rename_i x V
    injection h with h;subst h
    have j:t∈T.z:=by rw[E];exact List.mem_cons_self
    have M:=vc d t x (jT he f j).1 (jT he f j).2 (nP hex t j) V;have u:iJ d types ((s.b.length:Int),(aK s.a:Int)) ⟨3,0,[],x⟩=A ((s.b.length:Int),(aK s.a:Int)):=by
     unfold iJ;simp[M]
    have G:aK (s.a++[⟨3,0,[],x⟩])=aK s.a:=by rw[mX];rfl
    refine⟨⟨?_,K,fun a z=>by show kt d types ((s.b.length:Int),(aK (s.a++[⟨3,0,[],x⟩]):Int)) a=tT;rw[G];exact L a z⟩,by simp,Z⟩
    ·show iY d types (0,0) (s.a++[_])=_
     rw[lJ d types _ _ _ _ H,u]
     show _=A (_,((aK (s.a++[⟨3,0,[],x⟩]):Nat):Int))
     rw[G]
 ·have g:a9 T=false:=by unfold a9;rw[e];rfl
  rw[g];simp only[e,Nat.reduceBEq,Bool.or_self,Ka,oF,oX]at h;rw[e]at c;have hex:ej T.z=true:=c
  split at h
  ·cases h
  ·rename_i k p
   split at h
   ·cases h
   ·rename_i xs m
    injection h with h
    have v:=sY p;have hlen:xs.length=T.z.length:=by have:=lv T.z [] xs m;simpa using this
    rw[←hlen]at v;have n:=xz he f hex m;have:=act ⟨1,k,0,xs⟩ h.symm (by unfold kt;simp only[v,n];rfl)
    simpa using this
 ·have g:a9 T=false:=by unfold a9;rw[e];rfl
  rw[g];simp only[e,Nat.reduceBEq,Bool.or_self,Ka,oF,oX]at h
  split at h
  ·cases h
  ·rename_i E
   injection h with h
   have:=act ⟨2,0,T.u-1,[]⟩ h.symm (by
    unfold kt;simp at E ⊢
    omega)
   simpa using this
 ·have g:a9 T=false:=by unfold a9;rw[e];rfl
  rw[g];simp only[e,Nat.reduceBEq,Bool.or_self,Ka,oF,oX]at h;rw[e]at c;have hex:(decide (0<T.z.length)&&ej T.z)=true:=c;simp only[J4,oB]at hex
  split at h
  ·cases h
  ·rename_i xs m
   injection h with h
   have hlen:xs.length=T.z.length:=by have:=lv T.z [] xs m;simpa using this
   have n:=xz he f hex.2 m;have N:xs.isEmpty=false:=by
    cases xs with
    | nil=>simp at hlen;omega
    | cons _ _=>rfl
   have:=act ⟨3,0,0,xs⟩ h.symm (by unfold kt;simp only[n,N];rfl)
   simpa using this
 ·have g:a9 T=false:=by unfold a9;rw[e];rfl
  rw[g];simp only[e,Nat.reduceBEq,Bool.or_self,Ka,oF]at h;injection h with h
  have:=act ⟨4,0,0,[]⟩ h.symm (by rfl)
  simpa using this
theorem rp:∀l:List ac,cE [8,9,10,11] (l.dropWhile a9)=tT→(l.filter a9).length=fO l∧(∀T∈l,5≤T.q∧T.q≤11)
 | [],_=>⟨Z,fun T e=>by cases e⟩
 | T::l,h=>by
  unfold fO
  cases b:a9 T with
  | true =>
   rw[List.dropWhile_cons,b,oj Z]at h;obtain⟨f,g⟩:=rp l h;rw[List.filter_cons,b,oj Z,List.takeWhile_cons,b,oj Z,Kf,Kf,f];refine⟨Z,fun x a=>?_⟩;rcases Kk.1 a with rfl|a
   ·unfold a9 at b;simp at b;omega
   ·exact g x a
  | false =>
   rw[List.dropWhile_cons,b]at h;have h:cE [8,9,10,11] (T::l)=true:=h;unfold cE at h;rw[Kh]at h;have c:∀x∈T::l,8≤x.q∧x.q≤11:=fun x a=>by
    have:=h x a;simp at this;omega
   rw[List.takeWhile_cons,b];refine⟨?_,fun x a=>by have:=c x a;omega⟩;have:(T::l).filter a9=[]:=by
    rw[List.filter_eq_nil_iff];intro x a;have:=c x a;unfold a9;simp;omega
   rw[this];rfl
theorem yI{d:Nat}{types:List am}:∀(l:List ac) (s s':RSt),(∀T∈l,cN d T∧okF d T=tT∧5≤T.q∧T.q≤11)→qJ d types s→aV (cK d types) s l=xn s'→qJ d types s'∧s'.a.length=s.a.length+(l.filter a9).length∧s'.d.length+(l.filter a9).length=s.d.length+l.length
 | [],s,s',_,hi,h=>by injection h with h;subst h;exact⟨hi,by simp,by simp⟩
 | T::l,s,s',b,hi,h=>by
  unfold aV at h
  split at h
  ·cases h
  ·rename_i s1 f
   obtain⟨a1,a2,a3⟩:=b T List.mem_cons_self;obtain⟨g,c,e⟩:=zx hi a1 a2 a3 f;obtain⟨i,c2,k⟩:=yI l s1 s' (fun x j=>b x (List.mem_cons_of_mem _ j)) g h;refine⟨i,?_,?_⟩
   ·rw[List.filter_cons]
    cases a:a9 T<;>simp[a]at c e ⊢<;>omega
   ·rw[List.filter_cons]
    cases a:a9 T<;>simp[a]at c e ⊢<;>omega
theorem mE:∀(l seen:List ByteArray) (x:ByteArray),apartB seen (l++[x])=(apartB seen l&&!(idxOf x (seen++l)).isSome)
 | [],seen,x=>by
  show (!(idxOf x seen).isSome&&tT)=(tT&&!(idxOf x (seen++[])).isSome)
  simp
 | y::l,seen,x=>by
  show (!(idxOf y seen).isSome&&apartB (seen++[y]) (l++[x]))=(!(idxOf y seen).isSome&&apartB (seen++[y]) l&&!(idxOf x (seen++y::l)).isSome)
  rw[mE l (seen++[y]) x,Bool.and_assoc];simp
theorem tw{k n:Nat}{t:List UInt8}(h:nl k t n=tT)(a:k=2∨k=4):cL t=true:=by
 rcases a with rfl|rfl
 ·have h:(cL t&&!jK t)=true:=h;rw[J4]at h;exact h.1
 ·have h:(cL t&&!jK t)=true:=h;rw[J4]at h;exact h.1
theorem GW{ts a:List am}{T:ac}(f:bu T=tT)(hi:ts.length≤32∧ts.all qu=tT∧apartB [] (ts.map am.c)=tT)(h:gn ts T=xn a):a.length≤32∧a.all qu=tT∧apartB [] (a.map am.c)=true:=by
 unfold gn at h
 split at h
 ·rename_i g
  split at h
  ·cases h
  ·rename_i b
   split at h
   ·cases h
   ·rename_i hm
    split at h
    ·cases h
    ·injection h with h;subst h
     simp only[Bool.or_eq_true,oB,not_or,Nat.not_le,Nat.not_lt]at hm;obtain⟨i1,i2,i3⟩:=hi;have c:T.q=2:=by simpa using g
     have e:=tw (gY f).1 (wD c);refine⟨by simp;omega,?_,?_⟩
     ·rw[List.all_append,i2];simp[qu,e];omega
     ·rw[List.map_append,List.map_singleton,mE,i3];have b:(idxOf T.h (ts.map am.c)).isSome=false:=by
       unfold dE at b
       simpa using b
      simp[b]
 ·injection h with h;subst h;exact hi
theorem If{d:Nat}{types:List am}{rs b:List aD}{T:ac}(he:cN d T)(c:okF d T=tT)(hi:rs.length≤64∧rs.all (lP d types)=tT∧apartB [] (rs.map aD.c)=tT)(h:gi d types rs T=xn b):b.length≤64∧b.all (lP d types)=tT∧apartB [] (b.map aD.c)=true:=by
 unfold gi at h
 split at h
 ·rename_i m
  have e:T.q=4:=by simpa using m
  split at h
  ·cases h
  ·rename_i g
   split at h
   ·cases h
   ·rename_i n
    split at h
    ·cases h
    ·rename_i hm
     split at h
     ·cases h
     ·rename_i s i
      injection h with h;subst h
      simp only[Bool.or_eq_true,oB,not_or,Nat.not_le,Nat.not_lt,Int.not_lt]at hm n;obtain⟨i1,i2,i3⟩:=hi;obtain⟨j,f,_⟩:=gY (jB c);rw[e]at f;obtain⟨z,o⟩:=rp T.z f;obtain⟨p,q,r⟩:=yI T.z ⟨[],[],[]⟩ s (fun x k=>⟨(jT he c k).1,(jT he c k).2,o x k⟩) ⟨Z,J0 _,fun a t=>by cases t⟩ i;have l:=tw j (wF e);simp only[List.length_nil,Nat.zero_add]at q r;refine⟨by simp;omega,?_,?_⟩
      ·rw[List.all_append,i2];obtain⟨u,r2,v⟩:=p;have y:lP d types ⟨T.h,T.u,s.b.length,s.a,s.d⟩=true:=by
        unfold lP;simp only[u,l,Bool.true_and,J4,oB,Kh,q6]
        and_intros<;>first|trivial|omega|exact v
       simp[y]
      ·rw[List.map_append,List.map_singleton,mE,i3];have g:(idxOf T.h (rs.map aD.c)).isSome=false:=by simpa using g
       simp[g]
 ·injection h with h;subst h;exact hi
theorem CC{d:Nat}{T:ac}{R:dc}(he:cN d T)(b:okF d T=tT)(h:lz d T=xn R):nD d R=true:=by
 unfold lz at h
 split at h
 ·cases h
 ·rename_i ts c
  split at h
  ·cases h
  ·rename_i rs e
   injection h with h;subst h
   obtain⟨t1,t2,t3⟩:=kP (fun ts=>ts.length≤32∧ts.all qu=tT∧apartB [] (ts.map am.c)=tT) (fun x=>bu x=tT) (fun s x s' hi a h=>GW a hi h) T.z [] ts (fun x a=>jB (jT he b a).2) ⟨J0 _,Z,Z⟩ c;obtain⟨f,r2,g⟩:=kP (fun rs=>rs.length≤64∧rs.all (lP d ts)=tT∧apartB [] (rs.map aD.c)=tT) (fun x=>cN d x∧okF d x=tT) (fun s x s' hi a h=>If a.1 a.2 hi h) T.z [] rs (fun x a=>jT he b a) ⟨J0 _,Z,Z⟩ e;unfold nD;simp only[t2,t3,r2,g,Bool.and_true,J4,oB];exact⟨t1,f⟩
def bK:Rd aE:=(Rd.u8.rv (Rd.int.rv Rd.str)).as fun v=>(v.q,v.u,v.h)
def Rd.none{α:Type}:Rd (List α) where
 n:=1
 at_ _ _ xs vs:=∃p c,vs=[O p 0 c]∧xs=[]
 len:=by rintro w F x vs ⟨p,c,rfl,_⟩;rfl
 K:=by rintro w w' F x vs _ h;exact h
 N:=by rintro w F G x vs _ h;exact h
 one:=by
  rintro w F x vs ⟨p,c,rfl,_⟩ u hu;obtain rfl:=List.mem_singleton.1 hu;rfl
def De(r:Rd (List ak)):Rd ak:=(Rd.u8.rv (bK.rv (Rd.int.rv (Rd.u8.rv r)))).as fun e=>(e.q,e.h,e.u,e.op,e.z)
def bX:Nat→Rd ak
 | 0=>De Rd.none
 | d+1=>De (bX d).list
def t7:Rd fe:=(Rd.u8.rv (Rd.int.rv bK)).as fun a=>(a.q,a.u,a.h)
def ie(d:Nat):Rd bj:=(Rd.u8.rv (Rd.int.rv (t7.list.rv (bX d)))).as fun c=>(c.q,c.u,c.c,c.a)
def jq(d:Nat):Rd dr:=(Rd.u8.rv (Rd.int.rv (Rd.int.rv (bX d).list))).as fun a=>(a.q,a.u,a.which,a.exprs)
def eW:Rd am:=(Rd.str.rv Rd.int).as fun t=>(t.c,t.a)
def fM(d:Nat):Rd aD:=(Rd.str.rv (Rd.int.rv (Rd.int.rv ((ie d).list.rv (jq d).list)))).as fun r=>(r.c,r.sal,r.b,r.a,r.d)
theorem l6(d:Nat):(bX d).n=7:=by cases d<;>rfl
section
variable {w:World} {F:Nat→Prop} {d:Nat} {vs:List Value}
def U8(x:Int):Prop:=0≤x∧x<256
def I64(x:Int):Prop:=-9223372036854775808≤x∧x<9223372036854775808
def gy(v:aE):Prop:=U8 v.q∧I64 v.u∧v.h.size≤maxLen
def uv(v:aE):List Value:=[I r8 v.q,I U v.u,r9 v.h]
theorem dX{v:aE}:bK.at_ w F v vs↔vs=uv v∧gy v:=by
 constructor
 ·rintro ⟨e,f,rfl,⟨rfl,a⟩,⟨v1,v2,rfl,⟨rfl,b⟩,rfl,c⟩⟩;exact⟨Z,a,b,c⟩
 ·rintro ⟨rfl,a,b,c⟩;exact⟨[_],[_,_],Z,⟨Z,a⟩,⟨[_],[_],Z,⟨Z,b⟩,Z,c⟩⟩
def fU(w:World) (F:Nat→Prop):Nat→List ak→Value→Prop
 | 0,ks,s=>ks=[]∧∃p c,s=O p 0 c
 | d+1,ks,s=>(bX d).h w F ks s
def nZ(e:ak):Prop:=U8 e.q∧gy e.h∧I64 e.u∧U8 e.op
def cU(e:ak) (s:Value):List Value:=[I r8 e.q,I r8 e.h.q,I U e.h.u,r9 e.h.h,I U e.u,I r8 e.op,s]
theorem m8{e:ak}:(bX d).at_ w F e vs↔nZ e∧∃s,vs=cU e s∧fU w F d e.z s:=by
 cases d with
 | zero =>
  constructor
  ·rintro ⟨i,j,rfl,⟨rfl,a⟩,v1,v2,rfl,b,k,x2,rfl,⟨rfl,f⟩,l,m,rfl,⟨rfl,g⟩,p,c,rfl,h⟩;obtain⟨rfl,hw⟩:=dX.1 b;exact⟨⟨a,hw,f,g⟩,_,Z,h,p,c,Z⟩
  ·rintro ⟨⟨a,b,f,g⟩,s,rfl,h,p,c,rfl⟩;exact⟨[_],_,Z,⟨Z,a⟩,uv e.h,_,Z,dX.2 ⟨Z,b⟩,[_],_,Z,⟨Z,f⟩,[_],[_],Z,⟨Z,g⟩,p,c,Z,h⟩
 | succ d =>
  constructor
  ·rintro ⟨i,j,rfl,⟨rfl,a⟩,v1,v2,rfl,b,k,x2,rfl,⟨rfl,f⟩,l,m,rfl,⟨rfl,g⟩,s,rfl,h⟩;obtain⟨rfl,hw⟩:=dX.1 b;exact⟨⟨a,hw,f,g⟩,_,Z,h⟩
  ·rintro ⟨⟨a,b,f,g⟩,s,rfl,h⟩;exact⟨[_],_,Z,⟨Z,a⟩,uv e.h,_,Z,dX.2 ⟨Z,b⟩,[_],_,Z,⟨Z,f⟩,[_],[_],Z,⟨Z,g⟩,s,Z,h⟩
def Au(a:fe):Prop:=U8 a.q∧I64 a.u∧gy a.h
def iy(a:fe):List Value:=[I r8 a.q,I U a.u,I r8 a.h.q,I U a.h.u,r9 a.h.h]
theorem Jp{a:fe}:t7.at_ w F a vs↔vs=iy a∧Au a:=by
 constructor
 ·rintro ⟨f,g,rfl,⟨rfl,b⟩,v1,v2,rfl,⟨rfl,c⟩,e⟩;obtain⟨rfl,hw⟩:=dX.1 e;exact⟨Z,b,c,hw⟩
 ·rintro ⟨rfl,b,c,e⟩;exact⟨[_],_,Z,⟨Z,b⟩,[_],uv a.h,Z,⟨Z,c⟩,dX.2 ⟨Z,e⟩⟩
def JA(c:bj) (a s:Value):List Value:=[I r8 c.q,I U c.u,a]++cU c.a s
theorem qU{c:bj}:(ie d).at_ w F c vs↔U8 c.q∧I64 c.u∧nZ c.a∧∃a s,vs=JA c a s∧t7.h w F c.c a∧fU w F d c.a.z s:=by
 constructor
 ·rintro ⟨j,k,rfl,⟨rfl,b⟩,v1,v2,rfl,⟨rfl,e⟩,l,x2,rfl,⟨a,rfl,f⟩,i⟩;obtain⟨g,s,rfl,h⟩:=m8.1 i;exact⟨b,e,g,a,s,Z,f,h⟩
 ·rintro ⟨b,e,g,a,s,rfl,f,h⟩;exact⟨[_],_,Z,⟨Z,b⟩,[_],_,Z,⟨Z,e⟩,[_],cU c.a s,Z,⟨a,Z,f⟩,m8.2 ⟨g,s,Z,h⟩⟩
def actC(a:dr) (s:Value):List Value:=[I r8 a.q,I U a.u,I U a.which,s]
theorem sN{a:dr}:(jq d).at_ w F a vs↔U8 a.q∧I64 a.u∧I64 a.which∧∃s,vs=actC a s∧(bX d).h w F a.exprs s:=by
 constructor
 ·rintro ⟨g,h,rfl,⟨rfl,b⟩,v1,v2,rfl,⟨rfl,c⟩,i,x2,rfl,⟨rfl,e⟩,s,rfl,f⟩;exact⟨b,c,e,s,Z,f⟩
 ·rintro ⟨b,c,e,s,rfl,f⟩;exact⟨[_],_,Z,⟨Z,b⟩,[_],_,Z,⟨Z,c⟩,[_],[_],Z,⟨Z,e⟩,s,Z,f⟩
def JF(t:am):List Value:=[r9 t.c,I U t.a]
theorem qG{t:am}:eW.at_ w F t vs↔vs=JF t∧t.c.size≤maxLen∧I64 t.a:=by
 constructor
 ·rintro ⟨c,e,rfl,⟨rfl,a⟩,rfl,b⟩;exact⟨Z,a,b⟩
 ·rintro ⟨rfl,a,b⟩;exact⟨[_],[_],Z,⟨Z,a⟩,Z,b⟩
def JI(r:aD) (a b:Value):List Value:=[r9 r.c,I U r.sal,I U r.b,a,b]
theorem uy{r:aD}:(fM d).at_ w F r vs↔r.c.size≤maxLen∧I64 r.sal∧I64 r.b∧∃a b,vs=JI r a b∧(ie d).h w F r.a a∧(jq d).h w F r.d b:=by
 constructor
 ·rintro ⟨i,j,rfl,⟨rfl,c⟩,v1,v2,rfl,⟨rfl,e⟩,k,x2,rfl,⟨rfl,f⟩,l,m,rfl,⟨a,rfl,g⟩,b,rfl,h⟩;exact⟨c,e,f,a,b,Z,g,h⟩
 ·rintro ⟨c,e,f,a,b,rfl,g,h⟩;exact⟨[_],_,Z,⟨Z,c⟩,[_],_,Z,⟨Z,e⟩,[_],_,Z,⟨Z,f⟩,[_],[_],Z,⟨a,Z,g⟩,b,Z,h⟩
end
