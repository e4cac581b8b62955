/- Parts of one proof, joined; conditions stand in each theorem. -/
import Derived.Test.YtoahnjkclckodaaGreatDoorNO
import Derived.Test.YtoahnjkclckodaaGreatDoorNB
import Derived.Test.YtoahnjkclckodaaGreatDoorMD
import Derived.Shelf.Strings.SlTrimAscii
open Go.Value renaming string→r9,int→I
open Go.IntKind renaming i64→U,u8→r8
namespace Go.Proofs.YtoahnjkclckodaaGreatDoor
set_option maxHeartbeats 4000000
set_option maxRecDepth 100000
open Go.RowKit
theorem Gn(t:ByteArray):(t.toList=[])↔t.data.toList.isEmpty=true:=by rw[J1,List.isEmpty_iff]
theorem I3(p:UInt8→Bool)(l:List UInt8):l.dropWhile p=[]↔∀x∈l,p x=true:=by
 induction l with
 | nil=>simp
 | cons a l b =>
  rw[List.dropWhile_cons]
  by_cases h:p a=true
  ·rw[oj h,b];simp[h]
  ·rw[oe h];simp[h]
theorem EP(l cs:List UInt8):Lib.trimS l cs=[]↔∀x∈l,cs.contains x=true:=by
 unfold Lib.trimS Lib.trimLeftS Lib.trimRightS;have b:∀(m:List UInt8),(∀x∈(m.dropWhile (cs.contains ·)).reverse,cs.contains x=true)↔∀x∈m,cs.contains x=true:=by
  intro m
  induction m with
  | nil=>simp
  | cons a m c =>
   rw[List.dropWhile_cons]
   by_cases h:cs.contains a=true
   ·rw[oj h,c];simp only[Kk,forall_eq_or_imp,h,true_and]
   ·rw[oe h];simp only[List.mem_reverse]
 rw[I3,b];simp only[List.mem_reverse]
theorem Ja(c:UInt8):dy.data.toList.contains c=isLow c:=mM c
theorem Iv(c:UInt8):f9.data.toList.contains c=(isLow c||bY c||c==95):=yb c
theorem xB(k:Nat)(l:List UInt8)(a:k≠0):iL k l=l.all (fun c=>isLow c||bY c||c==95):=by
 induction l generalizing k with
 | nil=>rfl
 | cons c r b =>
  unfold iL;rw[List.all_cons,b (k+1) (by omega)];unfold nameAt;rw[decide_eq_true a,Bool.true_and,Bool.or_assoc]
theorem CZ(l:List UInt8):cL l=(!l.isEmpty&&decide (l.length≤24)&&(match l with | []=>false|c::_=>dy.data.toList.contains c)&&(Lib.trimS l f9.data.toList).isEmpty):=by
 have a:(Lib.trimS l f9.data.toList).isEmpty=l.all (fun c=>isLow c||bY c||c==95):=by
  rw[Kg,List.isEmpty_iff,EP,Kh];simp only[Iv]
 rw[a];unfold cL
 cases l with
 | nil=>rfl
 | cons c r =>
  unfold iL;rw[xB 1 r (by omega),List.all_cons];simp only[Ja];unfold nameAt;simp only[Kf,List.isEmpty_cons]
  cases isLow c<;>cases (r.all (fun c=>isLow c||bY c||c==95))<;>simp
theorem Jn(l:List UInt8):((⟨l.toArray⟩:ByteArray).toList.isEmpty)=l.isEmpty:=by rw[J1]
theorem CQ(s:ByteArray)(a:s.size≤maxLen)(W:World):Calls Tryz.prog 162 #[r9 s,r9 f9] W fun e w'=>∃t:ByteArray,e=Ending.returned (r9 t)∧t.toList.isEmpty=(Lib.trimS s.data.toList f9.data.toList).isEmpty∧Kr W w':=
 (Any.strings_Trim_laid Tryz.lays160 (by kernel_rfl) s f9 W (JU a (by decide)) (by decide) (ascii_of_all (by decide))).mono fun e w' ⟨b,c⟩=>⟨_,b,Jn _,c⟩
theorem AV(s:ByteArray)(w:World)(f:s.size≤maxLen):Calls Tryz.prog 133 #[r9 s] w (aZ (cL s.data.toList) w):=by
 rcases Nat.eq_zero_or_pos s.size with a|a
 ·have e:s.data.toList=[]:=Kb (by rw[Kc];exact a);have he:s.toList.isEmpty=true:=by rw[J1,e];rfl
  have r:=Hd (show cL s.data.toList=false by rw[e];rfl);clear e a f
  go_enter Tryz.func133,Tryz.ntmps133
  go_wp2
  go_ret;rw[r.o];exact⟨Z,JO _ _⟩
 ·have he:s.toList.isEmpty=false:=jg s a;have h:s.data.toList=s[0]::s.data.toList.drop 1:=by
   have:=drop_cons s 0 a
   simpa using this
  have j:cL s.data.toList=(decide (s.size≤24)&&hasB dy s[0]&&(Lib.trimS s.data.toList f9.data.toList).isEmpty):=by
   have d:s.data.toList.length=s.size:=Kc;rw[CZ,d];generalize Lib.trimS s.data.toList f9.data.toList=u;rw[h];rfl
  have c:=Hd j;have k:=Hd ((iD dy s[0] w).mono (R':=fun e w'=>(∃i:Int,e=Ending.returned (I U i)∧decide (0≤i)=hasB dy s[0])∧w=w') (fun e w' l=>⟨⟨_,l.1,kS _ _⟩,l.2⟩));have m:=Hd (CQ s f w);clear j h f;generalize v:cL s.data.toList=x at c ⊢;clear v;generalize hu:(Lib.trimS s.data.toList f9.data.toList).isEmpty=u at c m;clear hu;generalize b:hasB dy s[0]=y at c k;clear b
  go_enter Tryz.func133,Tryz.ntmps133
  by_cases d:s.size≤24
  ·go_wp2_with (first
    | (go_at_call 161;refine JX k.o ?_;rintro e w' ⟨⟨i,rfl,hi⟩,rfl⟩;have n:=Hd hi;clear hi)
    | (go_at_call 162;refine JX m.o ?_;rintro e w' ⟨t,rfl,p,q⟩;obtain⟨g,z⟩:=zz2 p q;clear p q))
   all_goals go_ret
   all_goals rw[c.o]
   ·have a:0≤i:=by assumption
    have b:=n.o;rw[decide_eq_true a]at b;rw[←b,←g.o];exact⟨by simp[d],z.o⟩
   ·have a:i<0:=by assumption
    have b:=n.o;rw[oE (by omega)]at b;rw[←b];exact⟨by simp,JO _ _⟩
  ·go_wp2
   go_ret;rw[c.o];exact⟨by simp[d],JO _ _⟩
theorem zY(l:List UInt8):l.isEmpty=decide (l=[]):=by cases l<;>rfl
theorem AP(v:aE)(w:World)(k:v.h.size≤maxLen):Calls Tryz.prog 101 #[Value.agg #[I r8 v.q,I U v.u,r9 v.h]] w (aZ (dV v) w):=by
 have d:Kr w (w.alloc (Obj.cells #[I r8 v.q,I U v.u,r9 v.h] 88)):=(JO _ w).alloc (JM _) _;obtain⟨a,c⟩:=zz2 d (AV v.h (w.alloc (Obj.cells #[I r8 v.q,I U v.u,r9 v.h] 88)) k);clear d
 by_cases h:v.q=1
 ·have b:Hid (dV v=decide (v.h.toList=[])):=by
   show _=_
   unfold dV;rw[h,show decide (v.h.toList=[])=v.h.data.toList.isEmpty by rw[Kg,decide_eq_true_iff];exact Gn _];rfl
  rw[b.o];rw[h]at a ⊢;clear b c
  go_enter Tryz.func101,Tryz.ntmps101
  go_wp2
  all_goals (go_ret;exact⟨by simp_all [zY],by first|exact a.o|(have:=a.o;simp_all)⟩)
 by_cases f:v.q=2
 ·by_cases i:v.u=0
  ·have b:Hid (dV v=cL v.h.data.toList):=by
    show _=_
    unfold dV;rw[f,i];rfl
   rw[b.o];rw[f,i]at a c ⊢;clear b
   go_enter Tryz.func101,Tryz.ntmps101
   go_wp2_with fail
   refine c.o.mono ?_;rintro e W2 ⟨rfl,g⟩;have j:=Hd (a.o.trans (g.mono a.o.size));clear g c;go_wp2_with fail
   go_ret;exact⟨Z,j.o⟩
  ·have b:Hid (dV v=false):=by
    show _=_
    unfold dV;rw[f,show (v.u==0)=false by simpa using i];rfl
   rw[b.o];rw[f]at a ⊢;clear b c
   go_enter Tryz.func101,Tryz.ntmps101
   go_wp2
   all_goals (go_ret;exact⟨by simp_all,by first|exact a.o|(have:=a.o;simp_all)⟩)
 ·have b:Hid (dV v=false):=by
   show _=_
   unfold dV;rw[show (v.q==1)=false by simpa using h,show (v.q==2)=false by simpa using f];rfl
  rw[b.o];clear b c
  go_enter Tryz.func101,Tryz.ntmps101
  go_wp2
  all_goals (go_ret;exact⟨by simp_all,by first|exact a.o|(have:=a.o;simp_all)⟩)
def ir{α:Type} (q:α→Bool):List α→Nat→Option Nat
 | [],_=>none
 | K::l,k=>if q K then some k else ir q l (k+1)
theorem sh{α:Type}(q:α→Bool):∀(l:List α) (m k:Nat) (K:α),l[k]?=some K→q K=true→(∀(j:Nat) (z:α),j<k→l[j]?=some z→q z=false)→ir q l m=some (m+k)
 | [],m,k,K,h,_,_=>by simp at h
 | z::l,m,0,K,h,he,_=>by
  simp only[List.getElem?_cons_zero,o6]at h;subst h;unfold ir;rw[oj he];rfl
 | z::l,m,k+1,K,h,he,a=>by
  rw[Km]at h;have b:=a 0 z (by omega) Z;unfold ir;rw[b];simp only[Ka,oF];rw[sh q l (m+1) k K h he (fun j c e d=>a (j+1) c (by omega) (by rw[Km];exact d))]
  congr 1;omega
theorem pW{α:Type}(q:α→Bool):∀(l:List α) (m:Nat),(∀(j:Nat) (z:α),l[j]?=some z→q z=false)→ir q l m=none
 | [],m,_=>rfl
 | z::l,m,a=>by
  unfold ir;rw[a 0 z Z];simp only[Ka,oF];exact pW q l (m+1) (fun j b c=>a (j+1) b (by rw[Km];exact c))
theorem xc{α:Type}(f:α→Bool):∀(l:List α) (m:Nat),(ir (fun x=>!f x) l m).isSome = !(l.all f)
 | [],m=>rfl
 | z::l,m=>by
  unfold ir;rw[List.all_cons]
  cases h:f z with
  | true=>simp only[Bool.not_true,Ka,oF,Bool.true_and];exact xc f l (m+1)
  | false=>simp
def Dt{α:Type} (w:World) (n:Nat) (l:List α) (q:α→Bool) (i:Value) (W:World):Prop:=∃k:Nat,k≤n∧i=I U (k:Int)∧Kr w W∧(∀(j:Nat) (z:α),j<k→l[j]?=some z→q z=false)
