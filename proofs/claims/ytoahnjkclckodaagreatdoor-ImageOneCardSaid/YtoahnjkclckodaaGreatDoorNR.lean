/- Parts of one proof, joined; conditions stand in each theorem. -/
import Derived.Test.YtoahnjkclckodaaGreatDoorNO
import Derived.Test.YtoahnjkclckodaaGreatDoorNA0
import Derived.Test.YtoahnjkclckodaaGreatDoorMD
import Derived.Shelf.Strings.SlTrimAscii
open Go.Value renaming string→tS,int→I
open Go.IntKind renaming i64→U,u8→tF
namespace Go.Proofs.YtoahnjkclckodaaGreatDoor
set_option maxHeartbeats 4000000
set_option maxRecDepth 100000
open Go.RowKit
theorem CC(t:ByteArray):(t.toList=[])↔t.data.toList.isEmpty=true:=by rw[FS,List.isEmpty_iff]
theorem ED(p:UInt8→Bool)(l:List UInt8):l.dropWhile p=[]↔∀x∈l,p x=true:=by
 induction l with
 | nil=>simp
 | cons a l b =>
  rw[List.dropWhile_cons]
  by_cases h:p a=true
  ·rw[oE h,b];simp[h]
  ·rw[oB h];simp[h]
theorem Bu(l cs:List UInt8):Lib.trimS l cs=[]↔∀x∈l,cs.contains x=true:=by
 unfold Lib.trimS Lib.trimLeftS Lib.trimRightS;have b:∀(m:List UInt8),(∀x∈(m.dropWhile (cs.contains ·)).reverse,cs.contains x=true)↔∀x∈m,cs.contains x=true:=by
  intro m
  induction m with
  | nil=>simp
  | cons a m c =>
   rw[List.dropWhile_cons]
   by_cases h:cs.contains a=true
   ·rw[oE h,c];simp only[Ge,forall_eq_or_imp,h,true_and]
   ·rw[oB h];simp only[List.mem_reverse]
 rw[ED,b];simp only[List.mem_reverse]
theorem EJ(c:UInt8):da.data.toList.contains c=isLow c:=lS c
theorem Eb(c:UInt8):fF.data.toList.contains c=(isLow c||bN c||c==95):=uN c
theorem uy(k:Nat)(l:List UInt8)(a:k≠0):ie k l=l.all (fun c=>isLow c||bN c||c==95):=by
 induction l generalizing k with
 | nil=>rfl
 | cons c r b =>
  unfold ie;rw[List.all_cons,b (k+1) (by omega)];unfold nameAt;rw[decide_eq_true a,Bool.true_and,Bool.or_assoc]
theorem zR(l:List UInt8):dP l=(!l.isEmpty&&decide (l.length≤24)&&(match l with | []=>false|c::_=>da.data.toList.contains c)&&(Lib.trimS l fF.data.toList).isEmpty):=by
 have a:(Lib.trimS l fF.data.toList).isEmpty=l.all (fun c=>isLow c||bN c||c==95):=by
  rw[Ga,List.isEmpty_iff,Bu,Gb];simp only[Eb]
 rw[a];unfold dP
 cases l with
 | nil=>rfl
 | cons c r =>
  unfold ie;rw[uy 1 r (by omega),List.all_cons];simp only[EJ];unfold nameAt;simp only[F9,List.isEmpty_cons]
  cases isLow c<;>cases (r.all (fun c=>isLow c||bN c||c==95))<;>simp
theorem EV(l:List UInt8):((⟨l.toArray⟩:ByteArray).toList.isEmpty)=l.isEmpty:=by rw[FS]
theorem zL(s:ByteArray)(a:s.size≤maxLen)(W:World):Calls Tryz.prog 162 #[tS s,tS fF] W fun e w'=>∃t:ByteArray,e=Ending.returned (tS t)∧t.toList.isEmpty=(Lib.trimS s.data.toList fF.data.toList).isEmpty∧Gl W w':=
 (Any.strings_Trim_laid Tryz.lays160 (by kernel_rfl) s fF W (FH a (by decide)) (by decide) (ascii_of_all (by decide))).mono fun e w' ⟨b,c⟩=>⟨_,b,EV _,c⟩
theorem xY(s:ByteArray)(w:World)(f:s.size≤maxLen):Calls Tryz.prog 133 #[tS s] w (aV (dP s.data.toList) w):=by
 rcases Nat.eq_zero_or_pos s.size with a|a
 ·have e:s.data.toList=[]:=F5 (by rw[F6];exact a);have he:s.toList.isEmpty=true:=by rw[FS,e];rfl
  have r:=Hd (show dP s.data.toList=false by rw[e];rfl);clear e a f
  go_enter Tryz.func133,Tryz.ntmps133
  go_wp2
  go_ret;rw[r.o];exact⟨Z,Fz _ _⟩
 ·have he:s.toList.isEmpty=false:=iL s a;have h:s.data.toList=s[0]::s.data.toList.drop 1:=by
   have:=drop_cons s 0 a
   simpa using this
  have j:dP s.data.toList=(decide (s.size≤24)&&hasB da s[0]&&(Lib.trimS s.data.toList fF.data.toList).isEmpty):=by
   have d:s.data.toList.length=s.size:=F6;rw[zR,d];generalize Lib.trimS s.data.toList fF.data.toList=u;rw[h];rfl
  have c:=Hd j;have k:=Hd ((gW da s[0] w).mono (R':=fun e w'=>(∃i:Int,e=Ending.returned (I U i)∧decide (0≤i)=hasB da s[0])∧w=w') (fun e w' l=>⟨⟨_,l.1,kg _ _⟩,l.2⟩));have m:=Hd (zL s f w);clear j h f;generalize v:dP s.data.toList=x at c ⊢;clear v;generalize hu:(Lib.trimS s.data.toList fF.data.toList).isEmpty=u at c m;clear hu;generalize b:hasB da s[0]=y at c k;clear b
  go_enter Tryz.func133,Tryz.ntmps133
  by_cases d:s.size≤24
  ·go_wp2_with (first
    | (go_at_call 161;refine FN k.o ?_;rintro e w' ⟨⟨i,rfl,hi⟩,rfl⟩;have n:=Hd hi;clear hi)
    | (go_at_call 162;refine FN m.o ?_;rintro e w' ⟨t,rfl,p,q⟩;obtain⟨g,z⟩:=zz2 p q;clear p q))
   all_goals go_ret
   all_goals rw[c.o]
   ·have a:0≤i:=by assumption
    have b:=n.o;rw[decide_eq_true a]at b;rw[←b,←g.o];exact⟨by simp[d],z.o⟩
   ·have a:i<0:=by assumption
    have b:=n.o;rw[oT (by omega)]at b;rw[←b];exact⟨by simp,Fz _ _⟩
  ·go_wp2
   go_ret;rw[c.o];exact⟨by simp[d],Fz _ _⟩
theorem xe(l:List UInt8):l.isEmpty=decide (l=[]):=by cases l<;>rfl
theorem xU(v:bj)(w:World)(k:v.h.size≤maxLen):Calls Tryz.prog 101 #[Value.agg #[I tF v.q,I U v.u,tS v.h]] w (aV (eR v) w):=by
 have d:Gl w (w.alloc (Obj.cells #[I tF v.q,I U v.u,tS v.h] 88)):=(Fz _ w).alloc (Fy _) _;obtain⟨a,c⟩:=zz2 d (xY v.h (w.alloc (Obj.cells #[I tF v.q,I U v.u,tS v.h] 88)) k);clear d
 by_cases h:v.q=1
 ·have b:Hid (eR v=decide (v.h.toList=[])):=by
   show _=_
   unfold eR;rw[h,show decide (v.h.toList=[])=v.h.data.toList.isEmpty by rw[Ga,decide_eq_true_iff];exact CC _];rfl
  rw[b.o];rw[h]at a ⊢;clear b c
  go_enter Tryz.func101,Tryz.ntmps101
  go_wp2
  all_goals (go_ret;exact⟨by simp_all [xe],by first|exact a.o|(have:=a.o;simp_all)⟩)
 by_cases f:v.q=2
 ·by_cases i:v.u=0
  ·have b:Hid (eR v=dP v.h.data.toList):=by
    show _=_
    unfold eR;rw[f,i];rfl
   rw[b.o];rw[f,i]at a c ⊢;clear b
   go_enter Tryz.func101,Tryz.ntmps101
   go_wp2_with fail
   refine c.o.mono ?_;rintro e W2 ⟨rfl,g⟩;have j:=Hd (a.o.trans (g.mono a.o.size));clear g c;go_wp2_with fail
   go_ret;exact⟨Z,j.o⟩
  ·have b:Hid (eR v=false):=by
    show _=_
    unfold eR;rw[f,show (v.u==0)=false by simpa using i];rfl
   rw[b.o];rw[f]at a ⊢;clear b c
   go_enter Tryz.func101,Tryz.ntmps101
   go_wp2
   all_goals (go_ret;exact⟨by simp_all,by first|exact a.o|(have:=a.o;simp_all)⟩)
 ·have b:Hid (eR v=false):=by
   show _=_
   unfold eR;rw[show (v.q==1)=false by simpa using h,show (v.q==2)=false by simpa using f];rfl
  rw[b.o];clear b c
  go_enter Tryz.func101,Tryz.ntmps101
  go_wp2
  all_goals (go_ret;exact⟨by simp_all,by first|exact a.o|(have:=a.o;simp_all)⟩)
def gG{α:Type} (q:α→Bool):List α→Nat→Option Nat
 | [],_=>none
 | K::l,k=>if q K then some k else gG q l (k+1)
theorem qm{α:Type}(q:α→Bool):∀(l:List α) (m k:Nat) (K:α),l[k]?=some K→q K=true→(∀(j:Nat) (z:α),j<k→l[j]?=some z→q z=false)→gG q l m=some (m+k)
 | [],m,k,K,h,_,_=>by simp at h
 | z::l,m,0,K,h,he,_=>by
  simp only[List.getElem?_cons_zero,o7]at h;subst h;unfold gG;rw[oE he];rfl
 | z::l,m,k+1,K,h,he,a=>by
  rw[Gg]at h;have b:=a 0 z (by omega) Z;unfold gG;rw[b];simp only[F4,o1];rw[qm q l (m+1) k K h he (fun j c e d=>a (j+1) c (by omega) (by rw[Gg];exact d))]
  congr 1;omega
theorem oa{α:Type}(q:α→Bool):∀(l:List α) (m:Nat),(∀(j:Nat) (z:α),l[j]?=some z→q z=false)→gG q l m=none
 | [],m,_=>rfl
 | z::l,m,a=>by
  unfold gG;rw[a 0 z Z];simp only[F4,o1];exact oa q l (m+1) (fun j b c=>a (j+1) b (by rw[Gg];exact c))
theorem uh{α:Type}(f:α→Bool):∀(l:List α) (m:Nat),(gG (fun x=>!f x) l m).isSome = !(l.all f)
 | [],m=>rfl
 | z::l,m=>by
  unfold gG;rw[List.all_cons]
  cases h:f z with
  | true=>simp only[Bool.not_true,F4,o1,Bool.true_and];exact uh f l (m+1)
  | false=>simp
def Al{α:Type} (w:World) (n:Nat) (l:List α) (q:α→Bool) (i:Value) (W:World):Prop:=∃k:Nat,k≤n∧i=I U (k:Int)∧Gl w W∧(∀(j:Nat) (z:α),j<k→l[j]?=some z→q z=false)
