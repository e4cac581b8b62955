/- Parts of one proof, joined; conditions stand in each theorem. -/
import Derived.Test.YtmpekinjoeibbaaGreatDoorNO
import Derived.Test.YtmpekinjoeibbaaGreatDoorNA0
import Derived.Test.YtmpekinjoeibbaaGreatDoorMD
import Derived.Shelf.Strings.SlTrimAscii
open Decidable renaming decide→r8
open Go renaming World→p7,Calls→r9,Value→r3
open Go.Proofs.Tryz renaming prog→r6
open Go.Value renaming agg→s3,int→I,string→p9,slice→O,bool→ur,pointer→tv,func→wP
open Go.IntKind renaming u8→J,i64→Y
open Bool renaming true→r5,false→r7
open Go.Obj renaming cells→p8
open Go.Ending renaming returned→tF
open Option renaming none→V,some→A
namespace Go.Proofs.YtmpekinjoeibbaaGreatDoor
set_option maxHeartbeats 4000000
set_option maxRecDepth 100000
open Go.RowKit
def bj(a b c:Bool) (e:aw):Bool:=(a||zeroV e.h)&&(b||e.q==0)&&(c||(e.op==0&&e.u.isEmpty))
theorem fM(t:ByteArray):(t.toList=[])↔t.data.toList.isEmpty=true:=by rw[Fj,List.isEmpty_iff]
theorem CC(n:Nat):((n:Int)==0)=r8 (n=0):=by rw[FD];simp
theorem zX(e:aw)(p:Option Addr)(n c:Nat)(w:p7)(b:e.u.length=n) :
  r9 r6 87 #[s3 #[I J e.b,I J e.h.b,I Y e.h.q,p9 e.h.h,I Y e.q,I J e.op,O p n c],ur r5,ur r7,ur r7] w (ao (bj r5 r7 r7 e) w):=by
 have a:Hid (FS w (w.alloc (p8 #[I J e.b,I J e.h.b,I Y e.h.q,p9 e.h.h,I Y e.q,I J e.op,O p n c] 51))):=(EU _ w).alloc (ET _) _;have d:Hid (e.u.isEmpty=r8 (n=0)):=by
  show _=_
  rw[←b]
  cases e.u<;>rfl
 have f:Hid (bj r5 r7 r7 e=((r5||(e.h.b==0&&e.h.q==0&&r8 (e.h.h.toList=[])))&&(r7||e.q==0)&&(r7||(e.op==0&&r8 (n=0))))):=by
  show _=_
  unfold bj zeroV;rw[d.o,show r8 (e.h.h.toList=[])=e.h.h.data.toList.isEmpty by rw[FD,o3];exact fM _]
 rw[f.o];obtain⟨ek,g,er,h,es⟩:=e;obtain⟨i,j,k⟩:=g;simp only[aw.b,aw.h,aw.q,aw.op]at a ⊢;clear b d f
 go_enter Tryz.func87,Tryz.ntmps87
 go_wp2
 all_goals first
  | (go_ret;exact⟨by simp_all [CC],by simp_all;exact a.o⟩)
  | (go_ret;exact⟨by simp_all [],by first|exact a.o|(have:=a.o;simp_all)⟩)
theorem BC(e:aw)(p:Option Addr)(n c:Nat)(w:p7)(b:e.u.length=n) :
  r9 r6 87 #[s3 #[I J e.b,I J e.h.b,I Y e.h.q,p9 e.h.h,I Y e.q,I J e.op,O p n c],ur r7,ur r5,ur r7] w (ao (bj r7 r5 r7 e) w):=by
 have a:Hid (FS w (w.alloc (p8 #[I J e.b,I J e.h.b,I Y e.h.q,p9 e.h.h,I Y e.q,I J e.op,O p n c] 51))):=(EU _ w).alloc (ET _) _;have d:Hid (e.u.isEmpty=r8 (n=0)):=by
  show _=_
  rw[←b]
  cases e.u<;>rfl
 have f:Hid (bj r7 r5 r7 e=((r7||(e.h.b==0&&e.h.q==0&&r8 (e.h.h.toList=[])))&&(r5||e.q==0)&&(r7||(e.op==0&&r8 (n=0))))):=by
  show _=_
  unfold bj zeroV;rw[d.o,show r8 (e.h.h.toList=[])=e.h.h.data.toList.isEmpty by rw[FD,o3];exact fM _]
 rw[f.o];obtain⟨ek,g,er,h,es⟩:=e;obtain⟨i,j,k⟩:=g;simp only[aw.b,aw.h,aw.q,aw.op]at a ⊢;clear b d f
 go_enter Tryz.func87,Tryz.ntmps87
 go_wp2
 all_goals first
  | (go_ret;exact⟨by simp_all [CC],by simp_all;exact a.o⟩)
  | (go_ret;exact⟨by simp_all [],by first|exact a.o|(have:=a.o;simp_all)⟩)
theorem mN(e:aw)(p:Option Addr)(n c:Nat)(w:p7)(b:e.u.length=n) :
  r9 r6 87 #[s3 #[I J e.b,I J e.h.b,I Y e.h.q,p9 e.h.h,I Y e.q,I J e.op,O p n c],ur r7,ur r7,ur r5] w (ao (bj r7 r7 r5 e) w):=by
 have a:Hid (FS w (w.alloc (p8 #[I J e.b,I J e.h.b,I Y e.h.q,p9 e.h.h,I Y e.q,I J e.op,O p n c] 51))):=(EU _ w).alloc (ET _) _;have d:Hid (e.u.isEmpty=r8 (n=0)):=by
  show _=_
  rw[←b]
  cases e.u<;>rfl
 have f:Hid (bj r7 r7 r5 e=((r7||(e.h.b==0&&e.h.q==0&&r8 (e.h.h.toList=[])))&&(r7||e.q==0)&&(r5||(e.op==0&&r8 (n=0))))):=by
  show _=_
  unfold bj zeroV;rw[d.o,show r8 (e.h.h.toList=[])=e.h.h.data.toList.isEmpty by rw[FD,o3];exact fM _]
 rw[f.o];obtain⟨ek,g,er,h,es⟩:=e;obtain⟨i,j,k⟩:=g;simp only[aw.b,aw.h,aw.q,aw.op]at a ⊢;clear b d f
 go_enter Tryz.func87,Tryz.ntmps87
 go_wp2
 all_goals first
  | (go_ret;exact⟨by simp_all [],by simp_all;exact a.o⟩)
  | (go_ret;exact⟨by simp_all [],by first|exact a.o|(have:=a.o;simp_all)⟩)
theorem rL(e:aw)(p:Option Addr)(n c:Nat)(w:p7)(b:e.u.length=n) :
  r9 r6 87 #[s3 #[I J e.b,I J e.h.b,I Y e.h.q,p9 e.h.h,I Y e.q,I J e.op,O p n c],ur r7,ur r7,ur r7] w (ao (bj r7 r7 r7 e) w):=by
 have a:Hid (FS w (w.alloc (p8 #[I J e.b,I J e.h.b,I Y e.h.q,p9 e.h.h,I Y e.q,I J e.op,O p n c] 51))):=(EU _ w).alloc (ET _) _;have d:Hid (e.u.isEmpty=r8 (n=0)):=by
  show _=_
  rw[←b]
  cases e.u<;>rfl
 have f:Hid (bj r7 r7 r7 e=((r7||(e.h.b==0&&e.h.q==0&&r8 (e.h.h.toList=[])))&&(r7||e.q==0)&&(r7||(e.op==0&&r8 (n=0))))):=by
  show _=_
  unfold bj zeroV;rw[d.o,show r8 (e.h.h.toList=[])=e.h.h.data.toList.isEmpty by rw[FD,o3];exact fM _]
 rw[f.o];obtain⟨ek,g,er,h,es⟩:=e;obtain⟨i,j,k⟩:=g;simp only[aw.b,aw.h,aw.q,aw.op]at a ⊢;clear b d f
 go_enter Tryz.func87,Tryz.ntmps87
 go_wp2
 all_goals first
  | (go_ret;exact⟨by simp_all [CC],by simp_all;exact a.o⟩)
  | (go_ret;exact⟨by simp_all [],by first|exact a.o|(have:=a.o;simp_all)⟩)
theorem Ei(p:UInt8→Bool)(l:List UInt8):l.dropWhile p=[]↔∀x∈l,p x=true:=by
 induction l with
 | nil=>simp
 | cons a l b =>
  rw[List.dropWhile_cons]
  by_cases h:p a=r5
  ·rw[oA h,b];simp[h]
  ·rw[ox h];simp[h]
theorem Bc(l cs:List UInt8):Lib.trimS l cs=[]↔∀x∈l,cs.contains x=true:=by
 unfold Lib.trimS Lib.trimLeftS Lib.trimRightS;have b:∀(m:List UInt8),(∀x∈(m.dropWhile (cs.contains ·)).reverse,cs.contains x=r5)↔∀x∈m,cs.contains x=true:=by
  intro m
  induction m with
  | nil=>simp
  | cons a m c =>
   rw[List.dropWhile_cons]
   by_cases h:cs.contains a=r5
   ·rw[oA h,c];simp only[FK,forall_eq_or_imp,h,pk]
   ·rw[ox h];simp only[List.mem_reverse]
 rw[Ei,b];simp only[List.mem_reverse]
theorem El(c:UInt8):dj.data.toList.contains c=isLow c:=lu c
theorem DN(c:UInt8):fD.data.toList.contains c=(isLow c||bQ c||c==95):=uH c
theorem um(k:Nat)(l:List UInt8)(a:k≠0):ik k l=l.all (fun c=>isLow c||bQ c||c==95):=by
 induction l generalizing k with
 | nil=>rfl
 | cons c r b =>
  unfold ik;rw[List.all_cons,b (k+1) (by omega)];unfold nameAt;rw[decide_eq_true a,Bool.true_and,Bool.or_assoc]
theorem zE(l:List UInt8):cB l=(!l.isEmpty&&r8 (l.length≤24)&&(match l with | []=>r7|c::_=>dj.data.toList.contains c)&&(Lib.trimS l fD.data.toList).isEmpty):=by
 have a:(Lib.trimS l fD.data.toList).isEmpty=l.all (fun c=>isLow c||bQ c||c==95):=by
  rw[FD,List.isEmpty_iff,Bc,FG];simp only[DN]
 rw[a];unfold cB
 cases l with
 | nil=>rfl
 | cons c r =>
  unfold ik;rw[um 1 r (by omega),List.all_cons];simp only[El];unfold nameAt;simp only[FC,List.isEmpty_cons]
  cases isLow c<;>cases (r.all (fun c=>isLow c||bQ c||c==95))<;>simp
theorem EB(l:List UInt8):((⟨l.toArray⟩:ByteArray).toList.isEmpty)=l.isEmpty:=by rw[Fj]
theorem zx(s:ByteArray)(a:s.size≤maxLen)(W:p7):r9 r6 158 #[p9 s,p9 fD] W fun e w'=>∃t:ByteArray,e=tF (p9 t)∧t.toList.isEmpty=(Lib.trimS s.data.toList fD.data.toList).isEmpty∧FS W w':=
 (Any.strings_Trim_laid Tryz.lays160 (by kernel_rfl) s fD W (EZ a (by decide)) (by decide) (ascii_of_all (by decide))).mono fun e w' ⟨b,c⟩=>⟨_,b,EB _,c⟩
theorem xU(s:ByteArray)(w:p7)(f:s.size≤maxLen):r9 r6 85 #[p9 s] w (ao (cB s.data.toList) w):=by
 rcases Nat.eq_zero_or_pos s.size with a|a
 ·have e:s.data.toList=[]:=Fy (by rw[Fz];exact a);have he:s.toList.isEmpty=true:=by rw[Fj,e];rfl
  have v:=Hd (show cB s.data.toList=r7 by rw[e];rfl);clear e a f
  go_enter Tryz.func85,Tryz.ntmps85
  go_wp2
  go_ret;rw[v.o];exact⟨Z,EU _ _⟩
 ·have he:s.toList.isEmpty=false:=iQ s a;have h:s.data.toList=s[0]::s.data.toList.drop 1:=by
   have:=drop_cons s 0 a
   simpa using this
  have j:cB s.data.toList=(r8 (s.size≤24)&&hasB dj s[0]&&(Lib.trimS s.data.toList fD.data.toList).isEmpty):=by
   have d:s.data.toList.length=s.size:=Fz;rw[zE,d];generalize Lib.trimS s.data.toList fD.data.toList=u;rw[h];rfl
  have c:=Hd j;have k:=Hd ((gX dj s[0] w).mono (R':=fun e w'=>(∃i:Int,e=tF (I Y i)∧r8 (0≤i)=hasB dj s[0])∧w=w') (fun e w' l=>⟨⟨_,l.1,j0 _ _⟩,l.2⟩));have m:=Hd (zx s f w);clear j h f;generalize z:cB s.data.toList=x at c ⊢;clear z;generalize hu:(Lib.trimS s.data.toList fD.data.toList).isEmpty=u at c m;clear hu;generalize b:hasB dj s[0]=y at c k;clear b
  go_enter Tryz.func85,Tryz.ntmps85
  by_cases d:s.size≤24
  ·go_wp2_with (first
    | (go_at_call 157;refine Ff k.o ?_;rintro e w' ⟨⟨i,rfl,n⟩,rfl⟩;have p:=Hd n;clear n)
    | (go_at_call 158;refine Ff m.o ?_;rintro e w' ⟨t,rfl,q,r⟩;obtain⟨g,B⟩:=zz2 q r;clear q r))
   all_goals go_ret
   all_goals rw[c.o]
   ·have a:0≤i:=by assumption
    have b:=p.o;rw[decide_eq_true a]at b;rw[←b,←g.o];exact⟨by simp[d],B.o⟩
   ·have a:i<0:=by assumption
    have b:=p.o;rw[oB (by omega)]at b;rw[←b];exact⟨by simp,EU _ _⟩
  ·go_wp2
   go_ret;rw[c.o];exact⟨by simp[d],EU _ _⟩
theorem xf(l:List UInt8):l.isEmpty=r8 (l=[]):=by cases l<;>rfl
theorem lF(v:i4)(w:p7)(j:v.h.size≤maxLen):r9 r6 29 #[s3 #[I J v.b,I Y v.q,p9 v.h]] w (ao (gu v) w):=by
 have c:FS w (w.alloc (p8 #[I J v.b,I Y v.q,p9 v.h] 47)):=(EU _ w).alloc (ET _) _;obtain⟨a,b⟩:=zz2 c (xU v.h (w.alloc (p8 #[I J v.b,I Y v.q,p9 v.h] 47)) j);clear c
 by_cases g:v.b=1
 ·have hv:Hid (gu v=r8 (v.h.toList=[])):=by
   show _=_
   unfold gu;rw[g,show r8 (v.h.toList=[])=v.h.data.toList.isEmpty by rw[FD,o3];exact fM _];rfl
  rw[hv.o];rw[g]at a ⊢;clear hv b
  go_enter Tryz.func29,Tryz.ntmps29
  go_wp2
  all_goals (go_ret;exact⟨by simp_all [xf],by first|exact a.o|(have:=a.o;simp_all)⟩)
 by_cases d:v.b=2
 ·by_cases h:v.q=0
  ·have hv:Hid (gu v=cB v.h.data.toList):=by
    show _=_
    unfold gu;rw[d,h];rfl
   rw[hv.o];rw[d,h]at a b ⊢;clear hv
   go_enter Tryz.func29,Tryz.ntmps29
   go_wp2_with fail
   refine b.o.mono ?_;rintro e W2 ⟨rfl,f⟩;have i:=Hd (a.o.trans (f.mono a.o.size));clear f b;go_wp2_with fail
   go_ret;exact⟨Z,i.o⟩
  ·have hv:Hid (gu v=r7):=by
    show _=_
    unfold gu;rw[d,show (v.q==0)=r7 by simpa using h];rfl
   rw[hv.o];rw[d]at a ⊢;clear hv b
   go_enter Tryz.func29,Tryz.ntmps29
   go_wp2
   all_goals (go_ret;exact⟨by simp_all,by first|exact a.o|(have:=a.o;simp_all)⟩)
 ·have hv:Hid (gu v=r7):=by
   show _=_
   unfold gu;rw[show (v.b==1)=r7 by simpa using g,show (v.b==2)=r7 by simpa using d];rfl
  rw[hv.o];clear hv b
  go_enter Tryz.func29,Tryz.ntmps29
  go_wp2
  all_goals (go_ret;exact⟨by simp_all,by first|exact a.o|(have:=a.o;simp_all)⟩)
theorem oH(s:ByteArray)(w:p7)(d:s.size≤maxLen):r9 r6 14 #[p9 s] w (ao (cB s.data.toList) w):=by
 have c:Hid (r9 r6 29 #[s3 #[I J 2,I Y 0,p9 s]] w (ao (cB s.data.toList) w)):=by
  have h:=lF ⟨2,0,s⟩ w d;exact h
 go_enter Tryz.func14,Tryz.ntmps14
 go_wp2_with fail
 refine c.o.mono ?_;rintro e W2 ⟨rfl,a⟩;have b:=Hd a;clear a c;go_wp2_with fail
 go_ret;exact⟨Z,b.o⟩
def js{α:Type} (q:α→Bool):List α→Nat→Option Nat
 | [],_=>V
 | K::l,k=>if q K then A k else js q l (k+1)
theorem pI{α:Type}(q:α→Bool):∀(l:List α) (m k:Nat) (K:α),l[k]?=A K→q K=r5→(∀(j:Nat) (z:α),j<k→l[j]?=A z→q z=r7)→js q l m=A (m+k)
 | [],m,k,K,h,_,_=>by simp at h
 | z::l,m,0,K,h,he,_=>by
  simp only[List.getElem?_cons_zero,oF]at h;subst h;unfold js;rw[oA he];rfl
 | z::l,m,k+1,K,h,he,a=>by
  rw[FN]at h;have b:=a 0 z (by omega) Z;unfold js;rw[b];simp only[Fx,oX];rw[pI q l (m+1) k K h he (fun j c e d=>a (j+1) c (by omega) (by rw[FN];exact d))]
  congr 1;omega
theorem mR{α:Type}(q:α→Bool):∀(l:List α) (m:Nat),(∀(j:Nat) (z:α),l[j]?=A z→q z=r7)→js q l m=V
 | [],m,_=>rfl
 | z::l,m,a=>by
  unfold js;rw[a 0 z Z];simp only[Fx,oX];exact mR q l (m+1) (fun j b c=>a (j+1) b (by rw[FN];exact c))
theorem oU{α:Type}(f:α→Bool):∀(l:List α) (m:Nat),(js (fun x=>!f x) l m).isSome = !(l.all f)
 | [],m=>rfl
 | z::l,m=>by
  unfold js;rw[List.all_cons]
  cases h:f z with
  | true=>simp only[Bool.not_true,Fx,oX,Bool.true_and];exact oU f l (m+1)
  | false=>simp
def zW{α:Type} (w:p7) (n:Nat) (l:List α) (q:α→Bool) (i:r3) (W:p7):Prop:=∃k:Nat,k≤n∧i=I Y (k:Int)∧FS w W∧(∀(j:Nat) (z:α),j<k→l[j]?=A z→q z=r7)
def ii(S:Nat) (nv:Int) (w:p7):Prop:=w.cell? ⟨S,2,V⟩=A (I Y nv)
theorem ii.C{S:Nat}{nv:Int}{w w':p7}(h:ii S nv w)(a:FS w w'):ii S nv w':=(a.cell (p:=⟨S,2,V⟩) (dW h)).trans h
def kw(S:Nat) (nv:Int) (d:Nat) (f:aw→Bool):Prop:=∀(e:aw) (s:r3) (w:p7),ii S nv w→fL e→ey w (fun b=>b<w.heap.size) d e.u s→
 r9 r6 89 #[tv (A ⟨S,0,V⟩),s3 #[I J e.b,I J e.h.b,I Y e.h.q,p9 e.h.h,I Y e.q,I J e.op,s]] w (ao (f e) w)
theorem yD(S:Nat)(nv:Int)(d:Nat)(f:aw→Bool)(l:kw S nv d f)(e:aw)(s:r3)(T:Nat)(w:p7)(hv:ii S nv w)(m:w.cell? ⟨T,0,V⟩=A (tv (A ⟨S,0,V⟩)))(g:fL e)(j:ey w (fun b=>b<w.heap.size) d e.u s) :
  r9 r6 160 #[s3 #[I J e.b,I J e.h.b,I Y e.h.q,p9 e.h.h,I Y e.q,I J e.op,s],tv (A ⟨T,0,V⟩)] w (ao (!f e) w):=by
 obtain⟨p,c,n⟩:=bY j;have h:FS w (w.alloc (p8 #[I J e.b,I J e.h.b,I Y e.h.q,p9 e.h.h,I Y e.q,I J e.op,s] 51)):=(EU _ w).alloc (ET _) _;have u:=(h.cell (p:=⟨T,0,V⟩) (dW m)).trans m;obtain⟨q,r⟩:=zz2 (l e s _ (hv.C h) g (gY (fun b (a:b<w.heap.size)=>EY a h.size) (iy (fun b a o v=>(h.block b a).trans v) j))) h;obtain⟨t,i⟩:=zzy (e.u.length);rw[i]at n;subst n;clear h j hv l g i
 go_enter Tryz.func160,Tryz.ntmps160
 go_wp2_with fail
 refine q.o.mono ?_;rintro x W2 ⟨rfl,a⟩;have k:=Hd (r.o.trans (a.mono r.o.size));clear a q;go_wp2_with fail
 go_ret;exact⟨Z,k.o⟩
theorem Cz(S:Nat)(nv:Int)(d:Nat)(f:aw→Bool)(hf:kw S nv d f)(l:List aw)(v:r3)(T:Nat)(w:p7)(hv:ii S nv w)(R:w.cell? ⟨T,0,V⟩=A (tv (A ⟨S,0,V⟩)))(P:(cI d).y w (fun b=>b<w.heap.size) l v) :
  r9 r6 206 #[v,wP (.func 160) #[] #[tv (A ⟨T,0,V⟩)]] w (fun e w'=>e=tF (I Y (eh (js (fun x=>!f x) l 0)))∧FS w w'):=by
 obtain⟨p,c,U⟩:=Rd.b P;have u:=Rd.ss P;subst U;obtain⟨n,X⟩:=zzy (l.length);have HV:=Hd (fun W (D:FS w W)=>Rd.u P (fun _ h=>h) D);have ad:=Hd (fun W (D:FS w W)=>(D.cell (p:=⟨T,0,V⟩) (dW R)).trans R);have af:=Hd (fun W (D:FS w W)=>hv.C D);obtain⟨q,g⟩:∃q:aw→Bool,q=fun x=>!f x:=⟨_,rfl⟩
 have ak:Hid (∀x,q x = !f x):=fun x=>by rw[g]
 rw[←g];rw[X]at HV u ⊢;have HN:=Hd X;have a1:(n:Int)≤9223372036854775807:=by unfold maxLen at u;omega
 clear P X R hv g u
 go_enter Tryz.func206,Tryz.ntmps206
 go_wp2
 go_loopw [8] (zW w n l q) (fun i _=>n-(intOf i).toNat)
 case atStart=>exact⟨0,Fi _,Z,EU _ _,fun j z hj=>by omega⟩
 case round =>
  obtain⟨k,hk,rfl,y,E⟩:=hrel;have a6:(0:Int)≤k:=by omega
  obtain⟨HB,B⟩:=zz2 y E;clear E
  by_cases aq:k<n
  ·have a7:(k:Int)<n:=by omega
   obtain⟨e,he⟩:∃e,l[k]?=A e:=⟨_,EX (by rw[HN.o];exact aq)⟩;have m:=HV.o wr y;have F:=Rd.T m he;rw[HN.o]at F;obtain⟨b,off,cap,vs,ar,_,_,_,_,G,a⟩:=F;rw[jI]at a;injection ar with e1 _ e3
   subst e1;subst e3;obtain⟨r,s,rfl,C⟩:=fb.1 G;have av:=bY C;obtain⟨ps,H,hs⟩:=av;obtain⟨Q,K⟩:=zzy (e.u.length);rw[K]at hs;subst hs;have c0:wr.cell? ⟨b,off+k*7,V⟩=A (I J e.b):=a 0 _ Z;have c1:wr.cell? ⟨b,off+k*7+1,V⟩=A (I J e.h.b):=a 1 _ Z;have c2:wr.cell? ⟨b,off+k*7+2,V⟩=A (I Y e.h.q):=a 2 _ Z;have c3:wr.cell? ⟨b,off+k*7+3,V⟩=A (p9 e.h.h):=a 3 _ Z;have c4:wr.cell? ⟨b,off+k*7+4,V⟩=A (I Y e.q):=a 4 _ Z;have c5:wr.cell? ⟨b,off+k*7+5,V⟩=A (I J e.op):=a 5 _ Z;have c6:wr.cell? ⟨b,off+k*7+6,V⟩=A (O ps Q H):=a 6 _ Z;have HK:=Hd (yD S nv d f hf e (O ps Q H) T wr (af.o wr y) (ad.o wr y) r (gY (fun b (h:b<w.heap.size)=>EY h y.size) C));have L:Hid (l[k]?=A e):=he;rw[←ak.o e]at HK;clear m G a he y r C K;go_wp2_with fail
   refine HK.o.mono ?_;rintro e2 w1 ⟨rfl,M⟩;have N:=Hd (HB.o.trans (M.mono HB.o.size));clear M c0 c1 c2 c3 c4 c5 c6
   cases g:q e with
   | true =>
    have HH:=Hd (pI q l 0 k e L.o g B.o);clear g;go_wp2_with fail
    go_ret;exact⟨by rw[HH.o,Nat.zero_add];rfl,N.o⟩
   | false =>
    have HQ:=Hd g;clear g;go_wp2_with fail
    exact⟨⟨k+1,by omega,by go_num,N.o,fun j z hj t=>by
     by_cases h:j=k
     ·subst h;rw[L.o]at t;injection t with t
      rw[←t];exact HQ.o
     ·exact B.o j z (by omega) t⟩,by simp[intOf];omega⟩
  ·have HH:Hid (js q l 0=V):=mR _ l 0 (fun j z t=>B.o j z (by
    have:=(Fo.1 t).1;rw[HN.o]at this
    omega) t)
   clear y;go_wp2_with fail
   go_ret;exact⟨by rw[HH.o];rfl,HB.o⟩
theorem AE(S:Nat)(nv:Int)(d:Nat)(f:aw→Bool)(q:kw S nv d f)(l:List aw)(v:r3)(T:Nat)(w:p7)(hv:ii S nv w)(r:w.cell? ⟨T,0,V⟩=A (tv (A ⟨S,0,V⟩)))(j:(cI d).y w (fun b=>b<w.heap.size) l v) :
  r9 r6 159 #[v,wP (.func 160) #[] #[tv (A ⟨T,0,V⟩)]] w (ao (!(l.all f)) w):=by
 have g:=Hd (Cz S nv d f q l v T w hv r j);rw[←oU f l 0];obtain⟨p,c,h⟩:=Rd.b j;obtain⟨n,s⟩:=zzy (l.length);rw[s]at h;subst h;clear j r hv q s
 cases i:js (fun x=>!f x) l 0 with
 | none =>
  rw[i]at g;have g:Hid (r9 r6 206 #[O p n c,wP (.func 160) #[] #[tv (A ⟨T,0,V⟩)]] w (fun e w'=>e=tF (I Y (-1))∧FS w w')):=g;clear i
  go_enter Tryz.func159,Tryz.ntmps159
  go_wp2_with fail
  refine g.o.mono ?_;rintro e w1 ⟨rfl,a⟩;have m:=Hd a;clear a g;go_wp2_with fail
  go_ret;exact⟨Z,m.o⟩
 | some k =>
  rw[i]at g;have g:Hid (r9 r6 206 #[O p n c,wP (.func 160) #[] #[tv (A ⟨T,0,V⟩)]] w (fun e w'=>e=tF (I Y (k:Int))∧FS w w')):=g;have t:(0:Int)≤k:=by omega
  clear i
  go_enter Tryz.func159,Tryz.ntmps159
  go_wp2_with fail
  refine g.o.mono ?_;rintro e w1 ⟨rfl,a⟩;have m:=Hd a;clear a g;go_wp2_with fail
  go_ret;exact⟨Z,m.o⟩
theorem ll(S:Nat)(nv:Int)(d:Nat)(f:aw→Bool)(m:kw S nv d f)(l:List aw)(v:r3)(w:p7)(hv:ii S nv w)(j:(cI d).y w (fun b=>b<w.heap.size) l v) :
  r9 r6 91 #[tv (A ⟨S,0,V⟩),v] w (ao (l.all f) w):=by
 have t:∀(fn:Fn) (first cap:Array r3) (w:p7),(Instr.makeFunc fn first cap).run r6 w=.ok (wP fn first cap) w:=fun _ _ _ _=>rfl
 have a:FS w (w.alloc (p8 #[tv (A ⟨S,0,V⟩)] 72)):=(EU _ w).alloc (ET _) _;obtain⟨q,r⟩:=zz2 (AE S nv d f m l v w.heap.size _ (hv.C a) (cell_new1 w _ _) (Rd.sb (fun b (h:b<w.heap.size)=>EY h a.size) (Rd.u j (fun _ h=>h) a))) a;obtain⟨p,c,g⟩:=Rd.b j;obtain⟨n,s⟩:=zzy (l.length);rw[s]at g;subst g;clear a j hv m s
 go_enter Tryz.func91,Tryz.ntmps91
 go_wp2_with fail
 refine q.o.mono ?_;rintro e w1 ⟨rfl,i⟩;have k:=Hd (r.o.trans (i.mono r.o.size));clear i q;go_wp2_with fail
 go_ret;exact⟨by simp,k.o⟩
