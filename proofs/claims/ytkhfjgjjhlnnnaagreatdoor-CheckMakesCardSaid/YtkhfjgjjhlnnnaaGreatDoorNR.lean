/- Parts of one proof, joined; conditions stand in each theorem. -/
import Derived.Test.YtkhfjgjjhlnnnaaGreatDoorNO
import Derived.Test.YtkhfjgjjhlnnnaaGreatDoorNA0
import Derived.Test.YtkhfjgjjhlnnnaaGreatDoorMD
import Derived.Shelf.Strings.SlTrimAscii
open Decidable renaming decide→wo
open Go renaming World→vk,Calls→wB,Value→vn
open Go.Proofs.Tryz renaming prog→wq
open Go.Value renaming agg→wD,int→I,string→J,slice→A,bool→xS,pointer→wF,func→Bk
open Go.IntKind renaming u8→O,i64→Z
open Bool renaming true→wg,false→wj
open Go.Obj renaming cells→ur
open Go.Ending renaming returned→xv
open Option renaming none→U,some→Y
namespace Go.Proofs.YtkhfjgjjhlnnnaaGreatDoor
set_option maxHeartbeats 4000000
set_option maxRecDepth 100000
open Go.RowKit
def bu(a b c:Bool) (e:ax):Bool:=(a||zeroV e.f)&&(b||e.h==0)&&(c||(e.op==0&&e.q.isEmpty))
theorem ga(t:ByteArray):(t.toList=[])↔t.data.toList.isEmpty=true:=by rw[FB,List.isEmpty_iff]
theorem CO(n:Nat):((n:Int)==0)=wo (n=0):=by rw[FV];simp
theorem zU(e:ax)(p:Option Addr)(n c:Nat)(w:vk)(b:e.q.length=n) :
  wB wq 126 #[wD #[I O e.b,I O e.f.b,I Z e.f.h,J e.f.f,I Z e.h,I O e.op,A p n c],xS wg,xS wj,xS wj] w (ao (bu wg wj wj e) w):=by
 have a:Hid (Gc w (w.alloc (ur #[I O e.b,I O e.f.b,I Z e.f.h,J e.f.f,I Z e.h,I O e.op,A p n c] 62))):=(Fl _ w).alloc (Fj _) _;have d:Hid (e.q.isEmpty=wo (n=0)):=by
  show _=_
  rw[←b]
  cases e.q<;>rfl
 have f:Hid (bu wg wj wj e=((wg||(e.f.b==0&&e.f.h==0&&wo (e.f.f.toList=[])))&&(wj||e.h==0)&&(wj||(e.op==0&&wo (n=0))))):=by
  show _=_
  unfold bu zeroV;rw[d.o,show wo (e.f.f.toList=[])=e.f.f.data.toList.isEmpty by rw[FV,sI];exact ga _]
 rw[f.o];obtain⟨h,g,er,i,es⟩:=e;obtain⟨j,k,l⟩:=g;simp only[ax.b,ax.f,ax.h,ax.op]at a ⊢;clear b d f
 go_enter Tryz.func126,Tryz.ntmps126
 go_wp2
 all_goals first
  | (go_ret;exact⟨by simp_all [CO],by simp_all;exact a.o⟩)
  | (go_ret;exact⟨by simp_all [],by first|exact a.o|(have:=a.o;simp_all)⟩)
theorem BE(e:ax)(p:Option Addr)(n c:Nat)(w:vk)(b:e.q.length=n) :
  wB wq 126 #[wD #[I O e.b,I O e.f.b,I Z e.f.h,J e.f.f,I Z e.h,I O e.op,A p n c],xS wj,xS wg,xS wj] w (ao (bu wj wg wj e) w):=by
 have a:Hid (Gc w (w.alloc (ur #[I O e.b,I O e.f.b,I Z e.f.h,J e.f.f,I Z e.h,I O e.op,A p n c] 62))):=(Fl _ w).alloc (Fj _) _;have d:Hid (e.q.isEmpty=wo (n=0)):=by
  show _=_
  rw[←b]
  cases e.q<;>rfl
 have f:Hid (bu wj wg wj e=((wj||(e.f.b==0&&e.f.h==0&&wo (e.f.f.toList=[])))&&(wg||e.h==0)&&(wj||(e.op==0&&wo (n=0))))):=by
  show _=_
  unfold bu zeroV;rw[d.o,show wo (e.f.f.toList=[])=e.f.f.data.toList.isEmpty by rw[FV,sI];exact ga _]
 rw[f.o];obtain⟨h,g,er,i,es⟩:=e;obtain⟨j,k,l⟩:=g;simp only[ax.b,ax.f,ax.h,ax.op]at a ⊢;clear b d f
 go_enter Tryz.func126,Tryz.ntmps126
 go_wp2
 all_goals first
  | (go_ret;exact⟨by simp_all [CO],by simp_all;exact a.o⟩)
  | (go_ret;exact⟨by simp_all [],by first|exact a.o|(have:=a.o;simp_all)⟩)
theorem nj(e:ax)(p:Option Addr)(n c:Nat)(w:vk)(b:e.q.length=n) :
  wB wq 126 #[wD #[I O e.b,I O e.f.b,I Z e.f.h,J e.f.f,I Z e.h,I O e.op,A p n c],xS wj,xS wj,xS wg] w (ao (bu wj wj wg e) w):=by
 have a:Hid (Gc w (w.alloc (ur #[I O e.b,I O e.f.b,I Z e.f.h,J e.f.f,I Z e.h,I O e.op,A p n c] 62))):=(Fl _ w).alloc (Fj _) _;have d:Hid (e.q.isEmpty=wo (n=0)):=by
  show _=_
  rw[←b]
  cases e.q<;>rfl
 have f:Hid (bu wj wj wg e=((wj||(e.f.b==0&&e.f.h==0&&wo (e.f.f.toList=[])))&&(wj||e.h==0)&&(wg||(e.op==0&&wo (n=0))))):=by
  show _=_
  unfold bu zeroV;rw[d.o,show wo (e.f.f.toList=[])=e.f.f.data.toList.isEmpty by rw[FV,sI];exact ga _]
 rw[f.o];obtain⟨h,g,er,i,es⟩:=e;obtain⟨j,k,l⟩:=g;simp only[ax.b,ax.f,ax.h,ax.op]at a ⊢;clear b d f
 go_enter Tryz.func126,Tryz.ntmps126
 go_wp2
 all_goals first
  | (go_ret;exact⟨by simp_all [],by simp_all;exact a.o⟩)
  | (go_ret;exact⟨by simp_all [],by first|exact a.o|(have:=a.o;simp_all)⟩)
theorem rR(e:ax)(p:Option Addr)(n c:Nat)(w:vk)(b:e.q.length=n) :
  wB wq 126 #[wD #[I O e.b,I O e.f.b,I Z e.f.h,J e.f.f,I Z e.h,I O e.op,A p n c],xS wj,xS wj,xS wj] w (ao (bu wj wj wj e) w):=by
 have a:Hid (Gc w (w.alloc (ur #[I O e.b,I O e.f.b,I Z e.f.h,J e.f.f,I Z e.h,I O e.op,A p n c] 62))):=(Fl _ w).alloc (Fj _) _;have d:Hid (e.q.isEmpty=wo (n=0)):=by
  show _=_
  rw[←b]
  cases e.q<;>rfl
 have f:Hid (bu wj wj wj e=((wj||(e.f.b==0&&e.f.h==0&&wo (e.f.f.toList=[])))&&(wj||e.h==0)&&(wj||(e.op==0&&wo (n=0))))):=by
  show _=_
  unfold bu zeroV;rw[d.o,show wo (e.f.f.toList=[])=e.f.f.data.toList.isEmpty by rw[FV,sI];exact ga _]
 rw[f.o];obtain⟨h,g,er,i,es⟩:=e;obtain⟨j,k,l⟩:=g;simp only[ax.b,ax.f,ax.h,ax.op]at a ⊢;clear b d f
 go_enter Tryz.func126,Tryz.ntmps126
 go_wp2
 all_goals first
  | (go_ret;exact⟨by simp_all [CO],by simp_all;exact a.o⟩)
  | (go_ret;exact⟨by simp_all [],by first|exact a.o|(have:=a.o;simp_all)⟩)
theorem EI(p:UInt8→Bool)(l:List UInt8):l.dropWhile p=[]↔∀x∈l,p x=true:=by
 induction l with
 | nil=>simp
 | cons a l b =>
  rw[List.dropWhile_cons]
  by_cases h:p a=wg
  ·rw[r6 h,b];simp[h]
  ·rw[r5 h];simp[h]
theorem Bl(l cs:List UInt8):Lib.trimS l cs=[]↔∀x∈l,cs.contains x=true:=by
 unfold Lib.trimS Lib.trimLeftS Lib.trimRightS;have b:∀(m:List UInt8),(∀x∈(m.dropWhile (cs.contains ·)).reverse,cs.contains x=wg)↔∀x∈m,cs.contains x=true:=by
  intro m
  induction m with
  | nil=>simp
  | cons a m c =>
   rw[List.dropWhile_cons]
   by_cases h:cs.contains a=wg
   ·rw[r6 h,c];simp only[FZ,forall_eq_or_imp,h,true_and]
   ·rw[r5 h];simp only[List.mem_reverse]
 rw[EI,b];simp only[List.mem_reverse]
theorem EM(c:UInt8):dl.data.toList.contains c=isLow c:=lG c
theorem Ec(c:UInt8):fV.data.toList.contains c=(isLow c||bQ c||c==95):=ux c
theorem uf(k:Nat)(l:List UInt8)(a:k≠0):dz k l=l.all (fun c=>isLow c||bQ c||c==95):=by
 induction l generalizing k with
 | nil=>rfl
 | cons c r b =>
  unfold dz;rw[List.all_cons,b (k+1) (by omega)];unfold nameAt;rw[decide_eq_true a,Bool.true_and,Bool.or_assoc]
theorem zv(l:List UInt8):aN l=(!l.isEmpty&&wo (l.length≤24)&&(match l with | []=>wj|c::_=>dl.data.toList.contains c)&&(Lib.trimS l fV.data.toList).isEmpty):=by
 have a:(Lib.trimS l fV.data.toList).isEmpty=l.all (fun c=>isLow c||bQ c||c==95):=by
  rw[FV,List.isEmpty_iff,Bl,FW];simp only[Ec]
 rw[a];unfold aN
 cases l with
 | nil=>rfl
 | cons c r =>
  unfold dz;rw[uf 1 r (by omega),List.all_cons];simp only[EM];unfold nameAt;simp only[FU,List.isEmpty_cons]
  cases isLow c<;>cases (r.all (fun c=>isLow c||bQ c||c==95))<;>simp
theorem EU(l:List UInt8):((⟨l.toArray⟩:ByteArray).toList.isEmpty)=l.isEmpty:=by rw[FB]
theorem zn(s:ByteArray)(a:s.size≤maxLen)(W:vk):wB wq 207 #[J s,J fV] W fun e w'=>∃t:ByteArray,e=xv (J t)∧t.toList.isEmpty=(Lib.trimS s.data.toList fV.data.toList).isEmpty∧Gc W w':=
 (Any.strings_Trim_laid Tryz.lays160 (by kernel_rfl) s fV W (Fu a (by decide)) (by decide) (ascii_of_all (by decide))).mono fun e w' ⟨b,c⟩=>⟨_,b,EU _,c⟩
theorem xB(s:ByteArray)(w:vk)(f:s.size≤maxLen):wB wq 124 #[J s] w (ao (aN s.data.toList) w):=by
 rcases Nat.eq_zero_or_pos s.size with a|a
 ·have e:s.data.toList=[]:=FP (by rw[FQ];exact a);have he:s.toList.isEmpty=true:=by rw[FB,e];rfl
  have v:=Hd (show aN s.data.toList=wj by rw[e];rfl);clear e a f
  go_enter Tryz.func124,Tryz.ntmps124
  go_wp2
  go_ret;rw[v.o];exact⟨V,Fl _ _⟩
 ·have he:s.toList.isEmpty=false:=fj s a;have h:s.data.toList=s[0]::s.data.toList.drop 1:=by
   have:=drop_cons s 0 a
   simpa using this
  have j:aN s.data.toList=(wo (s.size≤24)&&hasB dl s[0]&&(Lib.trimS s.data.toList fV.data.toList).isEmpty):=by
   have d:s.data.toList.length=s.size:=FQ;rw[zv,d];generalize Lib.trimS s.data.toList fV.data.toList=u;rw[h];rfl
  have c:=Hd j;have k:=Hd ((ii dl s[0] w).mono (R':=fun e w'=>(∃i:Int,e=xv (I Z i)∧wo (0≤i)=hasB dl s[0])∧w=w') (fun e w' l=>⟨⟨_,l.1,kg _ _⟩,l.2⟩));have m:=Hd (zn s f w);clear j h f;generalize z:aN s.data.toList=x at c ⊢;clear z;generalize hu:(Lib.trimS s.data.toList fV.data.toList).isEmpty=u at c m;clear hu;generalize b:hasB dl s[0]=y at c k;clear b
  go_enter Tryz.func124,Tryz.ntmps124
  by_cases d:s.size≤24
  ·go_wp2_with (first
    | (go_at_call 206;refine Fx k.o ?_;rintro e w' ⟨⟨i,rfl,n⟩,rfl⟩;have p:=Hd n;clear n)
    | (go_at_call 207;refine Fx m.o ?_;rintro e w' ⟨t,rfl,q,r⟩;obtain⟨g,B⟩:=zz2 q r;clear q r))
   all_goals go_ret
   all_goals rw[c.o]
   ·have a:0≤i:=by assumption
    have b:=p.o;rw[decide_eq_true a]at b;rw[←b,←g.o];exact⟨by simp[d],B.o⟩
   ·have a:i<0:=by assumption
    have b:=p.o;rw[r7 (by omega)]at b;rw[←b];exact⟨by simp,Fl _ _⟩
  ·go_wp2
   go_ret;rw[c.o];exact⟨by simp[d],Fl _ _⟩
theorem wN(l:List UInt8):l.isEmpty=wo (l=[]):=by cases l<;>rfl
theorem lU(v:jy)(w:vk)(k:v.f.size≤maxLen):wB wq 60 #[wD #[I O v.b,I Z v.h,J v.f]] w (ao (gK v) w):=by
 have d:Gc w (w.alloc (ur #[I O v.b,I Z v.h,J v.f] 58)):=(Fl _ w).alloc (Fj _) _;obtain⟨a,c⟩:=zz2 d (xB v.f (w.alloc (ur #[I O v.b,I Z v.h,J v.f] 58)) k);clear d
 by_cases h:v.b=1
 ·have b:Hid (gK v=wo (v.f.toList=[])):=by
   show _=_
   unfold gK;rw[h,show wo (v.f.toList=[])=v.f.data.toList.isEmpty by rw[FV,sI];exact ga _];rfl
  rw[b.o];rw[h]at a ⊢;clear b c
  go_enter Tryz.func60,Tryz.ntmps60
  go_wp2
  all_goals (go_ret;exact⟨by simp_all [wN],by first|exact a.o|(have:=a.o;simp_all)⟩)
 by_cases f:v.b=2
 ·by_cases i:v.h=0
  ·have b:Hid (gK v=aN v.f.data.toList):=by
    show _=_
    unfold gK;rw[f,i];rfl
   rw[b.o];rw[f,i]at a c ⊢;clear b
   go_enter Tryz.func60,Tryz.ntmps60
   go_wp2_with fail
   refine c.o.mono ?_;rintro e W2 ⟨rfl,g⟩;have j:=Hd (a.o.trans (g.mono a.o.size));clear g c;go_wp2_with fail
   go_ret;exact⟨V,j.o⟩
  ·have b:Hid (gK v=wj):=by
    show _=_
    unfold gK;rw[f,show (v.h==0)=wj by simpa using i];rfl
   rw[b.o];rw[f]at a ⊢;clear b c
   go_enter Tryz.func60,Tryz.ntmps60
   go_wp2
   all_goals (go_ret;exact⟨by simp_all,by first|exact a.o|(have:=a.o;simp_all)⟩)
 ·have b:Hid (gK v=wj):=by
   show _=_
   unfold gK;rw[show (v.b==1)=wj by simpa using h,show (v.b==2)=wj by simpa using f];rfl
  rw[b.o];clear b c
  go_enter Tryz.func60,Tryz.ntmps60
  go_wp2
  all_goals (go_ret;exact⟨by simp_all,by first|exact a.o|(have:=a.o;simp_all)⟩)
theorem o0(s:ByteArray)(w:vk)(d:s.size≤maxLen):wB wq 33 #[J s] w (ao (aN s.data.toList) w):=by
 have c:Hid (wB wq 60 #[wD #[I O 2,I Z 0,J s]] w (ao (aN s.data.toList) w)):=by
  have h:=lU ⟨2,0,s⟩ w d;exact h
 go_enter Tryz.func33,Tryz.ntmps33
 go_wp2_with fail
 refine c.o.mono ?_;rintro e W2 ⟨rfl,a⟩;have b:=Hd a;clear a c;go_wp2_with fail
 go_ret;exact⟨V,b.o⟩
def jA{α:Type} (q:α→Bool):List α→Nat→Option Nat
 | [],_=>U
 | K::l,k=>if q K then Y k else jA q l (k+1)
theorem pW{α:Type}(q:α→Bool):∀(l:List α) (m k:Nat) (K:α),l[k]?=Y K→q K=wg→(∀(j:Nat) (z:α),j<k→l[j]?=Y z→q z=wj)→jA q l m=Y (m+k)
 | [],m,k,K,h,_,_=>by simp at h
 | z::l,m,0,K,h,he,_=>by
  simp only[List.getElem?_cons_zero,sx]at h;subst h;unfold jA;rw[r6 he];rfl
 | z::l,m,k+1,K,h,he,a=>by
  rw[F7]at h;have b:=a 0 z (by omega) V;unfold jA;rw[b];simp only[FO,sn];rw[pW q l (m+1) k K h he (fun j c e d=>a (j+1) c (by omega) (by rw[F7];exact d))]
  congr 1;omega
theorem nw{α:Type}(q:α→Bool):∀(l:List α) (m:Nat),(∀(j:Nat) (z:α),l[j]?=Y z→q z=wj)→jA q l m=U
 | [],m,_=>rfl
 | z::l,m,a=>by
  unfold jA;rw[a 0 z V];simp only[FO,sn];exact nw q l (m+1) (fun j b c=>a (j+1) b (by rw[F7];exact c))
theorem pz{α:Type}(f:α→Bool):∀(l:List α) (m:Nat),(jA (fun x=>!f x) l m).isSome = !(l.all f)
 | [],m=>rfl
 | z::l,m=>by
  unfold jA;rw[List.all_cons]
  cases h:f z with
  | true=>simp only[Bool.not_true,FO,sn,Bool.true_and];exact pz f l (m+1)
  | false=>simp
def zT{α:Type} (w:vk) (n:Nat) (l:List α) (q:α→Bool) (i:vn) (W:vk):Prop:=∃k:Nat,k≤n∧i=I Z (k:Int)∧Gc w W∧(∀(j:Nat) (z:α),j<k→l[j]?=Y z→q z=wj)
def ip(S:Nat) (nv:Int) (w:vk):Prop:=w.cell? ⟨S,2,U⟩=Y (I Z nv)
theorem ip.u{S:Nat}{nv:Int}{w w':vk}(h:ip S nv w)(a:Gc w w'):ip S nv w':=(a.cell (p:=⟨S,2,U⟩) (dW h)).trans h
def kL(S:Nat) (nv:Int) (d:Nat) (f:ax→Bool):Prop:=∀(e:ax) (s:vn) (w:vk),ip S nv w→f6 e→de w (fun b=>b<w.heap.size) d e.q s→
 wB wq 128 #[wF (Y ⟨S,0,U⟩),wD #[I O e.b,I O e.f.b,I Z e.f.h,J e.f.f,I Z e.h,I O e.op,s]] w (ao (f e) w)
theorem yk(S:Nat)(nv:Int)(d:Nat)(f:ax→Bool)(l:kL S nv d f)(e:ax)(s:vn)(T:Nat)(w:vk)(m:ip S nv w)(n:w.cell? ⟨T,0,U⟩=Y (wF (Y ⟨S,0,U⟩)))(g:f6 e)(j:de w (fun b=>b<w.heap.size) d e.q s) :
  wB wq 209 #[wD #[I O e.b,I O e.f.b,I Z e.f.h,J e.f.f,I Z e.h,I O e.op,s],wF (Y ⟨T,0,U⟩)] w (ao (!f e) w):=by
 obtain⟨p,c,q⟩:=bh j;have h:Gc w (w.alloc (ur #[I O e.b,I O e.f.b,I Z e.f.h,J e.f.f,I Z e.h,I O e.op,s] 62)):=(Fl _ w).alloc (Fj _) _;have v:=(h.cell (p:=⟨T,0,U⟩) (dW n)).trans n;obtain⟨r,t⟩:=zz2 (l e s _ (m.u h) g (fi (fun b (a:b<w.heap.size)=>Ft a h.size) (fb (fun b a o x=>(h.block b a).trans x) j))) h;obtain⟨u,i⟩:=zzy (e.q.length);rw[i]at q;subst q;clear h j m l g i
 go_enter Tryz.func209,Tryz.ntmps209
 go_wp2_with fail
 refine r.o.mono ?_;rintro y W2 ⟨rfl,a⟩;have k:=Hd (t.o.trans (a.mono t.o.size));clear a r;go_wp2_with fail
 go_ret;exact⟨V,k.o⟩
theorem CM(S:Nat)(nv:Int)(d:Nat)(f:ax→Bool)(hf:kL S nv d f)(l:List ax)(v:vn)(T:Nat)(w:vk)(hv:ip S nv w)(R:w.cell? ⟨T,0,U⟩=Y (wF (Y ⟨S,0,U⟩)))(P:(aM d).C w (fun b=>b<w.heap.size) l v) :
  wB wq 250 #[v,Bk (.func 209) #[] #[wF (Y ⟨T,0,U⟩)]] w (fun e w'=>e=xv (I Z (bU (jA (fun x=>!f x) l 0)))∧Gc w w'):=by
 obtain⟨p,c,X⟩:=Rd.b P;have u:=Rd.T P;subst X;obtain⟨n,hn⟩:=zzy (l.length);have HV:=Hd (fun W (D:Gc w W)=>Rd.t P (fun _ h=>h) D);have ad:=Hd (fun W (D:Gc w W)=>(D.cell (p:=⟨T,0,U⟩) (dW R)).trans R);have af:=Hd (fun W (D:Gc w W)=>hv.u D);obtain⟨q,g⟩:∃q:ax→Bool,q=fun x=>!f x:=⟨_,rfl⟩
 have ak:Hid (∀x,q x = !f x):=fun x=>by rw[g]
 rw[←g];rw[hn]at HV u ⊢;have HN:=Hd hn;have av:(n:Int)≤9223372036854775807:=by unfold maxLen at u;omega
 clear P hn R hv g u
 go_enter Tryz.func250,Tryz.ntmps250
 go_wp2
 go_loopw [8] (zT w n l q) (fun i _=>n-(intOf i).toNat)
 case atStart=>exact⟨0,FA _,V,Fl _ _,fun j z hj=>by omega⟩
 case round =>
  obtain⟨k,hk,rfl,y,E⟩:=hrel;have a1:(0:Int)≤k:=by omega
  obtain⟨HB,B⟩:=zz2 y E;clear E
  by_cases al:k<n
  ·have a6:(k:Int)<n:=by omega
   obtain⟨e,he⟩:∃e,l[k]?=Y e:=⟨_,Fq (by rw[HN.o];exact al)⟩;have m:=HV.o wr y;have F:=Rd.N m he;rw[HN.o]at F;obtain⟨b,off,cap,vs,aq,_,_,_,_,G,a⟩:=F;rw[eW]at a;injection aq with e1 _ e3
   subst e1;subst e3;obtain⟨r,s,rfl,C⟩:=ey.1 G;have ar:=bh C;obtain⟨ps,H,hs⟩:=ar;obtain⟨Q,K⟩:=zzy (e.q.length);rw[K]at hs;subst hs;have c0:wr.cell? ⟨b,off+k*7,U⟩=Y (I O e.b):=a 0 _ V;have c1:wr.cell? ⟨b,off+k*7+1,U⟩=Y (I O e.f.b):=a 1 _ V;have c2:wr.cell? ⟨b,off+k*7+2,U⟩=Y (I Z e.f.h):=a 2 _ V;have c3:wr.cell? ⟨b,off+k*7+3,U⟩=Y (J e.f.f):=a 3 _ V;have c4:wr.cell? ⟨b,off+k*7+4,U⟩=Y (I Z e.h):=a 4 _ V;have c5:wr.cell? ⟨b,off+k*7+5,U⟩=Y (I O e.op):=a 5 _ V;have c6:wr.cell? ⟨b,off+k*7+6,U⟩=Y (A ps Q H):=a 6 _ V;have HK:=Hd (yk S nv d f hf e (A ps Q H) T wr (af.o wr y) (ad.o wr y) r (fi (fun b (h:b<w.heap.size)=>Ft h y.size) C));have L:Hid (l[k]?=Y e):=he;rw[←ak.o e]at HK;clear m G a he y r C K;go_wp2_with fail
   refine HK.o.mono ?_;rintro e2 w1 ⟨rfl,M⟩;have N:=Hd (HB.o.trans (M.mono HB.o.size));clear M c0 c1 c2 c3 c4 c5 c6
   cases g:q e with
   | true =>
    have HH:=Hd (pW q l 0 k e L.o g B.o);clear g;go_wp2_with fail
    go_ret;exact⟨by rw[HH.o,Nat.zero_add];rfl,N.o⟩
   | false =>
    have HQ:=Hd g;clear g;go_wp2_with fail
    exact⟨⟨k+1,by omega,by go_num,N.o,fun j z hj t=>by
     by_cases h:j=k
     ·subst h;rw[L.o]at t;injection t with t
      rw[←t];exact HQ.o
     ·exact B.o j z (by omega) t⟩,by simp[intOf];omega⟩
  ·have HH:Hid (jA q l 0=U):=nw _ l 0 (fun j z t=>B.o j z (by
    have:=(FD.1 t).1;rw[HN.o]at this
    omega) t)
   clear y;go_wp2_with fail
   go_ret;exact⟨by rw[HH.o];rfl,HB.o⟩
theorem AL(S:Nat)(nv:Int)(d:Nat)(f:ax→Bool)(q:kL S nv d f)(l:List ax)(v:vn)(T:Nat)(w:vk)(r:ip S nv w)(s:w.cell? ⟨T,0,U⟩=Y (wF (Y ⟨S,0,U⟩)))(j:(aM d).C w (fun b=>b<w.heap.size) l v) :
  wB wq 208 #[v,Bk (.func 209) #[] #[wF (Y ⟨T,0,U⟩)]] w (ao (!(l.all f)) w):=by
 have g:=Hd (CM S nv d f q l v T w r s j);rw[←pz f l 0];obtain⟨p,c,h⟩:=Rd.b j;obtain⟨n,t⟩:=zzy (l.length);rw[t]at h;subst h;clear j s r q t
 cases i:jA (fun x=>!f x) l 0 with
 | none =>
  rw[i]at g;have g:Hid (wB wq 250 #[A p n c,Bk (.func 209) #[] #[wF (Y ⟨T,0,U⟩)]] w (fun e w'=>e=xv (I Z (-1))∧Gc w w')):=g;clear i
  go_enter Tryz.func208,Tryz.ntmps208
  go_wp2_with fail
  refine g.o.mono ?_;rintro e w1 ⟨rfl,a⟩;have m:=Hd a;clear a g;go_wp2_with fail
  go_ret;exact⟨V,m.o⟩
 | some k =>
  rw[i]at g;have g:Hid (wB wq 250 #[A p n c,Bk (.func 209) #[] #[wF (Y ⟨T,0,U⟩)]] w (fun e w'=>e=xv (I Z (k:Int))∧Gc w w')):=g;have u:(0:Int)≤k:=by omega
  clear i
  go_enter Tryz.func208,Tryz.ntmps208
  go_wp2_with fail
  refine g.o.mono ?_;rintro e w1 ⟨rfl,a⟩;have m:=Hd a;clear a g;go_wp2_with fail
  go_ret;exact⟨V,m.o⟩
theorem lD(S:Nat)(nv:Int)(d:Nat)(f:ax→Bool)(m:kL S nv d f)(l:List ax)(v:vn)(w:vk)(q:ip S nv w)(j:(aM d).C w (fun b=>b<w.heap.size) l v) :
  wB wq 130 #[wF (Y ⟨S,0,U⟩),v] w (ao (l.all f) w):=by
 have u:∀(fn:Fn) (first cap:Array vn) (w:vk),(Instr.makeFunc fn first cap).run wq w=.ok (Bk fn first cap) w:=fun _ _ _ _=>rfl
 have a:Gc w (w.alloc (ur #[wF (Y ⟨S,0,U⟩)] 92)):=(Fl _ w).alloc (Fj _) _;obtain⟨r,s⟩:=zz2 (AL S nv d f m l v w.heap.size _ (q.u a) (cell_new1 w _ _) (Rd.q (fun b (h:b<w.heap.size)=>Ft h a.size) (Rd.t j (fun _ h=>h) a))) a;obtain⟨p,c,g⟩:=Rd.b j;obtain⟨n,t⟩:=zzy (l.length);rw[t]at g;subst g;clear a j q m t
 go_enter Tryz.func130,Tryz.ntmps130
 go_wp2_with fail
 refine r.o.mono ?_;rintro e w1 ⟨rfl,i⟩;have k:=Hd (s.o.trans (i.mono s.o.size));clear i r;go_wp2_with fail
 go_ret;exact⟨by simp,k.o⟩
