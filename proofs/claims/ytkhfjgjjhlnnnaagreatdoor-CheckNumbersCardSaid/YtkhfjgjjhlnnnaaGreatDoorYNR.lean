/- Parts of one proof, joined; conditions stand in each theorem. -/
import Derived.Test.YtkhfjgjjhlnnnaaGreatDoorYNO
import Derived.Test.YtkhfjgjjhlnnnaaGreatDoorYNA0
import Derived.Test.YtkhfjgjjhlnnnaaGreatDoorYMD
import Derived.Shelf.Strings.SlTrimAscii
open Decidable renaming decide→xv
open Go renaming World→wD,Calls→xL,Value→wF
open Go.Proofs.Tryz renaming prog→xD
open Go.Value renaming agg→xS,int→I,string→J,slice→A,bool→AJ,pointer→xV,func→CF
open Go.IntKind renaming u8→O,i64→Z
open Bool renaming true→wP,false→xj
open Go.Obj renaming cells→wq
open Go.Ending renaming returned→z8
open Option renaming none→U,some→Y
namespace Go.Proofs.YtkhfjgjjhlnnnaaGreatDoor
set_option maxHeartbeats 4000000
set_option maxRecDepth 100000
open Go.RowKit
def bs(a b c:Bool) (e:aw):Bool:=(a||zeroV e.f)&&(b||e.h==0)&&(c||(e.op==0&&e.u.isEmpty))
theorem gd(t:ByteArray):(t.toList=[])↔t.data.toList.isEmpty=true:=by rw[Fb,List.isEmpty_iff]
theorem Cu(n:Nat):((n:Int)==0)=xv (n=0):=by rw[Fw];simp
theorem zN(e:aw)(p:Option Addr)(n c:Nat)(w:wD)(b:e.u.length=n) :
  xL xD 126 #[xS #[I O e.b,I O e.f.b,I Z e.f.h,J e.f.f,I Z e.h,I O e.op,A p n c],AJ wP,AJ xj,AJ xj] w (am (bs wP xj xj e) w):=by
 have a:Hid (FK w (w.alloc (wq #[I O e.b,I O e.f.b,I Z e.f.h,J e.f.f,I Z e.h,I O e.op,A p n c] 62))):=(EP _ w).alloc (EO _) _;have d:Hid (e.u.isEmpty=xv (n=0)):=by
  show _=_
  rw[←b]
  cases e.u<;>rfl
 have f:Hid (bs wP xj xj e=((wP||(e.f.b==0&&e.f.h==0&&xv (e.f.f.toList=[])))&&(xj||e.h==0)&&(xj||(e.op==0&&xv (n=0))))):=by
  show _=_
  unfold bs zeroV;rw[d.o,show xv (e.f.f.toList=[])=e.f.f.data.toList.isEmpty by rw[Fw,sy];exact gd _]
 rw[f.o];obtain⟨h,g,er,i,es⟩:=e;obtain⟨j,k,l⟩:=g;simp only[aw.b,aw.f,aw.h,aw.op]at a ⊢;clear b d f
 go_enter Tryz.func126,Tryz.ntmps126
 go_wp2
 all_goals first
  | (go_ret;exact⟨by simp_all [Cu],by simp_all;exact a.o⟩)
  | (go_ret;exact⟨by simp_all [],by first|exact a.o|(have:=a.o;simp_all)⟩)
theorem Bq(e:aw)(p:Option Addr)(n c:Nat)(w:wD)(b:e.u.length=n) :
  xL xD 126 #[xS #[I O e.b,I O e.f.b,I Z e.f.h,J e.f.f,I Z e.h,I O e.op,A p n c],AJ xj,AJ wP,AJ xj] w (am (bs xj wP xj e) w):=by
 have a:Hid (FK w (w.alloc (wq #[I O e.b,I O e.f.b,I Z e.f.h,J e.f.f,I Z e.h,I O e.op,A p n c] 62))):=(EP _ w).alloc (EO _) _;have d:Hid (e.u.isEmpty=xv (n=0)):=by
  show _=_
  rw[←b]
  cases e.u<;>rfl
 have f:Hid (bs xj wP xj e=((xj||(e.f.b==0&&e.f.h==0&&xv (e.f.f.toList=[])))&&(wP||e.h==0)&&(xj||(e.op==0&&xv (n=0))))):=by
  show _=_
  unfold bs zeroV;rw[d.o,show xv (e.f.f.toList=[])=e.f.f.data.toList.isEmpty by rw[Fw,sy];exact gd _]
 rw[f.o];obtain⟨h,g,er,i,es⟩:=e;obtain⟨j,k,l⟩:=g;simp only[aw.b,aw.f,aw.h,aw.op]at a ⊢;clear b d f
 go_enter Tryz.func126,Tryz.ntmps126
 go_wp2
 all_goals first
  | (go_ret;exact⟨by simp_all [Cu],by simp_all;exact a.o⟩)
  | (go_ret;exact⟨by simp_all [],by first|exact a.o|(have:=a.o;simp_all)⟩)
theorem ny(e:aw)(p:Option Addr)(n c:Nat)(w:wD)(b:e.u.length=n) :
  xL xD 126 #[xS #[I O e.b,I O e.f.b,I Z e.f.h,J e.f.f,I Z e.h,I O e.op,A p n c],AJ xj,AJ xj,AJ wP] w (am (bs xj xj wP e) w):=by
 have a:Hid (FK w (w.alloc (wq #[I O e.b,I O e.f.b,I Z e.f.h,J e.f.f,I Z e.h,I O e.op,A p n c] 62))):=(EP _ w).alloc (EO _) _;have d:Hid (e.u.isEmpty=xv (n=0)):=by
  show _=_
  rw[←b]
  cases e.u<;>rfl
 have f:Hid (bs xj xj wP e=((xj||(e.f.b==0&&e.f.h==0&&xv (e.f.f.toList=[])))&&(xj||e.h==0)&&(wP||(e.op==0&&xv (n=0))))):=by
  show _=_
  unfold bs zeroV;rw[d.o,show xv (e.f.f.toList=[])=e.f.f.data.toList.isEmpty by rw[Fw,sy];exact gd _]
 rw[f.o];obtain⟨h,g,er,i,es⟩:=e;obtain⟨j,k,l⟩:=g;simp only[aw.b,aw.f,aw.h,aw.op]at a ⊢;clear b d f
 go_enter Tryz.func126,Tryz.ntmps126
 go_wp2
 all_goals first
  | (go_ret;exact⟨by simp_all [],by simp_all;exact a.o⟩)
  | (go_ret;exact⟨by simp_all [],by first|exact a.o|(have:=a.o;simp_all)⟩)
theorem rU(e:aw)(p:Option Addr)(n c:Nat)(w:wD)(b:e.u.length=n) :
  xL xD 126 #[xS #[I O e.b,I O e.f.b,I Z e.f.h,J e.f.f,I Z e.h,I O e.op,A p n c],AJ xj,AJ xj,AJ xj] w (am (bs xj xj xj e) w):=by
 have a:Hid (FK w (w.alloc (wq #[I O e.b,I O e.f.b,I Z e.f.h,J e.f.f,I Z e.h,I O e.op,A p n c] 62))):=(EP _ w).alloc (EO _) _;have d:Hid (e.u.isEmpty=xv (n=0)):=by
  show _=_
  rw[←b]
  cases e.u<;>rfl
 have f:Hid (bs xj xj xj e=((xj||(e.f.b==0&&e.f.h==0&&xv (e.f.f.toList=[])))&&(xj||e.h==0)&&(xj||(e.op==0&&xv (n=0))))):=by
  show _=_
  unfold bs zeroV;rw[d.o,show xv (e.f.f.toList=[])=e.f.f.data.toList.isEmpty by rw[Fw,sy];exact gd _]
 rw[f.o];obtain⟨h,g,er,i,es⟩:=e;obtain⟨j,k,l⟩:=g;simp only[aw.b,aw.f,aw.h,aw.op]at a ⊢;clear b d f
 go_enter Tryz.func126,Tryz.ntmps126
 go_wp2
 all_goals first
  | (go_ret;exact⟨by simp_all [Cu],by simp_all;exact a.o⟩)
  | (go_ret;exact⟨by simp_all [],by first|exact a.o|(have:=a.o;simp_all)⟩)
theorem El(p:UInt8→Bool)(l:List UInt8):l.dropWhile p=[]↔∀x∈l,p x=true:=by
 induction l with
 | nil=>simp
 | cons a l b =>
  rw[List.dropWhile_cons]
  by_cases h:p a=wP
  ·rw[rv h,b];simp[h]
  ·rw[qv h];simp[h]
theorem A9(l cs:List UInt8):Lib.trimS l cs=[]↔∀x∈l,cs.contains x=true:=by
 unfold Lib.trimS Lib.trimLeftS Lib.trimRightS;have b:∀(m:List UInt8),(∀x∈(m.dropWhile (cs.contains ·)).reverse,cs.contains x=wP)↔∀x∈m,cs.contains x=true:=by
  intro m
  induction m with
  | nil=>simp
  | cons a m c =>
   rw[List.dropWhile_cons]
   by_cases h:cs.contains a=wP
   ·rw[rv h,c];simp only[FA,forall_eq_or_imp,h,true_and]
   ·rw[qv h];simp only[List.mem_reverse]
 rw[El,b];simp only[List.mem_reverse]
theorem Ep(c:UInt8):dj.data.toList.contains c=isLow c:=lM c
theorem DN(c:UInt8):fY.data.toList.contains c=(isLow c||bN c||c==95):=uu c
theorem ud(k:Nat)(l:List UInt8)(a:k≠0):dx k l=l.all (fun c=>isLow c||bN c||c==95):=by
 induction l generalizing k with
 | nil=>rfl
 | cons c r b =>
  unfold dx;rw[List.all_cons,b (k+1) (by omega)];unfold nameAt;rw[decide_eq_true a,Bool.true_and,Bool.or_assoc]
theorem zm(l:List UInt8):aN l=(!l.isEmpty&&xv (l.length≤24)&&(match l with | []=>xj|c::_=>dj.data.toList.contains c)&&(Lib.trimS l fY.data.toList).isEmpty):=by
 have a:(Lib.trimS l fY.data.toList).isEmpty=l.all (fun c=>isLow c||bN c||c==95):=by
  rw[Fw,List.isEmpty_iff,A9,Fx];simp only[DN]
 rw[a];unfold aN
 cases l with
 | nil=>rfl
 | cons c r =>
  unfold dx;rw[ud 1 r (by omega),List.all_cons];simp only[Ep];unfold nameAt;simp only[Fv,List.isEmpty_cons]
  cases isLow c<;>cases (r.all (fun c=>isLow c||bN c||c==95))<;>simp
theorem EA(l:List UInt8):((⟨l.toArray⟩:ByteArray).toList.isEmpty)=l.isEmpty:=by rw[Fb]
theorem zf(s:ByteArray)(a:s.size≤maxLen)(W:wD):xL xD 207 #[J s,J fY] W fun e w'=>∃t:ByteArray,e=z8 (J t)∧t.toList.isEmpty=(Lib.trimS s.data.toList fY.data.toList).isEmpty∧FK W w':=
 (Any.strings_Trim_laid Tryz.lays160 (by kernel_rfl) s fY W (EU a (by decide)) (by decide) (ascii_of_all (by decide))).mono fun e w' ⟨b,c⟩=>⟨_,b,EA _,c⟩
theorem xA(s:ByteArray)(w:wD)(f:s.size≤maxLen):xL xD 124 #[J s] w (am (aN s.data.toList) w):=by
 rcases Nat.eq_zero_or_pos s.size with a|a
 ·have e:s.data.toList=[]:=Fp (by rw[Fq];exact a);have he:s.toList.isEmpty=true:=by rw[Fb,e];rfl
  have v:=Hd (show aN s.data.toList=xj by rw[e];rfl);clear e a f
  go_enter Tryz.func124,Tryz.ntmps124
  go_wp2
  go_ret;rw[v.o];exact⟨V,EP _ _⟩
 ·have he:s.toList.isEmpty=false:=fq s a;have h:s.data.toList=s[0]::s.data.toList.drop 1:=by
   have:=drop_cons s 0 a
   simpa using this
  have j:aN s.data.toList=(xv (s.size≤24)&&hasB dj s[0]&&(Lib.trimS s.data.toList fY.data.toList).isEmpty):=by
   have d:s.data.toList.length=s.size:=Fq;rw[zm,d];generalize Lib.trimS s.data.toList fY.data.toList=u;rw[h];rfl
  have c:=Hd j;have k:=Hd ((ik dj s[0] w).mono (R':=fun e w'=>(∃i:Int,e=z8 (I Z i)∧xv (0≤i)=hasB dj s[0])∧w=w') (fun e w' l=>⟨⟨_,l.1,km _ _⟩,l.2⟩));have m:=Hd (zf s f w);clear j h f;generalize z:aN s.data.toList=x at c ⊢;clear z;generalize hu:(Lib.trimS s.data.toList fY.data.toList).isEmpty=u at c m;clear hu;generalize b:hasB dj s[0]=y at c k;clear b
  go_enter Tryz.func124,Tryz.ntmps124
  by_cases d:s.size≤24
  ·go_wp2_with (first
    | (go_at_call 206;refine EX k.o ?_;rintro e w' ⟨⟨i,rfl,n⟩,rfl⟩;have p:=Hd n;clear n)
    | (go_at_call 207;refine EX m.o ?_;rintro e w' ⟨t,rfl,q,r⟩;obtain⟨g,B⟩:=zz2 q r;clear q r))
   all_goals go_ret
   all_goals rw[c.o]
   ·have a:0≤i:=by assumption
    have b:=p.o;rw[decide_eq_true a]at b;rw[←b,←g.o];exact⟨by simp[d],B.o⟩
   ·have a:i<0:=by assumption
    have b:=p.o;rw[r6 (by omega)]at b;rw[←b];exact⟨by simp,EP _ _⟩
  ·go_wp2
   go_ret;rw[c.o];exact⟨by simp[d],EP _ _⟩
theorem wK(l:List UInt8):l.isEmpty=xv (l=[]):=by cases l<;>rfl
theorem lY(v:jA)(w:wD)(k:v.f.size≤maxLen):xL xD 60 #[xS #[I O v.b,I Z v.h,J v.f]] w (am (gP v) w):=by
 have d:FK w (w.alloc (wq #[I O v.b,I Z v.h,J v.f] 58)):=(EP _ w).alloc (EO _) _;obtain⟨a,c⟩:=zz2 d (xA v.f (w.alloc (wq #[I O v.b,I Z v.h,J v.f] 58)) k);clear d
 by_cases h:v.b=1
 ·have b:Hid (gP v=xv (v.f.toList=[])):=by
   show _=_
   unfold gP;rw[h,show xv (v.f.toList=[])=v.f.data.toList.isEmpty by rw[Fw,sy];exact gd _];rfl
  rw[b.o];rw[h]at a ⊢;clear b c
  go_enter Tryz.func60,Tryz.ntmps60
  go_wp2
  all_goals (go_ret;exact⟨by simp_all [wK],by first|exact a.o|(have:=a.o;simp_all)⟩)
 by_cases f:v.b=2
 ·by_cases i:v.h=0
  ·have b:Hid (gP v=aN v.f.data.toList):=by
    show _=_
    unfold gP;rw[f,i];rfl
   rw[b.o];rw[f,i]at a c ⊢;clear b
   go_enter Tryz.func60,Tryz.ntmps60
   go_wp2_with fail
   refine c.o.mono ?_;rintro e W2 ⟨rfl,g⟩;have j:=Hd (a.o.trans (g.mono a.o.size));clear g c;go_wp2_with fail
   go_ret;exact⟨V,j.o⟩
  ·have b:Hid (gP v=xj):=by
    show _=_
    unfold gP;rw[f,show (v.h==0)=xj by simpa using i];rfl
   rw[b.o];rw[f]at a ⊢;clear b c
   go_enter Tryz.func60,Tryz.ntmps60
   go_wp2
   all_goals (go_ret;exact⟨by simp_all,by first|exact a.o|(have:=a.o;simp_all)⟩)
 ·have b:Hid (gP v=xj):=by
   show _=_
   unfold gP;rw[show (v.b==1)=xj by simpa using h,show (v.b==2)=xj by simpa using f];rfl
  rw[b.o];clear b c
  go_enter Tryz.func60,Tryz.ntmps60
  go_wp2
  all_goals (go_ret;exact⟨by simp_all,by first|exact a.o|(have:=a.o;simp_all)⟩)
theorem pg(s:ByteArray)(w:wD)(d:s.size≤maxLen):xL xD 33 #[J s] w (am (aN s.data.toList) w):=by
 have c:Hid (xL xD 60 #[xS #[I O 2,I Z 0,J s]] w (am (aN s.data.toList) w)):=by
  have h:=lY ⟨2,0,s⟩ w d;exact h
 go_enter Tryz.func33,Tryz.ntmps33
 go_wp2_with fail
 refine c.o.mono ?_;rintro e W2 ⟨rfl,a⟩;have b:=Hd a;clear a c;go_wp2_with fail
 go_ret;exact⟨V,b.o⟩
def jC{α:Type} (q:α→Bool):List α→Nat→Option Nat
 | [],_=>U
 | K::l,k=>if q K then Y k else jC q l (k+1)
theorem qe{α:Type}(q:α→Bool):∀(l:List α) (m k:Nat) (K:α),l[k]?=Y K→q K=wP→(∀(j:Nat) (z:α),j<k→l[j]?=Y z→q z=xj)→jC q l m=Y (m+k)
 | [],m,k,K,h,_,_=>by simp at h
 | z::l,m,0,K,h,he,_=>by
  simp only[List.getElem?_cons_zero,ss]at h;subst h;unfold jC;rw[rv he];rfl
 | z::l,m,k+1,K,h,he,a=>by
  rw[FC]at h;have b:=a 0 z (by omega) V;unfold jC;rw[b];simp only[Fo,sm];rw[qe q l (m+1) k K h he (fun j c e d=>a (j+1) c (by omega) (by rw[FC];exact d))]
  congr 1;omega
theorem nE{α:Type}(q:α→Bool):∀(l:List α) (m:Nat),(∀(j:Nat) (z:α),l[j]?=Y z→q z=xj)→jC q l m=U
 | [],m,_=>rfl
 | z::l,m,a=>by
  unfold jC;rw[a 0 z V];simp only[Fo,sm];exact nE q l (m+1) (fun j b c=>a (j+1) b (by rw[FC];exact c))
theorem pF{α:Type}(f:α→Bool):∀(l:List α) (m:Nat),(jC (fun x=>!f x) l m).isSome = !(l.all f)
 | [],m=>rfl
 | z::l,m=>by
  unfold jC;rw[List.all_cons]
  cases h:f z with
  | true=>simp only[Bool.not_true,Fo,sm,Bool.true_and];exact pF f l (m+1)
  | false=>simp
def zM{α:Type} (w:wD) (n:Nat) (l:List α) (q:α→Bool) (i:wF) (W:wD):Prop:=∃k:Nat,k≤n∧i=I Z (k:Int)∧FK w W∧(∀(j:Nat) (z:α),j<k→l[j]?=Y z→q z=xj)
def ir(S:Nat) (nv:Int) (w:wD):Prop:=w.cell? ⟨S,2,U⟩=Y (I Z nv)
theorem ir.z{S:Nat}{nv:Int}{w w':wD}(h:ir S nv w)(a:FK w w'):ir S nv w':=(a.cell (p:=⟨S,2,U⟩) (dW h)).trans h
def kP(S:Nat) (nv:Int) (d:Nat) (f:aw→Bool):Prop:=∀(e:aw) (s:wF) (w:wD),ir S nv w→ga e→cZ w (fun b=>b<w.heap.size) d e.u s→
 xL xD 128 #[xV (Y ⟨S,0,U⟩),xS #[I O e.b,I O e.f.b,I Z e.f.h,J e.f.f,I Z e.h,I O e.op,s]] w (am (f e) w)
theorem yh(S:Nat)(nv:Int)(d:Nat)(f:aw→Bool)(l:kP S nv d f)(e:aw)(s:wF)(T:Nat)(w:wD)(m:ir S nv w)(n:w.cell? ⟨T,0,U⟩=Y (xV (Y ⟨S,0,U⟩)))(g:ga e)(j:cZ w (fun b=>b<w.heap.size) d e.u s) :
  xL xD 209 #[xS #[I O e.b,I O e.f.b,I Z e.f.h,J e.f.f,I Z e.h,I O e.op,s],xV (Y ⟨T,0,U⟩)] w (am (!f e) w):=by
 obtain⟨p,c,q⟩:=bg j;have h:FK w (w.alloc (wq #[I O e.b,I O e.f.b,I Z e.f.h,J e.f.f,I Z e.h,I O e.op,s] 62)):=(EP _ w).alloc (EO _) _;have v:=(h.cell (p:=⟨T,0,U⟩) (dW n)).trans n;obtain⟨r,t⟩:=zz2 (l e s _ (m.z h) g (fo (fun b (a:b<w.heap.size)=>ET a h.size) (fc (fun b a o x=>(h.block b a).trans x) j))) h;obtain⟨u,i⟩:=zzy (e.u.length);rw[i]at q;subst q;clear h j m l g i
 go_enter Tryz.func209,Tryz.ntmps209
 go_wp2_with fail
 refine r.o.mono ?_;rintro y W2 ⟨rfl,a⟩;have k:=Hd (t.o.trans (a.mono t.o.size));clear a r;go_wp2_with fail
 go_ret;exact⟨V,k.o⟩
theorem Cs(S:Nat)(nv:Int)(d:Nat)(f:aw→Bool)(hf:kP S nv d f)(l:List aw)(v:wF)(T:Nat)(w:wD)(hv:ir S nv w)(R:w.cell? ⟨T,0,U⟩=Y (xV (Y ⟨S,0,U⟩)))(P:(aL d).K w (fun b=>b<w.heap.size) l v) :
  xL xD 250 #[v,CF (.func 209) #[] #[xV (Y ⟨T,0,U⟩)]] w (fun e w'=>e=z8 (I Z (bP (jC (fun x=>!f x) l 0)))∧FK w w'):=by
 obtain⟨p,c,X⟩:=Rd.b P;have u:=Rd.tT P;subst X;obtain⟨n,hn⟩:=zzy (l.length);have HV:=Hd (fun W (D:FK w W)=>Rd.X P (fun _ h=>h) D);have ad:=Hd (fun W (D:FK w W)=>(D.cell (p:=⟨T,0,U⟩) (dW R)).trans R);have af:=Hd (fun W (D:FK w W)=>hv.z D);obtain⟨q,g⟩:∃q:aw→Bool,q=fun x=>!f x:=⟨_,rfl⟩
 have ak:Hid (∀x,q x = !f x):=fun x=>by rw[g]
 rw[←g];rw[hn]at HV u ⊢;have HN:=Hd hn;have av:(n:Int)≤9223372036854775807:=by unfold maxLen at u;omega
 clear P hn R hv g u
 go_enter Tryz.func250,Tryz.ntmps250
 go_wp2
 go_loopw [8] (zM w n l q) (fun i _=>n-(intOf i).toNat)
 case atStart=>exact⟨0,Fa _,V,EP _ _,fun j z hj=>by omega⟩
 case round =>
  obtain⟨k,hk,rfl,y,E⟩:=hrel;have a1:(0:Int)≤k:=by omega
  obtain⟨HB,B⟩:=zz2 y E;clear E
  by_cases al:k<n
  ·have a6:(k:Int)<n:=by omega
   obtain⟨e,he⟩:∃e,l[k]?=Y e:=⟨_,ES (by rw[HN.o];exact al)⟩;have m:=HV.o wr y;have F:=Rd.tS m he;rw[HN.o]at F;obtain⟨b,off,cap,vs,aq,_,_,_,_,G,a⟩:=F;rw[eU]at a;injection aq with e1 _ e3
   subst e1;subst e3;obtain⟨r,s,rfl,C⟩:=ey.1 G;have ar:=bg C;obtain⟨ps,H,hs⟩:=ar;obtain⟨Q,K⟩:=zzy (e.u.length);rw[K]at hs;subst hs;have c0:wr.cell? ⟨b,off+k*7,U⟩=Y (I O e.b):=a 0 _ V;have c1:wr.cell? ⟨b,off+k*7+1,U⟩=Y (I O e.f.b):=a 1 _ V;have c2:wr.cell? ⟨b,off+k*7+2,U⟩=Y (I Z e.f.h):=a 2 _ V;have c3:wr.cell? ⟨b,off+k*7+3,U⟩=Y (J e.f.f):=a 3 _ V;have c4:wr.cell? ⟨b,off+k*7+4,U⟩=Y (I Z e.h):=a 4 _ V;have c5:wr.cell? ⟨b,off+k*7+5,U⟩=Y (I O e.op):=a 5 _ V;have c6:wr.cell? ⟨b,off+k*7+6,U⟩=Y (A ps Q H):=a 6 _ V;have HK:=Hd (yh S nv d f hf e (A ps Q H) T wr (af.o wr y) (ad.o wr y) r (fo (fun b (h:b<w.heap.size)=>ET h y.size) C));have L:Hid (l[k]?=Y e):=he;rw[←ak.o e]at HK;clear m G a he y r C K;go_wp2_with fail
   refine HK.o.mono ?_;rintro e2 w1 ⟨rfl,M⟩;have N:=Hd (HB.o.trans (M.mono HB.o.size));clear M c0 c1 c2 c3 c4 c5 c6
   cases g:q e with
   | true =>
    have HH:=Hd (qe q l 0 k e L.o g B.o);clear g;go_wp2_with fail
    go_ret;exact⟨by rw[HH.o,Nat.zero_add];rfl,N.o⟩
   | false =>
    have HQ:=Hd g;clear g;go_wp2_with fail
    exact⟨⟨k+1,by omega,by go_num,N.o,fun j z hj t=>by
     by_cases h:j=k
     ·subst h;rw[L.o]at t;injection t with t
      rw[←t];exact HQ.o
     ·exact B.o j z (by omega) t⟩,by simp[intOf];omega⟩
  ·have HH:Hid (jC q l 0=U):=nE _ l 0 (fun j z t=>B.o j z (by
    have:=(Fe.1 t).1;rw[HN.o]at this
    omega) t)
   clear y;go_wp2_with fail
   go_ret;exact⟨by rw[HH.o];rfl,HB.o⟩
theorem AA(S:Nat)(nv:Int)(d:Nat)(f:aw→Bool)(q:kP S nv d f)(l:List aw)(v:wF)(T:Nat)(w:wD)(r:ir S nv w)(s:w.cell? ⟨T,0,U⟩=Y (xV (Y ⟨S,0,U⟩)))(j:(aL d).K w (fun b=>b<w.heap.size) l v) :
  xL xD 208 #[v,CF (.func 209) #[] #[xV (Y ⟨T,0,U⟩)]] w (am (!(l.all f)) w):=by
 have g:=Hd (Cs S nv d f q l v T w r s j);rw[←pF f l 0];obtain⟨p,c,h⟩:=Rd.b j;obtain⟨n,t⟩:=zzy (l.length);rw[t]at h;subst h;clear j s r q t
 cases i:jC (fun x=>!f x) l 0 with
 | none =>
  rw[i]at g;have g:Hid (xL xD 250 #[A p n c,CF (.func 209) #[] #[xV (Y ⟨T,0,U⟩)]] w (fun e w'=>e=z8 (I Z (-1))∧FK w w')):=g;clear i
  go_enter Tryz.func208,Tryz.ntmps208
  go_wp2_with fail
  refine g.o.mono ?_;rintro e w1 ⟨rfl,a⟩;have m:=Hd a;clear a g;go_wp2_with fail
  go_ret;exact⟨V,m.o⟩
 | some k =>
  rw[i]at g;have g:Hid (xL xD 250 #[A p n c,CF (.func 209) #[] #[xV (Y ⟨T,0,U⟩)]] w (fun e w'=>e=z8 (I Z (k:Int))∧FK w w')):=g;have u:(0:Int)≤k:=by omega
  clear i
  go_enter Tryz.func208,Tryz.ntmps208
  go_wp2_with fail
  refine g.o.mono ?_;rintro e w1 ⟨rfl,a⟩;have m:=Hd a;clear a g;go_wp2_with fail
  go_ret;exact⟨V,m.o⟩
theorem lJ(S:Nat)(nv:Int)(d:Nat)(f:aw→Bool)(m:kP S nv d f)(l:List aw)(v:wF)(w:wD)(q:ir S nv w)(j:(aL d).K w (fun b=>b<w.heap.size) l v) :
  xL xD 130 #[xV (Y ⟨S,0,U⟩),v] w (am (l.all f) w):=by
 have u:∀(fn:Fn) (first cap:Array wF) (w:wD),(Instr.makeFunc fn first cap).run xD w=.ok (CF fn first cap) w:=fun _ _ _ _=>rfl
 have a:FK w (w.alloc (wq #[xV (Y ⟨S,0,U⟩)] 92)):=(EP _ w).alloc (EO _) _;obtain⟨r,s⟩:=zz2 (AA S nv d f m l v w.heap.size _ (q.z a) (cell_new1 w _ _) (Rd.y (fun b (h:b<w.heap.size)=>ET h a.size) (Rd.X j (fun _ h=>h) a))) a;obtain⟨p,c,g⟩:=Rd.b j;obtain⟨n,t⟩:=zzy (l.length);rw[t]at g;subst g;clear a j q m t
 go_enter Tryz.func130,Tryz.ntmps130
 go_wp2_with fail
 refine r.o.mono ?_;rintro e w1 ⟨rfl,i⟩;have k:=Hd (s.o.trans (i.mono s.o.size));clear i r;go_wp2_with fail
 go_ret;exact⟨by simp,k.o⟩
