/- Parts of one proof, joined; conditions stand in each theorem. -/
import Derived.Test.YtoahnjkclckodaaGreatDoorMB
import Derived.StillTailTactics
import Derived.Test.YtoahnjkclckodaaGreatDoorMA
import Derived.Laws.OwnMore
import Derived.Deep.DeepAppendRoom
import Derived.Deep.QuietTactic
import Derived.BigQuiet
open Decidable renaming decide→wj
open Go renaming World→J,Value→tS
open Go.Value renaming slice→O,int→I,string→r9,agg→wP,bool→xt
open Option renaming some→A,none→Y
open Go.IntKind renaming u8→r8,i64→U
open Go.Ending renaming returned→wg
namespace Go.Proofs.YtoahnjkclckodaaGreatDoor
open Go.RowKit
def nameAt(k:Nat) (c:UInt8):Bool:=isLow c||(wj (k≠0)&&(bY c||c==95))
def iL(k:Nat):List UInt8→Bool
 | []=>true
 | c::r=>nameAt k c&&iL (k+1) r
def cL(l:List UInt8):Bool:=iL 0 l&&wj (1≤l.length)&&wj (l.length≤24)
inductive ac where
 | mk (kind:Nat) (text:ByteArray) (num place:Int) (kids:List ac)
def ac.q:ac→Nat | .mk k _ _ _ _=>k
def ac.h:ac→ByteArray | .mk _ t _ _ _=>t
def ac.u:ac→Int | .mk _ _ n _ _=>n
def ac.C:ac→Int | .mk _ _ _ p _=>p
def ac.z:ac→List ac | .mk _ _ _ _ l=>l
def dU:Nat→ac→Nat
 | 0,_=>1
 | d+1,T=>(T.z.map (dU d)).foldl Nat.max 0+1
def dN:Nat→ac→Nat
 | 0,_=>1
 | d+1,T=>(T.z.map (dN d)).foldl (· + ·) 1
def mW:List ByteArray:=[⟨#[111,114]⟩,⟨#[97,110,100]⟩,⟨#[61]⟩,⟨#[33,61]⟩,⟨#[60]⟩,⟨#[60,61]⟩,⟨#[62]⟩,⟨#[62,61]⟩,⟨#[43]⟩,⟨#[45]⟩,⟨#[42]⟩]
def mP:List ByteArray:=[⟨#[45]⟩,⟨#[110,111,116]⟩]
def ev(l:List ByteArray) (x:List UInt8):Bool:=l.any (fun b=>b.data.toList==x)
def strip(l:List UInt8):List UInt8:=match l with|45::r=>r|l=>l
def fH(l:List UInt8):Bool:=match l with|45::_=>true|_=>false
def nl(kind:Nat) (text:List UInt8) (kids:Nat):Bool:=
 if kind==2||kind==3||kind==4||kind==5||kind==6||kind==8 then cL text&&!jK text
 else if kind==13||kind==15 then cL text
 else if kind==14 then (number (strip text)).isSome
 else if kind==16 then (kids==1&&ev mP text)||(kids==2&&ev mW text)
 else text.isEmpty
def wQ(kind:Nat) (num:Int):Bool:=
 if kind==4 then wj (-2147483647≤num)&&wj (num≤2147483647)
 else if kind==9 then wj (0≤num)&&wj (num≤2147483647)
 else num==0
def cE(S:List Nat) (l:List ac):Bool:=l.all (fun t=>S.contains t.q)
def ej(l:List ac):Bool:=l.all (fun t=>!(t.q==14&&fH t.h.data.toList))&&cE [13,14,15,16] l
def a9(t:ac):Bool:=[5,6,7].contains t.q
def rowB(l:List ac):Bool:=cE [8,9,10,11] (l.dropWhile a9)
def gw(kind:Nat) (l:List ac):Bool:=
 if kind==1 then cE [2,4] l
 else if kind==2 then cE [3] l
 else if kind==4 then rowB l
 else if kind==5||kind==6 then cE [12,13,14,15] l
 else if kind==7 then l.length==1&&ej l
 else if kind==8||kind==16 then ej l
 else if kind==10 then wj (0<l.length)&&ej l
 else l.isEmpty
def bu(T:ac):Bool:=wj (1≤T.q)&&wj (T.q≤16)&&nl T.q T.h.data.toList T.z.length&&wQ T.q T.u&&wj (0≤T.C)&&gw T.q T.z
def okF:Nat→ac→Bool
 | 0,T=>bu T
 | d+1,T=>bu T&&T.z.all (okF d)
def jU(d:Nat) (T:ac):Bool:=T.q==1&&okF d T&&wj (dU d T≤30)&&wj (dN d T≤4096)
def Fits(T:ac):Prop:=T.q<256∧T.h.size≤maxLen∧-9223372036854775808≤T.u∧T.u<9223372036854775808∧-9223372036854775808≤T.C∧T.C<9223372036854775808
def ax(w:J) (B:Nat):Nat→List ac→tS→Prop
 | 0,ks,a=>ks=[]∧∃sp cap,a=O sp 0 cap
 | d+1,ks,a=>(ks=[]∧∃sp cap,a=O sp 0 cap)∨
   ∃b off cap,ks≠[]∧b<B∧ks.length≤cap∧cap≤maxLen∧a=O (A ⟨b,off,Y⟩) ks.length cap∧
    ∀i T,ks[i]?=A T→Fits T∧∃s,w.cell? ⟨b,off+i*5,Y⟩=A (I r8 T.q)∧w.cell? ⟨b,off+i*5+1,Y⟩=A (r9 T.h)∧
     w.cell? ⟨b,off+i*5+2,Y⟩=A (I U T.u)∧w.cell? ⟨b,off+i*5+3,Y⟩=A (I U T.C)∧w.cell? ⟨b,off+i*5+4,Y⟩=A s∧ax w B d T.z s
def fN(w:J) (B:Nat) (d:Nat) (T:ac) (v:tS):Prop:=Fits T∧∃s,v=wP #[I r8 T.q,r9 T.h,I U T.u,I U T.C,s]∧ax w B d T.z s
theorem ax.C{w w':J}{B:Nat}(f:Below B w w'):∀{d:Nat} {ks:List ac} {a:tS},ax w B d ks a→ax w' B d ks a:=by
 intro d
 induction d with
 | zero=>intro ks a h;exact h
 | succ d g =>
  intro ks a h;rcases h with h|⟨b,off,cap,k,c,l,m,n,o⟩
  ·exact Or.inl h
  ·refine Or.inr ⟨b,off,cap,k,c,l,m,n,fun i T q=>?_⟩;obtain⟨r,s,t,u,c2,v,c4,x⟩:=o i T q;have e:∀j,w'.cell? ⟨b,j,Y⟩=w.cell? ⟨b,j,Y⟩:=fun j=>f.cell (p:=⟨b,j,Y⟩) c
   exact⟨r,s,(e _).trans t,(e _).trans u,(e _).trans c2,(e _).trans v,(e _).trans c4,g x⟩
theorem ax.up{w:J}{B c:Nat}(hB:B≤c):∀{d:Nat} {ks:List ac} {a:tS},ax w B d ks a→ax w c d ks a:=by
 intro d
 induction d with
 | zero=>intro ks a h;exact h
 | succ d e =>
  intro ks a h;rcases h with h|⟨b,off,cap,f,g,j,k,l,m⟩
  ·exact Or.inl h
  ·refine Or.inr ⟨b,off,cap,f,JS g hB,j,k,l,fun i T n=>?_⟩;obtain⟨o,s,p,q,c2,r,c4,t⟩:=m i T n;exact⟨o,s,p,q,c2,r,c4,e t⟩
theorem fN.C{w w':J}{B d:Nat}{T:ac}{v:tS}(h:fN w B d T v)(a:Below B w w'):fN w' B d T v:=by
 obtain⟨b,s,rfl,c⟩:=h;exact⟨b,s,Z,c.C a⟩
theorem ax.cases{w:J}{B d:Nat}{ks:List ac}{a:tS}(h:ax w B d ks a):(ks=[]∧∃sp cap,a=O sp 0 cap)∨
  ∃c b off cap,d=c+1∧ks≠[]∧b<B∧ks.length≤cap∧cap≤maxLen∧a=O (A ⟨b,off,Y⟩) ks.length cap∧
   ∀i T,ks[i]?=A T→Fits T∧∃s,w.cell? ⟨b,off+i*5,Y⟩=A (I r8 T.q)∧w.cell? ⟨b,off+i*5+1,Y⟩=A (r9 T.h)∧
     w.cell? ⟨b,off+i*5+2,Y⟩=A (I U T.u)∧w.cell? ⟨b,off+i*5+3,Y⟩=A (I U T.C)∧w.cell? ⟨b,off+i*5+4,Y⟩=A s∧ax w B c T.z s:=by
 cases d with
 | zero=>exact Or.inl h
 | succ d =>
  rcases h with h|⟨b,off,cap,e,f,g,j,k,l⟩
  ·exact Or.inl h
  ·exact Or.inr ⟨d,b,off,cap,Z,e,f,g,j,k,l⟩
theorem IY(w:J)(T:ac)(s:tS):(w.alloc (Obj.cells #[I r8 T.q,r9 T.h,I U T.u,I U T.C,s] 145)).cell? ⟨w.heap.size,4,Y⟩=A s:=by
 rw[Kq _ _ 4 _ _ _ (oc w _)];rfl
theorem uS(l:List Nat):∀a:Nat,l.foldl (· + ·) a=a+l.foldl (· + ·) 0:=by
 induction l with
 | nil=>intro a;rfl
 | cons x l b=>intro a;rw[List.foldl_cons,b,List.foldl_cons,b (0+x)];omega
theorem ax.q{w:J}{B d:Nat}{ks:List ac}{a:tS}(h:ax w B d ks a):∃p n c,a=O p n c:=by
 rcases h.cases with ⟨_,sp,cap,rfl⟩|⟨_,b,off,cap,_,_,_,_,_,rfl,_⟩
 ·exact⟨_,_,_,Z⟩
 ·exact⟨_,_,_,Z⟩
theorem fN.N{w:J}{B d:Nat}{T:ac}{v:tS}(h:fN w B d T v)(hB:B≤w.heap.size)(o:Obj):fN (w.alloc o) B d T v:=h.C (((JO _ w).alloc (JM _) o).mono hB)
def dH(w:J) (e:Ending) (w':J):Prop:=e=wg (xt true)∧Kr w w'
def sP(w:J) (n:Nat) (i:tS) (W:J):Prop:=∃(a:J) (k:Nat),a=W∧k≤n∧i=I U k∧Kr w a
theorem xf(l:List UInt8):∀k,iL (k+1) l=l.all a8:=by
 induction l with
 | nil=>intro k;rfl
 | cons c r a =>
  intro k
  show (nameAt (k+1) c&&iL (k+2) r)=_
  rw[a (k+1),List.all_cons]
  congr 1
  unfold nameAt a8;simp[Bool.or_assoc]
theorem qY(c:UInt8)(r:List UInt8):cL (c::r)=(isLow c&&r.all a8&&wj (r.length+1≤24)):=by
 unfold cL
 show ((nameAt 0 c&&iL 1 r)&&wj (1≤r.length+1)&&wj (r.length+1≤24))=_
 rw[xf r 0];have h:nameAt 0 c=isLow c:=by unfold nameAt;simp
 rw[h];simp
theorem zL(l:List UInt8)(h:cL l=true):1≤l.length∧l.length≤24:=by
 unfold cL at h;simp only[J4,oB]at h;exact⟨h.1.2,h.2⟩
theorem Jt(c:UInt8)(h:isLow c=true):a8 c=true:=by unfold a8;rw[h];rfl
def aS(t:ByteArray):ByteArray:=⟨(39::t.data.toList).toArray⟩
theorem q8(t:ByteArray):(aS t).data.toList=39::t.data.toList:=rfl
theorem mL(t:ByteArray):(aS t).size=t.size+1:=by
 show (39::t.data.toList).toArray.size=_
 simp
def j0(t:ByteArray):Bool:=(ay (aS t) 0).2==Y&&(ay (aS t) 0).1.map (fun x=>x.2.1.data.toList)==[t.data.toList]
theorem zb(p:UInt8→Bool)(s:ByteArray)(k:Nat)(l:List UInt8)(h:s.data.toList.drop k=l):an p s k=k+(l.takeWhile p).length:=by unfold an;rw[h]
theorem oO(p:UInt8→Bool):∀l:List UInt8,(l.takeWhile p).length=l.length→l.all p=true:=by
 intro l
 induction l with
 | nil=>intro _;rfl
 | cons c r a =>
  intro h;rw[List.takeWhile_cons]at h
  split at h
  ·rename_i b
   simp only[Kf,Nat.add_right_cancel_iff]at h;rw[List.all_cons,b,a h];rfl
  ·simp at h
theorem un(p:UInt8→Bool)(l:List UInt8)(h:l.all p=true):l.takeWhile p=l:=by
 induction l with
 | nil=>rfl
 | cons c r a =>
  rw[List.all_cons,J4]at h;rw[List.takeWhile_cons,oj h.1,a h.2]
theorem kA(t:ByteArray):ag (aS t) 0 39=(5,(aS t).extract 1 (an a8 (aS t) 1),if fk ((aS t).extract 1 (an a8 (aS t) 1)).data.toList then 0 else 201,an a8 (aS t) 1):=by
 unfold ag;rw[oe (by decide),oj (by decide),oj (by decide)]
theorem qq(t:ByteArray)(e:Nat):((aS t).extract 1 e).data.toList=t.data.toList.take (e-1):=by
 rw[ByteArray.data_extract,Array.toList_extract,q8];simp[List.extract]
theorem rm(c:UInt8)(r:List UInt8):fk (c::r)=(wj (r.length+1≤24)&&isLow c):=rfl
theorem gv(t:ByteArray):j0 t=cL t.data.toList:=by
 have s:0<(aS t).size:=by rw[mL];omega
 have n:(aS t)[0]=39:=rfl;have o:skip (aS t) 0=0:=jG _ 0 s (by rw[n];rfl) (by rw[n];rfl);have u:(aS t).data.toList.drop 1=t.data.toList:=rfl;have he:an a8 (aS t) 1=1+(t.data.toList.takeWhile a8).length:=zb a8 _ 1 _ u;have hlen:(t.data.toList.takeWhile a8).length≤t.data.toList.length:=(List.takeWhile_sublist a8).length_le;have g:skip (aS t) 0<(aS t).size:=by rw[o];exact s
 have a:ag (aS t) (skip (aS t) 0) (aS t)[skip (aS t) 0]=ag (aS t) 0 39:=by simp only[o,n]
 rw[Kg]
 constructor
 ·intro h;unfold j0 at h;rw[J4,q7,q7]at h;obtain⟨i,j⟩:=h
  by_cases d:(ag (aS t) (skip (aS t) 0) (aS t)[skip (aS t) 0]).2.2.1=0
  ·rw[fy _ _ g d,a,kA]at j;rw[a,kA]at d;simp only[List.map_cons,List.cons.injEq]at j;have k:=j.1;rw[qq,he]at k;have v:(t.data.toList.takeWhile a8).length=t.data.toList.length:=by
    have:=o4 List.length k;rw[List.length_take]at this;omega
   have b:=oO a8 _ v;dsimp only at d;rw[qq,he,k]at d;have l:fk t.data.toList=true:=by
    cases w:fk t.data.toList with
    | true=>rfl
    | false=>rw[w]at d;cases d
   cases e:t.data.toList with
   | nil=>rw[e]at l;cases l
   | cons c r =>
    rw[e,rm,J4]at l;rw[e,List.all_cons,J4]at b;rw[qY,l.1,l.2,b.2];rfl
  ·rw[fJ _ _ g d]at i
   cases i
 ·intro h
  cases e:t.data.toList with
  | nil=>rw[e]at h;cases h
  | cons c r =>
   rw[e,qY,J4,J4]at h;obtain⟨⟨i,j⟩,k⟩:=h;have b:t.data.toList.all a8=true:=by rw[e,List.all_cons,j,Jt c i];rfl
   have m:=un a8 _ b;have f:((aS t).extract 1 (an a8 (aS t) 1)).data.toList=t.data.toList:=by
    rw[qq,he,m];exact J5 (by omega)
   have p:fk t.data.toList=true:=by rw[e,rm,k,i];rfl
   have d:(ag (aS t) (skip (aS t) 0) (aS t)[skip (aS t) 0]).2.2.1=0:=by
    rw[a,kA]
    show (if fk _ then 0 else 201)=0
    rw[f,p];rfl
   have hend:ay (aS t) (an a8 (aS t) 1)=([],Y):=by
    apply dP;have x:(aS t).size≤an a8 (aS t) 1:=by
     rw[he,m,mL,Kc]
     show t.data.size+1≤1+t.data.size
     omega
    rw[fg _ _ x];omega
   have q:ay (aS t) 0=([(5,(aS t).extract 1 (an a8 (aS t) 1),0)],Y):=by
    rw[fy _ _ g d,a,kA];dsimp only;rw[hend,o]
   unfold j0;rw[q]
   show ((Y:Option (Nat×Nat))==Y&&[((aS t).extract 1 (an a8 (aS t) 1)).data.toList]==[t.data.toList])=true
   rw[f];simp
theorem za(t:ByteArray)(h:16384≤t.size):cL t.data.toList=false:=by
 cases a:cL t.data.toList with
 | false=>rfl
 | true =>
  have:=(zL _ a).2;rw[Kc]at this;have b:t.size=t.data.size:=rfl;omega
def j4:Nat→ac→Prop
 | 0,T=>T.h.size≤72007
 | d+1,T=>T.h.size≤72007∧T.z.length≤20000∧∀k∈T.z,j4 d k
def wR:Nat→List ac→Prop
 | 0,_=>True
 | d+1,ks=>ks.length≤20000∧∀k∈ks,j4 d k
theorem j4.z{d:Nat}{T:ac}(h:j4 d T):wR d T.z:=by
 cases d with
 | zero=>trivial
 | succ d=>exact h.2
theorem j4.h{d:Nat}{T:ac}(h:j4 d T):T.h.size≤72007:=by
 cases d with
 | zero=>exact h
 | succ d=>exact h.1
def aZ(x:Bool) (w:J) (e:Ending) (w':J):Prop:=e=wg (xt x)∧Kr w w'
theorem mw(w:J)(a b:Obj):Kr w ((w.alloc a).alloc b):=((JO _ w).alloc (JM _) _).alloc (by simp) _
def aj(T:ac) (s:tS):List Value:=[I r8 T.q,r9 T.h,I U T.u,I U T.C,s]
theorem flat5:∀(rows:List (List tS)),(∀r∈rows,r.length=5)→∀(i m:Nat) (r:List tS) (u:tS),rows[i]?=A r→r[m]?=A u→rows.flatten[i*5+m]?=A u:=by
 intro rows
 induction rows with
 | nil=>intro _ i m r u h _;simp at h
 | cons x rows b =>
  intro a i m r u hi hm;have d:x.length=5:=a x (List.mem_cons_self ..);rw[List.flatten_cons]
  cases i with
  | zero =>
   simp only[List.getElem?_cons_zero,o6]at hi;subst hi;have:m<x.length:=(J3.1 hm).1;rw[Nat.zero_mul,Nat.zero_add,Kl this];exact hm
  | succ i =>
   rw[Km]at hi;have:=b (fun r c=>a r (List.mem_cons_of_mem _ c)) i m r u hi hm;rw[Kd (by omega)];rw[←this]
   congr 1
   omega
theorem sq:(Tryz.prog.info? 145).map (fun i=>(i.zero,i.size,i.bytes))=A (A (wP #[I r8 0,r9 ByteArray.empty,I U 0,I U 0,O Y 0 0]),5,64):=by kernel_rfl
def BB(w:J) (d b o:Nat) (B:Nat) (T:ac):Prop:=
 Fits T∧∃s,w.cell? ⟨b,o,Y⟩=A (I r8 T.q)∧w.cell? ⟨b,o+1,Y⟩=A (r9 T.h)∧w.cell? ⟨b,o+2,Y⟩=A (I U T.u)∧w.cell? ⟨b,o+3,Y⟩=A (I U T.C)∧w.cell? ⟨b,o+4,Y⟩=A s∧ax w B d T.z s
theorem ax.rows{w:J}{B d:Nat}{ks:List ac}{f:tS}(h:ax w B d ks f) :
  ∃p c,f=O p ks.length c∧ks.length≤maxLen∧∀i T,ks[i]?=A T→d=d-1+1∧∃b off,p=A ⟨b,off,Y⟩∧b<B∧BB w (d-1) b (off+i*5) B T:=by
 rcases h.cases with ⟨rfl,sp,cap,rfl⟩|⟨l,b,off,cap,rfl,g,j,k,hm,rfl,a⟩
 ·exact⟨sp,cap,Z,J0 _,fun i T e=>by simp at e⟩
 ·refine⟨_,cap,Z,JU k hm,fun i T e=>⟨by omega,b,off,Z,j,a i T e⟩⟩
theorem BB.node{w W:J}{B d b o:Nat}{t:ac}(hB:Below B w W)(a:b<B)(h:BB w d b o B t) :
  ∃p n c,W.cell? ⟨b,o,Y⟩=A (I r8 t.q)∧W.cell? ⟨b,o+1,Y⟩=A (r9 t.h)∧
       W.cell? ⟨b,o+2,Y⟩=A (I U t.u)∧W.cell? ⟨b,o+3,Y⟩=A (I U t.C)∧W.cell? ⟨b,o+4,Y⟩=A (O p n c)∧
       fN W B d t (wP #[I r8 t.q,r9 t.h,I U t.u,I U t.C,O p n c]):=by
 obtain⟨g,s,i,k,c2,l,c4,f⟩:=h;obtain⟨p,n,c,rfl⟩:=f.q;have e:∀j,W.cell? ⟨b,j,Y⟩=w.cell? ⟨b,j,Y⟩:=fun j=>hB.cell (p:=⟨b,j,Y⟩) a
 exact⟨p,n,c,(e _).trans i,(e _).trans k,(e _).trans c2,(e _).trans l,(e _).trans c4,g,_,Z,f.C hB⟩
def Wb(w:J):={W:J // Kr w W}
instance (w:J):Nonempty (Wb w):=⟨⟨w,JO _ w⟩⟩
theorem ao{P:Program}{id:Nat}{Q:Exit→Act→J→Prop}{a:Act}{w:J}{l:List Oper}(hm:P.follows .mixedOrders=true)(hB:Region.lexB .any l.toArray=true)
  (h:wpQuiet P l.toArray (fun w'=>∃x:Wb w,w'=x.1) (fun b=>∀w',(∃x:Wb w,w'=x.1)→Q .normal b w') l a):(Code.region id l.toArray true).wp P Q a w:=
 wp_region_quiet (C:=fun w'=>∃x:Wb w,w'=x.1) hm hB ⟨⟨w.drew,(JO _ w).drew⟩,Z⟩ (by simpa using h)
theorem Calls.h{P:Program}{f:FuncId}{args:Array tS}{w:J}{x:Wb w}{v:tS}
  (h:Calls P f args x.1 fun e w'=>e=wg v∧Below x.1.heap.size x.1 w'):Calls P f args x.1 fun e a=>e=wg v∧∃y:Wb w,a=y.1:=
 h.mono fun _ W ⟨he,b⟩=>⟨he,⟨W,x.2.trans (b.mono x.2.size)⟩,Z⟩
theorem bA{w w':J}(h:∃x:Wb w,w'=x.1):Kr w w':=by
 obtain⟨x,rfl⟩:=h;exact x.2
theorem Wb.h{w:J}(x:Wb w){a:Addr}{v:tS}(h:w.cell? a=A v):x.1.cell? a=A v:=
 (x.2.cell (World.block_lt_of_cell? w a h)).trans h
theorem cellsOf{w:J}{b o:Nat}{T:ac}{s:tS}(h:∀m u,(aj T s)[m]?=A u→w.cell? ⟨b,o+m,Y⟩=A u) :
  w.cell? ⟨b,o,Y⟩=A (I r8 T.q)∧w.cell? ⟨b,o+1,Y⟩=A (r9 T.h)∧w.cell? ⟨b,o+2,Y⟩=A (I U T.u)∧w.cell? ⟨b,o+3,Y⟩=A (I U T.C)∧w.cell? ⟨b,o+4,Y⟩=A s:=
 ⟨h 0 _ Z,h 1 _ Z,h 2 _ Z,h 3 _ Z,h 4 _ Z⟩
