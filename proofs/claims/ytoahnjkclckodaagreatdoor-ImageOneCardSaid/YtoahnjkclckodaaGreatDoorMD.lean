/- Parts of one proof, joined; conditions stand in each theorem. -/
import Derived.Test.YtoahnjkclckodaaGreatDoorMB
import Derived.StillTailTactics
import Derived.Test.YtoahnjkclckodaaGreatDoorMA
import Derived.Laws.OwnMore
import Derived.Deep.DeepAppendRoom
import Derived.Deep.QuietTactic
import Derived.BigQuiet
open Decidable renaming decide→xn
open Go renaming World→J,Value→tT
open Go.Value renaming slice→O,int→I,string→tS,agg→xk,bool→xv
open Option renaming some→A,none→Y
open Go.IntKind renaming u8→tF,i64→U
open Go.Ending renaming returned→wj
namespace Go.Proofs.YtoahnjkclckodaaGreatDoor
open Go.RowKit
def nameAt(k:Nat) (c:UInt8):Bool:=isLow c||(xn (k≠0)&&(bN c||c==95))
def ie(k:Nat):List UInt8→Bool
 | []=>true
 | c::r=>nameAt k c&&ie (k+1) r
def dP(l:List UInt8):Bool:=ie 0 l&&xn (1≤l.length)&&xn (l.length≤24)
inductive ac where
 | mk (kind:Nat) (text:ByteArray) (num place:Int) (kids:List ac)
def ac.q:ac→Nat | .mk k _ _ _ _=>k
def ac.h:ac→ByteArray | .mk _ t _ _ _=>t
def ac.u:ac→Int | .mk _ _ n _ _=>n
def ac.t:ac→Int | .mk _ _ _ p _=>p
def ac.z:ac→List ac | .mk _ _ _ _ l=>l
def fW:Nat→ac→Nat
 | 0,_=>1
 | d+1,T=>(T.z.map (fW d)).foldl Nat.max 0+1
def dI:Nat→ac→Nat
 | 0,_=>1
 | d+1,T=>(T.z.map (dI d)).foldl (· + ·) 1
def so:List ByteArray:=[⟨#[111,114]⟩,⟨#[97,110,100]⟩,⟨#[61]⟩,⟨#[33,61]⟩,⟨#[60]⟩,⟨#[60,61]⟩,⟨#[62]⟩,⟨#[62,61]⟩,⟨#[43]⟩,⟨#[45]⟩,⟨#[42]⟩]
def rQ:List ByteArray:=[⟨#[45]⟩,⟨#[110,111,116]⟩]
def io(l:List ByteArray) (x:List UInt8):Bool:=l.any (fun b=>b.data.toList==x)
def strip(l:List UInt8):List UInt8:=match l with|45::r=>r|l=>l
def fe(l:List UInt8):Bool:=match l with|45::_=>true|_=>false
def uE(kind:Nat) (text:List UInt8) (kids:Nat):Bool:=
 if kind==2||kind==3||kind==4||kind==5||kind==6||kind==8 then dP text&&!km text
 else if kind==13||kind==15 then dP text
 else if kind==14 then (number (strip text)).isSome
 else if kind==16 then (kids==1&&io rQ text)||(kids==2&&io so text)
 else text.isEmpty
def t7(kind:Nat) (num:Int):Bool:=
 if kind==4 then xn (-2147483647≤num)&&xn (num≤2147483647)
 else if kind==9 then xn (0≤num)&&xn (num≤2147483647)
 else num==0
def dm(S:List Nat) (l:List ac):Bool:=l.all (fun t=>S.contains t.q)
def gn(l:List ac):Bool:=l.all (fun t=>!(t.q==14&&fe t.h.data.toList))&&dm [13,14,15,16] l
def cS(t:ac):Bool:=[5,6,7].contains t.q
def rowB(l:List ac):Bool:=dm [8,9,10,11] (l.dropWhile cS)
def fY(kind:Nat) (l:List ac):Bool:=
 if kind==1 then dm [2,4] l
 else if kind==2 then dm [3] l
 else if kind==4 then rowB l
 else if kind==5||kind==6 then dm [12,13,14,15] l
 else if kind==7 then l.length==1&&gn l
 else if kind==8||kind==16 then gn l
 else if kind==10 then xn (0<l.length)&&gn l
 else l.isEmpty
def cz(T:ac):Bool:=xn (1≤T.q)&&xn (T.q≤16)&&uE T.q T.h.data.toList T.z.length&&t7 T.q T.u&&xn (0≤T.t)&&fY T.q T.z
def okF:Nat→ac→Bool
 | 0,T=>cz T
 | d+1,T=>cz T&&T.z.all (okF d)
def jr(d:Nat) (T:ac):Bool:=T.q==1&&okF d T&&xn (fW d T≤30)&&xn (dI d T≤4096)
def Fits(T:ac):Prop:=T.q<256∧T.h.size≤maxLen∧-9223372036854775808≤T.u∧T.u<9223372036854775808∧-9223372036854775808≤T.t∧T.t<9223372036854775808
def ap(w:J) (B:Nat):Nat→List ac→tT→Prop
 | 0,ks,a=>ks=[]∧∃sp cap,a=O sp 0 cap
 | d+1,ks,a=>(ks=[]∧∃sp cap,a=O sp 0 cap)∨
   ∃b off cap,ks≠[]∧b<B∧ks.length≤cap∧cap≤maxLen∧a=O (A ⟨b,off,Y⟩) ks.length cap∧
    ∀i T,ks[i]?=A T→Fits T∧∃s,w.cell? ⟨b,off+i*5,Y⟩=A (I tF T.q)∧w.cell? ⟨b,off+i*5+1,Y⟩=A (tS T.h)∧
     w.cell? ⟨b,off+i*5+2,Y⟩=A (I U T.u)∧w.cell? ⟨b,off+i*5+3,Y⟩=A (I U T.t)∧w.cell? ⟨b,off+i*5+4,Y⟩=A s∧ap w B d T.z s
def fi(w:J) (B:Nat) (d:Nat) (T:ac) (v:tT):Prop:=Fits T∧∃s,v=xk #[I tF T.q,tS T.h,I U T.u,I U T.t,s]∧ap w B d T.z s
theorem ap.C{w w':J}{B:Nat}(f:Below B w w'):∀{d:Nat} {ks:List ac} {a:tT},ap w B d ks a→ap w' B d ks a:=by
 intro d
 induction d with
 | zero=>intro ks a h;exact h
 | succ d g =>
  intro ks a h;rcases h with h|⟨b,off,cap,k,c,l,m,n,o⟩
  ·exact Or.inl h
  ·refine Or.inr ⟨b,off,cap,k,c,l,m,n,fun i T q=>?_⟩;obtain⟨r,s,t,u,c2,v,c4,x⟩:=o i T q;have e:∀j,w'.cell? ⟨b,j,Y⟩=w.cell? ⟨b,j,Y⟩:=fun j=>f.cell (p:=⟨b,j,Y⟩) c
   exact⟨r,s,(e _).trans t,(e _).trans u,(e _).trans c2,(e _).trans v,(e _).trans c4,g x⟩
theorem ap.up{w:J}{B c:Nat}(hB:B≤c):∀{d:Nat} {ks:List ac} {a:tT},ap w B d ks a→ap w c d ks a:=by
 intro d
 induction d with
 | zero=>intro ks a h;exact h
 | succ d e =>
  intro ks a h;rcases h with h|⟨b,off,cap,f,g,j,k,l,m⟩
  ·exact Or.inl h
  ·refine Or.inr ⟨b,off,cap,f,FG g hB,j,k,l,fun i T n=>?_⟩;obtain⟨o,s,p,q,c2,r,c4,t⟩:=m i T n;exact⟨o,s,p,q,c2,r,c4,e t⟩
theorem fi.C{w w':J}{B d:Nat}{T:ac}{v:tT}(h:fi w B d T v)(a:Below B w w'):fi w' B d T v:=by
 obtain⟨b,s,rfl,c⟩:=h;exact⟨b,s,Z,c.C a⟩
theorem ap.cases{w:J}{B d:Nat}{ks:List ac}{a:tT}(h:ap w B d ks a):(ks=[]∧∃sp cap,a=O sp 0 cap)∨
  ∃c b off cap,d=c+1∧ks≠[]∧b<B∧ks.length≤cap∧cap≤maxLen∧a=O (A ⟨b,off,Y⟩) ks.length cap∧
   ∀i T,ks[i]?=A T→Fits T∧∃s,w.cell? ⟨b,off+i*5,Y⟩=A (I tF T.q)∧w.cell? ⟨b,off+i*5+1,Y⟩=A (tS T.h)∧
     w.cell? ⟨b,off+i*5+2,Y⟩=A (I U T.u)∧w.cell? ⟨b,off+i*5+3,Y⟩=A (I U T.t)∧w.cell? ⟨b,off+i*5+4,Y⟩=A s∧ap w B c T.z s:=by
 cases d with
 | zero=>exact Or.inl h
 | succ d =>
  rcases h with h|⟨b,off,cap,e,f,g,j,k,l⟩
  ·exact Or.inl h
  ·exact Or.inr ⟨d,b,off,cap,Z,e,f,g,j,k,l⟩
theorem EA(w:J)(T:ac)(s:tT):(w.alloc (Obj.cells #[I tF T.q,tS T.h,I U T.u,I U T.t,s] 145)).cell? ⟨w.heap.size,4,Y⟩=A s:=by
 rw[Gk _ _ 4 _ _ _ (oA w _)];rfl
theorem sE(l:List Nat):∀a:Nat,l.foldl (· + ·) a=a+l.foldl (· + ·) 0:=by
 induction l with
 | nil=>intro a;rfl
 | cons x l b=>intro a;rw[List.foldl_cons,b,List.foldl_cons,b (0+x)];omega
theorem ap.q{w:J}{B d:Nat}{ks:List ac}{a:tT}(h:ap w B d ks a):∃p n c,a=O p n c:=by
 rcases h.cases with ⟨_,sp,cap,rfl⟩|⟨_,b,off,cap,_,_,_,_,_,rfl,_⟩
 ·exact⟨_,_,_,Z⟩
 ·exact⟨_,_,_,Z⟩
theorem fi.D{w:J}{B d:Nat}{T:ac}{v:tT}(h:fi w B d T v)(hB:B≤w.heap.size)(o:Obj):fi (w.alloc o) B d T v:=h.C (((Fz _ w).alloc (Fy _) o).mono hB)
def du(w:J) (e:Ending) (w':J):Prop:=e=wj (xv true)∧Gl w w'
def qG(w:J) (n:Nat) (i:tT) (W:J):Prop:=∃(a:J) (k:Nat),a=W∧k≤n∧i=I U k∧Gl w a
theorem uj(l:List UInt8):∀k,ie (k+1) l=l.all aS:=by
 induction l with
 | nil=>intro k;rfl
 | cons c r a =>
  intro k
  show (nameAt (k+1) c&&ie (k+2) r)=_
  rw[a (k+1),List.all_cons]
  congr 1
  unfold nameAt aS;simp[Bool.or_assoc]
theorem po(c:UInt8)(r:List UInt8):dP (c::r)=(isLow c&&r.all aS&&xn (r.length+1≤24)):=by
 unfold dP
 show ((nameAt 0 c&&ie 1 r)&&xn (1≤r.length+1)&&xn (r.length+1≤24))=_
 rw[uj r 0];have h:nameAt 0 c=isLow c:=by unfold nameAt;simp
 rw[h];simp
theorem wQ(l:List UInt8)(h:dP l=true):1≤l.length∧l.length≤24:=by
 unfold dP at h;simp only[FV,oX]at h;exact⟨h.1.2,h.2⟩
theorem EZ(c:UInt8)(h:isLow c=true):aS c=true:=by unfold aS;rw[h];rfl
def aM(t:ByteArray):ByteArray:=⟨(39::t.data.toList).toArray⟩
theorem pp(t:ByteArray):(aM t).data.toList=39::t.data.toList:=rfl
theorem lR(t:ByteArray):(aM t).size=t.size+1:=by
 show (39::t.data.toList).toArray.size=_
 simp
def jv(t:ByteArray):Bool:=(au (aM t) 0).2==Y&&(au (aM t) 0).1.map (fun x=>x.2.1.data.toList)==[t.data.toList]
theorem vQ(p:UInt8→Bool)(s:ByteArray)(k:Nat)(l:List UInt8)(h:s.data.toList.drop k=l):aj p s k=k+(l.takeWhile p).length:=by unfold aj;rw[h]
theorem mT(p:UInt8→Bool):∀l:List UInt8,(l.takeWhile p).length=l.length→l.all p=true:=by
 intro l
 induction l with
 | nil=>intro _;rfl
 | cons c r a =>
  intro h;rw[List.takeWhile_cons]at h
  split at h
  ·rename_i b
   simp only[F9,Nat.add_right_cancel_iff]at h;rw[List.all_cons,b,a h];rfl
  ·simp at h
theorem rP(p:UInt8→Bool)(l:List UInt8)(h:l.all p=true):l.takeWhile p=l:=by
 induction l with
 | nil=>rfl
 | cons c r a =>
  rw[List.all_cons,FV]at h;rw[List.takeWhile_cons,oE h.1,a h.2]
theorem jW(t:ByteArray):ag (aM t) 0 39=(5,(aM t).extract 1 (aj aS (aM t) 1),if eN ((aM t).extract 1 (aj aS (aM t) 1)).data.toList then 0 else 201,aj aS (aM t) 1):=by
 unfold ag;rw[oB (by decide),oE (by decide),oE (by decide)]
theorem oy(t:ByteArray)(e:Nat):((aM t).extract 1 e).data.toList=t.data.toList.take (e-1):=by
 rw[ByteArray.data_extract,Array.toList_extract,pp];simp[List.extract]
theorem pF(c:UInt8)(r:List UInt8):eN (c::r)=(xn (r.length+1≤24)&&isLow c):=rfl
theorem fX(t:ByteArray):jv t=dP t.data.toList:=by
 have s:0<(aM t).size:=by rw[lR];omega
 have n:(aM t)[0]=39:=rfl;have o:skip (aM t) 0=0:=jf _ 0 s (by rw[n];rfl) (by rw[n];rfl);have u:(aM t).data.toList.drop 1=t.data.toList:=rfl;have he:aj aS (aM t) 1=1+(t.data.toList.takeWhile aS).length:=vQ aS _ 1 _ u;have hlen:(t.data.toList.takeWhile aS).length≤t.data.toList.length:=(List.takeWhile_sublist aS).length_le;have g:skip (aM t) 0<(aM t).size:=by rw[o];exact s
 have a:ag (aM t) (skip (aM t) 0) (aM t)[skip (aM t) 0]=ag (aM t) 0 39:=by simp only[o,n]
 rw[Ga]
 constructor
 ·intro h;unfold jv at h;rw[FV,beq_iff_eq,beq_iff_eq]at h;obtain⟨i,j⟩:=h
  by_cases d:(ag (aM t) (skip (aM t) 0) (aM t)[skip (aM t) 0]).2.2.1=0
  ·rw[eV _ _ g d,a,jW]at j;rw[a,jW]at d;simp only[List.map_cons,List.cons.injEq]at j;have k:=j.1;rw[oy,he]at k;have v:(t.data.toList.takeWhile aS).length=t.data.toList.length:=by
    have:=o8 List.length k;rw[List.length_take]at this;omega
   have b:=mT aS _ v;dsimp only at d;rw[oy,he,k]at d;have l:eN t.data.toList=true:=by
    cases w:eN t.data.toList with
    | true=>rfl
    | false=>rw[w]at d;cases d
   cases e:t.data.toList with
   | nil=>rw[e]at l;cases l
   | cons c r =>
    rw[e,pF,FV]at l;rw[e,List.all_cons,FV]at b;rw[po,l.1,l.2,b.2];rfl
  ·rw[ff _ _ g d]at i
   cases i
 ·intro h
  cases e:t.data.toList with
  | nil=>rw[e]at h;cases h
  | cons c r =>
   rw[e,po,FV,FV]at h;obtain⟨⟨i,j⟩,k⟩:=h;have b:t.data.toList.all aS=true:=by rw[e,List.all_cons,j,EZ c i];rfl
   have m:=rP aS _ b;have f:((aM t).extract 1 (aj aS (aM t) 1)).data.toList=t.data.toList:=by
    rw[oy,he,m];exact FW (by omega)
   have p:eN t.data.toList=true:=by rw[e,pF,k,i];rfl
   have d:(ag (aM t) (skip (aM t) 0) (aM t)[skip (aM t) 0]).2.2.1=0:=by
    rw[a,jW]
    show (if eN _ then 0 else 201)=0
    rw[f,p];rfl
   have hend:au (aM t) (aj aS (aM t) 1)=([],Y):=by
    apply dB;have x:(aM t).size≤aj aS (aM t) 1:=by
     rw[he,m,lR,F6]
     show t.data.size+1≤1+t.data.size
     omega
    rw[eI _ _ x];omega
   have q:au (aM t) 0=([(5,(aM t).extract 1 (aj aS (aM t) 1),0)],Y):=by
    rw[eV _ _ g d,a,jW];dsimp only;rw[hend,o]
   unfold jv;rw[q]
   show ((Y:Option (Nat×Nat))==Y&&[((aM t).extract 1 (aj aS (aM t) 1)).data.toList]==[t.data.toList])=true
   rw[f];simp
theorem vP(t:ByteArray)(h:16384≤t.size):dP t.data.toList=false:=by
 cases a:dP t.data.toList with
 | false=>rfl
 | true =>
  have:=(wQ _ a).2;rw[F6]at this;have b:t.size=t.data.size:=rfl;omega
def jx:Nat→ac→Prop
 | 0,T=>T.h.size≤72007
 | d+1,T=>T.h.size≤72007∧T.z.length≤20000∧∀k∈T.z,jx d k
def t8:Nat→List ac→Prop
 | 0,_=>True
 | d+1,ks=>ks.length≤20000∧∀k∈ks,jx d k
theorem jx.z{d:Nat}{T:ac}(h:jx d T):t8 d T.z:=by
 cases d with
 | zero=>trivial
 | succ d=>exact h.2
theorem jx.h{d:Nat}{T:ac}(h:jx d T):T.h.size≤72007:=by
 cases d with
 | zero=>exact h
 | succ d=>exact h.1
def aV(x:Bool) (w:J) (e:Ending) (w':J):Prop:=e=wj (xv x)∧Gl w w'
theorem lB(w:J)(a b:Obj):Gl w ((w.alloc a).alloc b):=((Fz _ w).alloc (Fy _) _).alloc (by simp) _
def ai(T:ac) (s:tT):List Value:=[I tF T.q,tS T.h,I U T.u,I U T.t,s]
theorem flat5:∀(rows:List (List tT)),(∀r∈rows,r.length=5)→∀(i m:Nat) (r:List tT) (u:tT),rows[i]?=A r→r[m]?=A u→rows.flatten[i*5+m]?=A u:=by
 intro rows
 induction rows with
 | nil=>intro _ i m r u h _;simp at h
 | cons x rows b =>
  intro a i m r u hi hm;have d:x.length=5:=a x (List.mem_cons_self ..);rw[List.flatten_cons]
  cases i with
  | zero =>
   simp only[List.getElem?_cons_zero,o7]at hi;subst hi;have:m<x.length:=(FU.1 hm).1;rw[Nat.zero_mul,Nat.zero_add,Gf this];exact hm
  | succ i =>
   rw[Gg]at hi;have:=b (fun r c=>a r (List.mem_cons_of_mem _ c)) i m r u hi hm;rw[F7 (by omega)];rw[←this]
   congr 1
   omega
theorem qq:(Tryz.prog.info? 145).map (fun i=>(i.zero,i.size,i.bytes))=A (A (xk #[I tF 0,tS ByteArray.empty,I U 0,I U 0,O Y 0 0]),5,64):=by kernel_rfl
def yE(w:J) (d b o:Nat) (B:Nat) (T:ac):Prop:=
 Fits T∧∃s,w.cell? ⟨b,o,Y⟩=A (I tF T.q)∧w.cell? ⟨b,o+1,Y⟩=A (tS T.h)∧w.cell? ⟨b,o+2,Y⟩=A (I U T.u)∧w.cell? ⟨b,o+3,Y⟩=A (I U T.t)∧w.cell? ⟨b,o+4,Y⟩=A s∧ap w B d T.z s
theorem ap.rows{w:J}{B d:Nat}{ks:List ac}{f:tT}(h:ap w B d ks f) :
  ∃p c,f=O p ks.length c∧ks.length≤maxLen∧∀i T,ks[i]?=A T→d=d-1+1∧∃b off,p=A ⟨b,off,Y⟩∧b<B∧yE w (d-1) b (off+i*5) B T:=by
 rcases h.cases with ⟨rfl,sp,cap,rfl⟩|⟨l,b,off,cap,rfl,g,j,k,hm,rfl,a⟩
 ·exact⟨sp,cap,Z,FR _,fun i T e=>by simp at e⟩
 ·refine⟨_,cap,Z,FH k hm,fun i T e=>⟨by omega,b,off,Z,j,a i T e⟩⟩
theorem yE.node{w W:J}{B d b o:Nat}{t:ac}(hB:Below B w W)(a:b<B)(h:yE w d b o B t) :
  ∃p n c,W.cell? ⟨b,o,Y⟩=A (I tF t.q)∧W.cell? ⟨b,o+1,Y⟩=A (tS t.h)∧
       W.cell? ⟨b,o+2,Y⟩=A (I U t.u)∧W.cell? ⟨b,o+3,Y⟩=A (I U t.t)∧W.cell? ⟨b,o+4,Y⟩=A (O p n c)∧
       fi W B d t (xk #[I tF t.q,tS t.h,I U t.u,I U t.t,O p n c]):=by
 obtain⟨g,s,i,k,c2,l,c4,f⟩:=h;obtain⟨p,n,c,rfl⟩:=f.q;have e:∀j,W.cell? ⟨b,j,Y⟩=w.cell? ⟨b,j,Y⟩:=fun j=>hB.cell (p:=⟨b,j,Y⟩) a
 exact⟨p,n,c,(e _).trans i,(e _).trans k,(e _).trans c2,(e _).trans l,(e _).trans c4,g,_,Z,f.C hB⟩
def Wb(w:J):={W:J // Gl w W}
instance (w:J):Nonempty (Wb w):=⟨⟨w,Fz _ w⟩⟩
theorem al{P:Program}{id:Nat}{Q:Exit→Act→J→Prop}{a:Act}{w:J}{l:List Oper}(hm:P.follows .mixedOrders=true)(hB:Region.lexB .any l.toArray=true)
  (h:wpQuiet P l.toArray (fun w'=>∃x:Wb w,w'=x.1) (fun b=>∀w',(∃x:Wb w,w'=x.1)→Q .normal b w') l a):(Code.region id l.toArray true).wp P Q a w:=
 wp_region_quiet (C:=fun w'=>∃x:Wb w,w'=x.1) hm hB ⟨⟨w.drew,(Fz _ w).drew⟩,Z⟩ (by simpa using h)
theorem Calls.h{P:Program}{f:FuncId}{args:Array tT}{w:J}{x:Wb w}{v:tT}
  (h:Calls P f args x.1 fun e w'=>e=wj v∧Below x.1.heap.size x.1 w'):Calls P f args x.1 fun e a=>e=wj v∧∃y:Wb w,a=y.1:=
 h.mono fun _ W ⟨he,b⟩=>⟨he,⟨W,x.2.trans (b.mono x.2.size)⟩,Z⟩
theorem bw{w w':J}(h:∃x:Wb w,w'=x.1):Gl w w':=by
 obtain⟨x,rfl⟩:=h;exact x.2
theorem Wb.h{w:J}(x:Wb w){a:Addr}{v:tT}(h:w.cell? a=A v):x.1.cell? a=A v:=
 (x.2.cell (World.block_lt_of_cell? w a h)).trans h
