/- Parts of one proof, joined; conditions stand in each theorem. -/
import Derived.Test.YtmpekinjoeibbaaGreatDoorMB
import Derived.StillTailTactics
import Derived.Test.YtmpekinjoeibbaaGreatDoorMA
import Derived.Laws.OwnMore
import Derived.Deep.DeepAppendRoom
import Derived.Deep.QuietTactic
import Derived.BigQuiet
open Decidable renaming decide→r8
open Go renaming World→p7,Value→r3
open Go.Value renaming slice→O,int→I,string→p9,agg→s3,bool→ur
open Option renaming some→A,none→V
open Go.IntKind renaming u8→J,i64→Y
open Go.Ending renaming returned→tF
namespace Go.Proofs.YtmpekinjoeibbaaGreatDoor
open Go.RowKit
def nameAt(k:Nat) (c:UInt8):Bool:=isLow c||(r8 (k≠0)&&(bQ c||c==95))
def ik(k:Nat):List UInt8→Bool
 | []=>true
 | c::r=>nameAt k c&&ik (k+1) r
def cB(l:List UInt8):Bool:=ik 0 l&&r8 (1≤l.length)&&r8 (l.length≤24)
inductive ah where
 | mk (kind:Nat) (text:ByteArray) (num place:Int) (kids:List ah)
def ah.b:ah→Nat | .mk k _ _ _ _=>k
def ah.h:ah→ByteArray | .mk _ t _ _ _=>t
def ah.q:ah→Int | .mk _ _ n _ _=>n
def ah.t:ah→Int | .mk _ _ _ p _=>p
def ah.u:ah→List ah | .mk _ _ _ _ l=>l
def dU:Nat→ah→Nat
 | 0,_=>1
 | d+1,T=>(T.u.map (dU d)).foldl Nat.max 0+1
def bw:Nat→ah→Nat
 | 0,_=>1
 | d+1,T=>(T.u.map (bw d)).foldl (· + ·) 1
def rD:List ByteArray:=[⟨#[111,114]⟩,⟨#[97,110,100]⟩,⟨#[61]⟩,⟨#[33,61]⟩,⟨#[60]⟩,⟨#[60,61]⟩,⟨#[62]⟩,⟨#[62,61]⟩,⟨#[43]⟩,⟨#[45]⟩,⟨#[42]⟩]
def re:List ByteArray:=[⟨#[45]⟩,⟨#[110,111,116]⟩]
def ip(l:List ByteArray) (x:List UInt8):Bool:=l.any (fun b=>b.data.toList==x)
def strip(l:List UInt8):List UInt8:=match l with|45::r=>r|l=>l
def fh(l:List UInt8):Bool:=match l with|45::_=>true|_=>false
def uq(kind:Nat) (text:List UInt8) (kids:Nat):Bool:=
 if kind==2||kind==3||kind==4||kind==5||kind==6||kind==8 then cB text&&!j8 text
 else if kind==13||kind==15 then cB text
 else if kind==14 then (number (strip text)).isSome
 else if kind==16 then (kids==1&&ip re text)||(kids==2&&ip rD text)
 else text.isEmpty
def tJ(kind:Nat) (num:Int):Bool:=
 if kind==4 then r8 (-2147483647≤num)&&r8 (num≤2147483647)
 else if kind==9 then r8 (0≤num)&&r8 (num≤2147483647)
 else num==0
def du(S:List Nat) (l:List ah):Bool:=l.all (fun t=>S.contains t.b)
def gw(l:List ah):Bool:=l.all (fun t=>!(t.b==14&&fh t.h.data.toList))&&du [13,14,15,16] l
def de(t:ah):Bool:=[5,6,7].contains t.b
def rowB(l:List ah):Bool:=du [8,9,10,11] (l.dropWhile de)
def fZ(kind:Nat) (l:List ah):Bool:=
 if kind==1 then du [2,4] l
 else if kind==2 then du [3] l
 else if kind==4 then rowB l
 else if kind==5||kind==6 then du [12,13,14,15] l
 else if kind==7 then l.length==1&&gw l
 else if kind==8||kind==16 then gw l
 else if kind==10 then r8 (0<l.length)&&gw l
 else l.isEmpty
def cJ(T:ah):Bool:=r8 (1≤T.b)&&r8 (T.b≤16)&&uq T.b T.h.data.toList T.u.length&&tJ T.b T.q&&r8 (0≤T.t)&&fZ T.b T.u
def okF:Nat→ah→Bool
 | 0,T=>cJ T
 | d+1,T=>cJ T&&T.u.all (okF d)
def iO(d:Nat) (T:ah):Bool:=T.b==1&&okF d T&&r8 (dU d T≤30)&&r8 (bw d T≤4096)
def Fits(T:ah):Prop:=T.b<256∧T.h.size≤maxLen∧-9223372036854775808≤T.q∧T.q<9223372036854775808∧-9223372036854775808≤T.t∧T.t<9223372036854775808
def aF(w:p7) (B:Nat):Nat→List ah→r3→Prop
 | 0,a,c=>a=[]∧∃sp cap,c=O sp 0 cap
 | d+1,a,c=>(a=[]∧∃sp cap,c=O sp 0 cap)∨
   ∃b off cap,a≠[]∧b<B∧a.length≤cap∧cap≤maxLen∧c=O (A ⟨b,off,V⟩) a.length cap∧
    ∀i T,a[i]?=A T→Fits T∧∃s,w.cell? ⟨b,off+i*5,V⟩=A (I J T.b)∧w.cell? ⟨b,off+i*5+1,V⟩=A (p9 T.h)∧
     w.cell? ⟨b,off+i*5+2,V⟩=A (I Y T.q)∧w.cell? ⟨b,off+i*5+3,V⟩=A (I Y T.t)∧w.cell? ⟨b,off+i*5+4,V⟩=A s∧aF w B d T.u s
def fk(w:p7) (B:Nat) (d:Nat) (T:ah) (v:r3):Prop:=Fits T∧∃s,v=s3 #[I J T.b,p9 T.h,I Y T.q,I Y T.t,s]∧aF w B d T.u s
theorem aF.C{w w':p7}{B:Nat}(g:Below B w w'):∀{d:Nat} {a:List ah} {c:r3},aF w B d a c→aF w' B d a c:=by
 intro d
 induction d with
 | zero=>intro a c h;exact h
 | succ d k =>
  intro a c h;rcases h with h|⟨b,off,cap,l,f,m,n,o,q⟩
  ·exact Or.inl h
  ·refine Or.inr ⟨b,off,cap,l,f,m,n,o,fun i T r=>?_⟩;obtain⟨t,s,c0,c1,c2,u,c4,v⟩:=q i T r;have e:∀j,w'.cell? ⟨b,j,V⟩=w.cell? ⟨b,j,V⟩:=fun j=>g.cell (p:=⟨b,j,V⟩) f
   exact⟨t,s,(e _).trans c0,(e _).trans c1,(e _).trans c2,(e _).trans u,(e _).trans c4,k v⟩
theorem aF.up{w:p7}{B e:Nat}(hB:B≤e):∀{d:Nat} {a:List ah} {c:r3},aF w B d a c→aF w e d a c:=by
 intro d
 induction d with
 | zero=>intro a c h;exact h
 | succ d f =>
  intro a c h;rcases h with h|⟨b,off,cap,g,j,k,l,m,n⟩
  ·exact Or.inl h
  ·refine Or.inr ⟨b,off,cap,g,EY j hB,k,l,m,fun i T o=>?_⟩;obtain⟨p,s,c0,c1,c2,q,c4,r⟩:=n i T o;exact⟨p,s,c0,c1,c2,q,c4,f r⟩
theorem fk.C{w w':p7}{B d:Nat}{T:ah}{v:r3}(h:fk w B d T v)(a:Below B w w'):fk w' B d T v:=by
 obtain⟨b,s,rfl,c⟩:=h;exact⟨b,s,Z,c.C a⟩
theorem aF.cases{w:p7}{B d:Nat}{a:List ah}{c:r3}(h:aF w B d a c):(a=[]∧∃sp cap,c=O sp 0 cap)∨
  ∃e b off cap,d=e+1∧a≠[]∧b<B∧a.length≤cap∧cap≤maxLen∧c=O (A ⟨b,off,V⟩) a.length cap∧
   ∀i T,a[i]?=A T→Fits T∧∃s,w.cell? ⟨b,off+i*5,V⟩=A (I J T.b)∧w.cell? ⟨b,off+i*5+1,V⟩=A (p9 T.h)∧
     w.cell? ⟨b,off+i*5+2,V⟩=A (I Y T.q)∧w.cell? ⟨b,off+i*5+3,V⟩=A (I Y T.t)∧w.cell? ⟨b,off+i*5+4,V⟩=A s∧aF w B e T.u s:=by
 cases d with
 | zero=>exact Or.inl h
 | succ d =>
  rcases h with h|⟨b,off,cap,f,g,j,k,l,m⟩
  ·exact Or.inl h
  ·exact Or.inr ⟨d,b,off,cap,Z,f,g,j,k,l,m⟩
theorem Eg(w:p7)(T:ah)(s:r3):(w.alloc (Obj.cells #[I J T.b,p9 T.h,I Y T.q,I Y T.t,s] 64)).cell? ⟨w.heap.size,4,V⟩=A s:=by
 rw[FR _ _ 4 _ _ _ (ot w _)];rfl
theorem rN(l:List Nat):∀a:Nat,l.foldl (· + ·) a=a+l.foldl (· + ·) 0:=by
 induction l with
 | nil=>intro a;rfl
 | cons x l b=>intro a;rw[List.foldl_cons,b,List.foldl_cons,b (0+x)];omega
theorem aF.b{w:p7}{B d:Nat}{e:List ah}{a:r3}(h:aF w B d e a):∃p n c,a=O p n c:=by
 rcases h.cases with ⟨_,sp,cap,rfl⟩|⟨_,b,off,cap,_,_,_,_,_,rfl,_⟩
 ·exact⟨_,_,_,Z⟩
 ·exact⟨_,_,_,Z⟩
theorem fk.y{w:p7}{B d:Nat}{T:ah}{v:r3}(h:fk w B d T v)(hB:B≤w.heap.size)(o:Obj):fk (w.alloc o) B d T v:=h.C (((EU _ w).alloc (ET _) o).mono hB)
def cn(w:p7) (e:Ending) (w':p7):Prop:=e=tF (ur true)∧FS w w'
def nP(w:p7) (n:Nat) (i:r3) (W:p7):Prop:=∃(a:p7) (k:Nat),a=W∧k≤n∧i=I Y k∧FS w a
theorem t8(l:List UInt8):∀k,ik (k+1) l=l.all aZ:=by
 induction l with
 | nil=>intro k;rfl
 | cons c r a =>
  intro k
  show (nameAt (k+1) c&&ik (k+2) r)=_
  rw[a (k+1),List.all_cons]
  congr 1
  unfold nameAt aZ;simp[Bool.or_assoc]
theorem oo(c:UInt8)(r:List UInt8):cB (c::r)=(isLow c&&r.all aZ&&r8 (r.length+1≤24)):=by
 unfold cB
 show ((nameAt 0 c&&ik 1 r)&&r8 (1≤r.length+1)&&r8 (r.length+1≤24))=_
 rw[t8 r 0];have h:nameAt 0 c=isLow c:=by unfold nameAt;simp
 rw[h];simp
theorem wS(l:List UInt8)(h:cB l=true):1≤l.length∧l.length≤24:=by
 unfold cB at h;simp only[Fp,oE]at h;exact⟨h.1.2,h.2⟩
theorem EE(c:UInt8)(h:isLow c=true):aZ c=true:=by unfold aZ;rw[h];rfl
def aR(t:ByteArray):ByteArray:=⟨(39::t.data.toList).toArray⟩
theorem ov(t:ByteArray):(aR t).data.toList=39::t.data.toList:=rfl
theorem lr(t:ByteArray):(aR t).size=t.size+1:=by
 show (39::t.data.toList).toArray.size=_
 simp
def jr(t:ByteArray):Bool:=(aG (aR t) 0).2==V&&(aG (aR t) 0).1.map (fun x=>x.2.1.data.toList)==[t.data.toList]
theorem vW(p:UInt8→Bool)(s:ByteArray)(k:Nat)(l:List UInt8)(h:s.data.toList.drop k=l):aB p s k=k+(l.takeWhile p).length:=by unfold aB;rw[h]
theorem mj(p:UInt8→Bool):∀l:List UInt8,(l.takeWhile p).length=l.length→l.all p=true:=by
 intro l
 induction l with
 | nil=>intro _;rfl
 | cons c r a =>
  intro h;rw[List.takeWhile_cons]at h
  split at h
  ·rename_i b
   simp only[FC,Nat.add_right_cancel_iff]at h;rw[List.all_cons,b,a h];rfl
  ·simp at h
theorem rb(p:UInt8→Bool)(l:List UInt8)(h:l.all p=true):l.takeWhile p=l:=by
 induction l with
 | nil=>rfl
 | cons c r a =>
  rw[List.all_cons,Fp]at h;rw[List.takeWhile_cons,oA h.1,a h.2]
theorem jQ(t:ByteArray):an (aR t) 0 39=(5,(aR t).extract 1 (aB aZ (aR t) 1),if eR ((aR t).extract 1 (aB aZ (aR t) 1)).data.toList then 0 else 201,aB aZ (aR t) 1):=by
 unfold an;rw[ox (by decide),oA (by decide),oA (by decide)]
theorem nB(t:ByteArray)(e:Nat):((aR t).extract 1 e).data.toList=t.data.toList.take (e-1):=by
 rw[ByteArray.data_extract,Array.toList_extract,ov];simp[List.extract]
theorem oL(c:UInt8)(r:List UInt8):eR (c::r)=(r8 (r.length+1≤24)&&isLow c):=rfl
theorem fX(t:ByteArray):jr t=cB t.data.toList:=by
 have s:0<(aR t).size:=by rw[lr];omega
 have n:(aR t)[0]=39:=rfl;have o:skip (aR t) 0=0:=jf _ 0 s (by rw[n];rfl) (by rw[n];rfl);have u:(aR t).data.toList.drop 1=t.data.toList:=rfl;have he:aB aZ (aR t) 1=1+(t.data.toList.takeWhile aZ).length:=vW aZ _ 1 _ u;have hlen:(t.data.toList.takeWhile aZ).length≤t.data.toList.length:=(List.takeWhile_sublist aZ).length_le;have g:skip (aR t) 0<(aR t).size:=by rw[o];exact s
 have a:an (aR t) (skip (aR t) 0) (aR t)[skip (aR t) 0]=an (aR t) 0 39:=by simp only[o,n]
 rw[FD]
 constructor
 ·intro h;unfold jr at h;rw[Fp,pv,pv]at h;obtain⟨i,j⟩:=h
  by_cases d:(an (aR t) (skip (aR t) 0) (aR t)[skip (aR t) 0]).2.2.1=0
  ·rw[eZ _ _ g d,a,jQ]at j;rw[a,jQ]at d;simp only[List.map_cons,List.cons.injEq]at j;have k:=j.1;rw[nB,he]at k;have v:(t.data.toList.takeWhile aZ).length=t.data.toList.length:=by
    have:=o9 List.length k;rw[List.length_take]at this;omega
   have b:=mj aZ _ v;dsimp only at d;rw[nB,he,k]at d;have l:eR t.data.toList=true:=by
    cases w:eR t.data.toList with
    | true=>rfl
    | false=>rw[w]at d;cases d
   cases e:t.data.toList with
   | nil=>rw[e]at l;cases l
   | cons c r =>
    rw[e,oL,Fp]at l;rw[e,List.all_cons,Fp]at b;rw[oo,l.1,l.2,b.2];rfl
  ·rw[fi _ _ g d]at i
   cases i
 ·intro h
  cases e:t.data.toList with
  | nil=>rw[e]at h;cases h
  | cons c r =>
   rw[e,oo,Fp,Fp]at h;obtain⟨⟨i,j⟩,k⟩:=h;have b:t.data.toList.all aZ=true:=by rw[e,List.all_cons,j,EE c i];rfl
   have m:=rb aZ _ b;have f:((aR t).extract 1 (aB aZ (aR t) 1)).data.toList=t.data.toList:=by
    rw[nB,he,m];exact Fq (by omega)
   have p:eR t.data.toList=true:=by rw[e,oL,k,i];rfl
   have d:(an (aR t) (skip (aR t) 0) (aR t)[skip (aR t) 0]).2.2.1=0:=by
    rw[a,jQ]
    show (if eR _ then 0 else 201)=0
    rw[f,p];rfl
   have hend:aG (aR t) (aB aZ (aR t) 1)=([],V):=by
    apply dE;have x:(aR t).size≤aB aZ (aR t) 1:=by
     rw[he,m,lr,Fz]
     show t.data.size+1≤1+t.data.size
     omega
    rw[eM _ _ x];omega
   have q:aG (aR t) 0=([(5,(aR t).extract 1 (aB aZ (aR t) 1),0)],V):=by
    rw[eZ _ _ g d,a,jQ];dsimp only;rw[hend,o]
   unfold jr;rw[q]
   show ((V:Option (Nat×Nat))==V&&[((aR t).extract 1 (aB aZ (aR t) 1)).data.toList]==[t.data.toList])=true
   rw[f];simp
theorem vS(t:ByteArray)(h:16384≤t.size):cB t.data.toList=false:=by
 cases a:cB t.data.toList with
 | false=>rfl
 | true =>
  have:=(wS _ a).2;rw[Fz]at this;have b:t.size=t.data.size:=rfl;omega
def jv:Nat→ah→Prop
 | 0,T=>T.h.size≤72007
 | d+1,T=>T.h.size≤72007∧T.u.length≤20000∧∀k∈T.u,jv d k
def tL:Nat→List ah→Prop
 | 0,_=>True
 | d+1,a=>a.length≤20000∧∀k∈a,jv d k
theorem jv.u{d:Nat}{T:ah}(h:jv d T):tL d T.u:=by
 cases d with
 | zero=>trivial
 | succ d=>exact h.2
theorem jv.h{d:Nat}{T:ah}(h:jv d T):T.h.size≤72007:=by
 cases d with
 | zero=>exact h
 | succ d=>exact h.1
def ao(x:Bool) (w:p7) (e:Ending) (w':p7):Prop:=e=tF (ur x)∧FS w w'
theorem gi(w:p7)(a b:Obj):FS w ((w.alloc a).alloc b):=((EU _ w).alloc (ET _) _).alloc (by simp) _
def az(T:ah) (s:r3):List Value:=[I J T.b,p9 T.h,I Y T.q,I Y T.t,s]
theorem flat5:∀(rows:List (List r3)),(∀r∈rows,r.length=5)→∀(i m:Nat) (r:List r3) (u:r3),rows[i]?=A r→r[m]?=A u→rows.flatten[i*5+m]?=A u:=by
 intro rows
 induction rows with
 | nil=>intro _ i m r u h _;simp at h
 | cons x rows c =>
  intro b i m r u a hm;have e:x.length=5:=b x (List.mem_cons_self ..);rw[List.flatten_cons]
  cases i with
  | zero =>
   simp only[List.getElem?_cons_zero,oF]at a;subst a;have:m<x.length:=(Fo.1 hm).1;rw[Nat.zero_mul,Nat.zero_add,FM this];exact hm
  | succ i =>
   rw[FN]at a;have:=c (fun r d=>b r (List.mem_cons_of_mem _ d)) i m r u a hm;rw[FA (by omega)];rw[←this]
   congr 1
   omega
theorem pN:(Tryz.prog.info? 64).map (fun i=>(i.zero,i.size,i.bytes))=A (A (s3 #[I J 0,p9 ByteArray.empty,I Y 0,I Y 0,O V 0 0]),5,64):=by kernel_rfl
def yA(w:p7) (d b o:Nat) (B:Nat) (T:ah):Prop:=
 Fits T∧∃s,w.cell? ⟨b,o,V⟩=A (I J T.b)∧w.cell? ⟨b,o+1,V⟩=A (p9 T.h)∧w.cell? ⟨b,o+2,V⟩=A (I Y T.q)∧w.cell? ⟨b,o+3,V⟩=A (I Y T.t)∧w.cell? ⟨b,o+4,V⟩=A s∧aF w B d T.u s
theorem aF.h{w:p7}{B d:Nat}{e:List ah}{g:r3}(h:aF w B d e g) :
  ∃p c,g=O p e.length c∧e.length≤maxLen∧∀i T,e[i]?=A T→d=d-1+1∧∃b off,p=A ⟨b,off,V⟩∧b<B∧yA w (d-1) b (off+i*5) B T:=by
 rcases h.cases with ⟨rfl,sp,cap,rfl⟩|⟨m,b,off,cap,rfl,j,k,l,hm,rfl,a⟩
 ·exact⟨sp,cap,Z,Fi _,fun i T f=>by simp at f⟩
 ·refine⟨_,cap,Z,EZ l hm,fun i T f=>⟨by omega,b,off,Z,k,a i T f⟩⟩
theorem yA.node{w W:p7}{B d b o:Nat}{t:ah}(hB:Below B w W)(a:b<B)(h:yA w d b o B t) :
  ∃p n c,W.cell? ⟨b,o,V⟩=A (I J t.b)∧W.cell? ⟨b,o+1,V⟩=A (p9 t.h)∧
       W.cell? ⟨b,o+2,V⟩=A (I Y t.q)∧W.cell? ⟨b,o+3,V⟩=A (I Y t.t)∧W.cell? ⟨b,o+4,V⟩=A (O p n c)∧
       fk W B d t (s3 #[I J t.b,p9 t.h,I Y t.q,I Y t.t,O p n c]):=by
 obtain⟨g,s,c0,c1,c2,i,c4,f⟩:=h;obtain⟨p,n,c,rfl⟩:=f.b;have e:∀j,W.cell? ⟨b,j,V⟩=w.cell? ⟨b,j,V⟩:=fun j=>hB.cell (p:=⟨b,j,V⟩) a
 exact⟨p,n,c,(e _).trans c0,(e _).trans c1,(e _).trans c2,(e _).trans i,(e _).trans c4,g,_,Z,f.C hB⟩
def Wb(w:p7):={W:p7 // FS w W}
instance (w:p7):Nonempty (Wb w):=⟨⟨w,EU _ w⟩⟩
theorem aj{P:Program}{id:Nat}{Q:Exit→Act→p7→Prop}{a:Act}{w:p7}{l:List Oper}(hm:P.follows .mixedOrders=true)(hB:Region.lexB .any l.toArray=true)
  (h:wpQuiet P l.toArray (fun w'=>∃x:Wb w,w'=x.1) (fun b=>∀w',(∃x:Wb w,w'=x.1)→Q .normal b w') l a):(Code.region id l.toArray true).wp P Q a w:=
 wp_region_quiet (C:=fun w'=>∃x:Wb w,w'=x.1) hm hB ⟨⟨w.drew,(EU _ w).drew⟩,Z⟩ (by simpa using h)
theorem Calls.b{P:Program}{f:FuncId}{args:Array r3}{w:p7}{x:Wb w}{v:r3}
  (h:Calls P f args x.1 fun e w'=>e=tF v∧Below x.1.heap.size x.1 w'):Calls P f args x.1 fun e a=>e=tF v∧∃y:Wb w,a=y.1:=
 h.mono fun _ W ⟨he,b⟩=>⟨he,⟨W,x.2.trans (b.mono x.2.size)⟩,Z⟩
theorem aE{w w':p7}(h:∃x:Wb w,w'=x.1):FS w w':=by
 obtain⟨x,rfl⟩:=h;exact x.2
theorem Wb.b{w:p7}(x:Wb w){a:Addr}{v:r3}(h:w.cell? a=A v):x.1.cell? a=A v:=
 (x.2.cell (World.block_lt_of_cell? w a h)).trans h
