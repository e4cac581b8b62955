/- Parts of one proof, joined; conditions stand in each theorem. -/
import Derived.Test.YtoonjedifockoaaGreatDoorMB
import Derived.StillTailTactics
import Derived.Test.YtoonjedifockoaaGreatDoorMA
import Derived.Laws.OwnMore
import Derived.Deep.DeepAppendRoom
import Derived.Deep.QuietTactic
import Derived.BigQuiet
namespace Go.Proofs.YtoonjedifockoaaGreatDoor
open Go.IntKind(i64)
open Go.Value(int string slice)
set_option maxHeartbeats 1000000
open Go.RowKit
def nameAt(k:Nat) (c:UInt8):Bool:=isLow c||(decide (k≠0)&&(bU c||c==95))
def di(k:Nat):List UInt8→Bool
 | []=>true
 | c::r=>nameAt k c&&di (k+1) r
def bv(l:List UInt8):Bool:=di 0 l&&decide (1≤l.length)&&decide (l.length≤24)
theorem lD(s:ByteArray)(w:World)(B:s.size≤9223372036854775807) :
  Calls Tryz.prog 18 #[.string s] w fun e w'=>e=.returned (.bool (bv s.data.toList))∧w=w':=by
 have hw:∀x,bv s.data.toList=x→∀(e:Ending) (w':World),e=.returned (.bool x)→w=w'→(e=.returned (.bool (bv s.data.toList))∧w=w'):=by intro x y e w' he z;rw[y];exact⟨he,z⟩
 have d:=Hd hw;clear hw
 go_enter Tryz.func18,Tryz.ntmps18
 go_wp2
 go_loop [3] (fun i=>∃k:Nat,k≤s.size∧i=int i64 k∧di k (s.data.toList.drop k)=di 0 s.data.toList) (fun i=>s.size-(intOf i).toNat)
 case atStart=>exact⟨0,by omega,rfl,rfl⟩
 case round =>
  obtain⟨k,C,rfl,m⟩:=hrel;have q:=Hd m;clear m
  by_cases r:k<s.size
  ·have D:=s[k].toNat_lt;have u:Hid (di k (s.data.toList.drop k)=(nameAt k s[k]&&di (k+1) (s.data.toList.drop (k+1)))):=by
    show di k (s.data.toList.drop k)=_
    rw[drop_cons s k r];rfl
   have a:(s[k]==95)=decide (s[k].toNat=95):=by rw[Fc];simp[←UInt8.toNat_inj]
   have f:Hid (nameAt k s[k]=((decide (97≤s[k].toNat)&&decide (s[k].toNat≤122))||(decide (k≠0)&&((decide (48≤s[k].toNat)&&decide (s[k].toNat≤57))||decide (s[k].toNat=95))))):=by
    show nameAt k s[k]=_
    unfold nameAt;rw[a];rfl
   clear a;have n:nameAt k s[k]=true→di (k+1) (s.data.toList.drop (k+1))=di 0 s.data.toList:=fun h=>by rw[←q.o,u.o,h,Bool.true_and]
   have p:nameAt k s[k]=false→bv s.data.toList=false:=fun h=>by unfold bv;rw[←q.o,u.o,h];rfl
   have j:=Hd n;have b:=Hd p;clear n p;have g:(97≤s[k].toNat∧s[k].toNat≤122)∨(0<k∧48≤s[k].toNat∧s[k].toNat≤57)∨(0<k∧95≤s[k].toNat∧s[k].toNat≤95)∨
     (0<k∧s[k].toNat<48)∨(0<k∧57<s[k].toNat∧s[k].toNat<95)∨(0<k∧95<s[k].toNat∧s[k].toNat<97)∨(0<k∧122<s[k].toNat)∨(k=0∧s[k].toNat<97)∨(k=0∧122<s[k].toNat):=by omega
   rcases g with ⟨g1,g2⟩|⟨g0,g1,g2⟩|⟨g0,g1,g2⟩|⟨g0,g1⟩|⟨g0,g1,g2⟩|⟨g0,g1,g2⟩|⟨g0,g1⟩|⟨rfl,g1⟩|⟨rfl,g1⟩
   ·go_wp2
    exact⟨⟨k+1,by omega,by go_num,j.o (by rw[f.o];simp;omega)⟩,by simp[intOf];omega⟩
   ·have c:((k:Int)==0)=false:=by simp;omega
    go_wp2
    exact⟨⟨k+1,by omega,by go_num,j.o (by rw[f.o];simp;omega)⟩,by simp[intOf];omega⟩
   ·have c:((k:Int)==0)=false:=by simp;omega
    have a:((s[k].toNat:Int)==95)=true:=by simp;omega
    have l:decide ((s[k].toNat:Int)≤57)=false:=by simp;omega
    go_wp2
    exact⟨⟨k+1,by omega,by go_num,j.o (by rw[f.o];simp;omega)⟩,by simp[intOf];omega⟩
   ·have c:((k:Int)==0)=false:=by simp;omega
    have a:((s[k].toNat:Int)==95)=false:=by simp;omega
    go_wp2
    go_ret;exact d.o false (b.o (by rw[f.o];simp;omega)) _ _ rfl rfl
   ·have c:((k:Int)==0)=false:=by simp;omega
    have a:((s[k].toNat:Int)==95)=false:=by simp;omega
    have l:decide ((s[k].toNat:Int)≤57)=false:=by simp;omega
    go_wp2
    go_ret;exact d.o false (b.o (by rw[f.o];simp;omega)) _ _ rfl rfl
   ·have c:((k:Int)==0)=false:=by simp;omega
    have a:((s[k].toNat:Int)==95)=false:=by simp;omega
    have l:decide ((s[k].toNat:Int)≤57)=false:=by simp;omega
    go_wp2
    go_ret;exact d.o false (b.o (by rw[f.o];simp;omega)) _ _ rfl rfl
   ·have c:((k:Int)==0)=false:=by simp;omega
    have a:((s[k].toNat:Int)==95)=false:=by simp;omega
    have A:decide ((s[k].toNat:Int)≤122)=false:=by simp;omega
    have l:decide ((s[k].toNat:Int)≤57)=false:=by simp;omega
    go_wp2
    go_ret;exact d.o false (b.o (by rw[f.o];simp;omega)) _ _ rfl rfl
   ·go_wp2
    go_ret;exact d.o false (b.o (by rw[f.o];simp;omega)) _ _ rfl rfl
   ·have A:decide ((s[0].toNat:Int)≤122)=false:=by simp;omega
    go_wp2
    go_ret;exact d.o false (b.o (by rw[f.o];simp;omega)) _ _ rfl rfl
  ·obtain rfl:k=s.size:=by omega
   have he:di 0 s.data.toList=true:=by rw[←q.o,drop_end s _ (EA _)];rfl
   have v:s.data.toList.length=s.size:=by simp
   have t:Hid (bv s.data.toList=(decide (1≤s.size)&&decide (s.size≤24))):=by
    show bv s.data.toList=_
    unfold bv;rw[he,v,Bool.true_and]
   clear he v
   by_cases E:1≤s.size
   ·by_cases F:s.size≤24
    ·go_wp2
     go_ret;exact d.o true (by rw[t.o];simp;omega) _ _ (by simp;omega) rfl
    ·go_wp2
     go_ret;exact d.o false (by rw[t.o];simp;omega) _ _ (by simp;omega) rfl
   ·go_wp2
    go_ret;exact d.o false (by rw[t.o];simp;omega) _ _ rfl rfl
inductive ac where
 | mk (kind:Nat) (text:ByteArray) (num place:Int) (kids:List ac)
def ac.kind:ac→Nat | .mk k _ _ _ _=>k
def ac.text:ac→ByteArray | .mk _ t _ _ _=>t
def ac.num:ac→Int | .mk _ _ n _ _=>n
def ac.place:ac→Int | .mk _ _ _ p _=>p
def ac.kids:ac→List ac | .mk _ _ _ _ l=>l
def fu:Nat→ac→Nat
 | 0,_=>1
 | d+1,T=>(T.kids.map (fu d)).foldl Nat.max 0+1
def dA:Nat→ac→Nat
 | 0,_=>1
 | d+1,T=>(T.kids.map (dA d)).foldl (· + ·) 1
def qV:List ByteArray:=[⟨#[111,114]⟩,⟨#[97,110,100]⟩,⟨#[61]⟩,⟨#[33,61]⟩,⟨#[60]⟩,⟨#[60,61]⟩,⟨#[62]⟩,⟨#[62,61]⟩,⟨#[43]⟩,⟨#[45]⟩,⟨#[42]⟩]
def qI:List ByteArray:=[⟨#[45]⟩,⟨#[110,111,116]⟩]
def gA(l:List ByteArray) (x:List UInt8):Bool:=l.any (fun b=>b.data.toList==x)
def strip(l:List UInt8):List UInt8:=match l with|45::r=>r|l=>l
def eL(l:List UInt8):Bool:=match l with|45::_=>true|_=>false
def tH(kind:Nat) (text:List UInt8) (kids:Nat):Bool:=
 if kind==2||kind==3||kind==4||kind==5||kind==6||kind==8 then bv text&&!jI text
 else if kind==13||kind==15 then bv text
 else if kind==14 then (number (strip text)).isSome
 else if kind==16 then (kids==1&&gA qI text)||(kids==2&&gA qV text)
 else text.isEmpty
def sP(kind:Nat) (num:Int):Bool:=
 if kind==4 then decide (-2147483647≤num)&&decide (num≤2147483647)
 else if kind==9 then decide (0≤num)&&decide (num≤2147483647)
 else num==0
def cZ(S:List Nat) (l:List ac):Bool:=l.all (fun t=>S.contains t.kind)
def fS(l:List ac):Bool:=l.all (fun t=>!(t.kind==14&&eL t.text.data.toList))&&cZ [13,14,15,16] l
def cK(t:ac):Bool:=[5,6,7].contains t.kind
def rowB(l:List ac):Bool:=cZ [8,9,10,11] (l.dropWhile cK)
def fA(kind:Nat) (l:List ac):Bool:=
 if kind==1 then cZ [2,4] l
 else if kind==2 then cZ [3] l
 else if kind==4 then rowB l
 else if kind==5||kind==6 then cZ [12,13,14,15] l
 else if kind==7 then l.length==1&&fS l
 else if kind==8||kind==16 then fS l
 else if kind==10 then decide (0<l.length)&&fS l
 else l.isEmpty
def cw(T:ac):Bool:=decide (1≤T.kind)&&decide (T.kind≤16)&&tH T.kind T.text.data.toList T.kids.length&&sP T.kind T.num&&decide (0≤T.place)&&fA T.kind T.kids
def okF:Nat→ac→Bool
 | 0,T=>cw T
 | d+1,T=>cw T&&T.kids.all (okF d)
def iJ(d:Nat) (T:ac):Bool:=T.kind==1&&okF d T&&decide (fu d T≤30)&&decide (dA d T≤4096)
def Fits(T:ac):Prop:=T.kind<256∧T.text.size≤maxLen∧-9223372036854775808≤T.num∧T.num<9223372036854775808∧-9223372036854775808≤T.place∧T.place<9223372036854775808
def aD(w:World) (B:Nat):Nat→List ac→Value→Prop
 | 0,a,c=>a=[]∧∃sp cap,c=.slice sp 0 cap
 | d+1,a,c=>(a=[]∧∃sp cap,c=.slice sp 0 cap)∨
   ∃b off cap,a≠[]∧b<B∧a.length≤cap∧cap≤maxLen∧c=slice (some ⟨b,off,none⟩) a.length cap∧
    ∀i T,a[i]?=some T→Fits T∧∃s,w.cell? ⟨b,off+i*5,none⟩=some (int .u8 T.kind)∧w.cell? ⟨b,off+i*5+1,none⟩=some (.string T.text)∧
     w.cell? ⟨b,off+i*5+2,none⟩=some (int i64 T.num)∧w.cell? ⟨b,off+i*5+3,none⟩=some (int i64 T.place)∧w.cell? ⟨b,off+i*5+4,none⟩=some s∧aD w B d T.kids s
def eO(w:World) (B:Nat) (d:Nat) (T:ac) (v:Value):Prop:=Fits T∧∃s,v=.agg #[int .u8 T.kind,.string T.text,int i64 T.num,int i64 T.place,s]∧aD w B d T.kids s
theorem aD.below{w w':World}{B:Nat}(g:Below B w w'):∀{d:Nat} {a:List ac} {c:Value},aD w B d a c→aD w' B d a c:=by
 intro d
 induction d with
 | zero=>intro a c h;exact h
 | succ d k =>
  intro a c h;rcases h with h|⟨b,off,cap,l,f,m,n,o,q⟩
  ·exact Or.inl h
  ·refine Or.inr ⟨b,off,cap,l,f,m,n,o,fun i T r=>?_⟩;obtain⟨t,s,u,v,c2,x,c4,y⟩:=q i T r;have e:∀j,w'.cell? ⟨b,j,none⟩=w.cell? ⟨b,j,none⟩:=fun j=>g.cell (p:=⟨b,j,none⟩) f
   exact⟨t,s,(e _).trans u,(e _).trans v,(e _).trans c2,(e _).trans x,(e _).trans c4,k y⟩
theorem aD.up{w:World}{B e:Nat}(hB:B≤e):∀{d:Nat} {a:List ac} {c:Value},aD w B d a c→aD w e d a c:=by
 intro d
 induction d with
 | zero=>intro a c h;exact h
 | succ d f =>
  intro a c h;rcases h with h|⟨b,off,cap,g,j,k,l,m,n⟩
  ·exact Or.inl h
  ·refine Or.inr ⟨b,off,cap,g,EF j hB,k,l,m,fun i T o=>?_⟩;obtain⟨p,s,q,r,c2,t,c4,u⟩:=n i T o;exact⟨p,s,q,r,c2,t,c4,f u⟩
theorem eO.below{w w':World}{B d:Nat}{T:ac}{v:Value}(h:eO w B d T v)(a:Below B w w'):eO w' B d T v:=by
 obtain⟨b,s,rfl,c⟩:=h;exact⟨b,s,rfl,c.below a⟩
theorem aD.cases{w:World}{B d:Nat}{a:List ac}{c:Value}(h:aD w B d a c):(a=[]∧∃sp cap,c=.slice sp 0 cap)∨
  ∃d' b off cap,d=d'+1∧a≠[]∧b<B∧a.length≤cap∧cap≤maxLen∧c=slice (some ⟨b,off,none⟩) a.length cap∧
   ∀i T,a[i]?=some T→Fits T∧∃s,w.cell? ⟨b,off+i*5,none⟩=some (int .u8 T.kind)∧w.cell? ⟨b,off+i*5+1,none⟩=some (.string T.text)∧
     w.cell? ⟨b,off+i*5+2,none⟩=some (int i64 T.num)∧w.cell? ⟨b,off+i*5+3,none⟩=some (int i64 T.place)∧w.cell? ⟨b,off+i*5+4,none⟩=some s∧aD w B d' T.kids s:=by
 cases d with
 | zero=>exact Or.inl h
 | succ d =>
  rcases h with h|⟨b,off,cap,e,f,g,j,k,l⟩
  ·exact Or.inl h
  ·exact Or.inr ⟨d,b,off,cap,rfl,e,f,g,j,k,l⟩
theorem DR(w:World)(T:ac)(s:Value):(w.alloc (.cells #[int .u8 T.kind,.string T.text,int i64 T.num,int i64 T.place,s] 76)).cell? ⟨w.heap.size,4,none⟩=some s:=by
 rw[Fq _ _ 4 _ _ _ (n7 w _)];rfl
theorem rl(l:List Nat):∀a:Nat,l.foldl (· + ·) a=a+l.foldl (· + ·) 0:=by
 induction l with
 | nil=>intro a;rfl
 | cons x l b=>intro a;rw[List.foldl_cons,b,List.foldl_cons,b (0+x)];omega
theorem aD.shape{w:World}{B d:Nat}{e:List ac}{a:Value}(h:aD w B d e a):∃p n c,a=.slice p n c:=by
 rcases h.cases with ⟨_,sp,cap,rfl⟩|⟨_,b,off,cap,_,_,_,_,_,rfl,_⟩
 ·exact⟨_,_,_,rfl⟩
 ·exact⟨_,_,_,rfl⟩
theorem eO.alloc{w:World}{B d:Nat}{T:ac}{v:Value}(h:eO w B d T v)(hB:B≤w.heap.size)(o:Obj):eO (w.alloc o) B d T v:=h.below (((EB _ w).alloc (EA _) o).mono hB)
def ax(w:World) (e:Ending) (w':World):Prop:=e=.returned (.bool true)∧Ft w w'
def ie(w:World) (n:Nat) (i:Value) (W:World):Prop:=∃(a:World) (k:Nat),a=W∧k≤n∧i=int i64 k∧Ft w a
theorem s5(l:List UInt8):∀k,di (k+1) l=l.all aW:=by
 induction l with
 | nil=>intro k;rfl
 | cons c r a =>
  intro k
  show (nameAt (k+1) c&&di (k+2) r)=_
  rw[a (k+1),List.all_cons]
  congr 1
  unfold nameAt aW;simp[Bool.or_assoc]
theorem nL(c:UInt8)(r:List UInt8):bv (c::r)=(isLow c&&r.all aW&&decide (r.length+1≤24)):=by
 unfold bv
 show ((nameAt 0 c&&di 1 r)&&decide (1≤r.length+1)&&decide (r.length+1≤24))=_
 rw[s5 r 0];have h:nameAt 0 c=isLow c:=by unfold nameAt;simp
 rw[h];simp
theorem v9(l:List UInt8)(h:bv l=true):1≤l.length∧l.length≤24:=by
 unfold bv at h;simp only[EQ,oe]at h;exact⟨h.1.2,h.2⟩
theorem En(c:UInt8)(h:isLow c=true):aW c=true:=by unfold aW;rw[h];rfl
def aQ(t:ByteArray):ByteArray:=⟨(39::t.data.toList).toArray⟩
theorem nN(t:ByteArray):(aQ t).data.toList=39::t.data.toList:=rfl
theorem kP(t:ByteArray):(aQ t).size=t.size+1:=by
 show (39::t.data.toList).toArray.size=_
 simp
def iM(t:ByteArray):Bool:=(aE (aQ t) 0).2==none&&(aE (aQ t) 0).1.map (fun x=>x.2.1.data.toList)==[t.data.toList]
theorem vg(p:UInt8→Bool)(s:ByteArray)(k:Nat)(l:List UInt8)(h:s.data.toList.drop k=l):aA p s k=k+(l.takeWhile p).length:=by unfold aA;rw[h]
theorem lQ(p:UInt8→Bool):∀l:List UInt8,(l.takeWhile p).length=l.length→l.all p=true:=by
 intro l
 induction l with
 | nil=>intro _;rfl
 | cons c r a =>
  intro h;rw[List.takeWhile_cons]at h
  split at h
  ·rename_i b
   simp only[Fb,Nat.add_right_cancel_iff]at h;rw[List.all_cons,b,a h];rfl
  ·simp at h
theorem qH(p:UInt8→Bool)(l:List UInt8)(h:l.all p=true):l.takeWhile p=l:=by
 induction l with
 | nil=>rfl
 | cons c r a =>
  rw[List.all_cons,EQ]at h;rw[List.takeWhile_cons,n9 h.1,a h.2]
theorem jm(t:ByteArray):al (aQ t) 0 39=(5,(aQ t).extract 1 (aA aW (aQ t) 1),if eA ((aQ t).extract 1 (aA aW (aQ t) 1)).data.toList then 0 else 201,aA aW (aQ t) 1):=by
 unfold al;rw[n8 (by decide),n9 (by decide),n9 (by decide)]
theorem mU(t:ByteArray)(e:Nat):((aQ t).extract 1 e).data.toList=t.data.toList.take (e-1):=by
 rw[ByteArray.data_extract,Array.toList_extract,nN];simp[List.extract]
theorem og(c:UInt8)(r:List UInt8):eA (c::r)=(decide (r.length+1≤24)&&isLow c):=rfl
theorem fx(t:ByteArray):iM t=bv t.data.toList:=by
 have s:0<(aQ t).size:=by rw[kP];omega
 have n:(aQ t)[0]=39:=rfl;have o:skip (aQ t) 0=0:=iC _ 0 s (by rw[n];rfl) (by rw[n];rfl);have u:(aQ t).data.toList.drop 1=t.data.toList:=rfl;have he:aA aW (aQ t) 1=1+(t.data.toList.takeWhile aW).length:=vg aW _ 1 _ u;have hlen:(t.data.toList.takeWhile aW).length≤t.data.toList.length:=(List.takeWhile_sublist aW).length_le;have g:skip (aQ t) 0<(aQ t).size:=by rw[o];exact s
 have a:al (aQ t) (skip (aQ t) 0) (aQ t)[skip (aQ t) 0]=al (aQ t) 0 39:=by simp only[o,n]
 rw[Fc]
 constructor
 ·intro h;unfold iM at h;rw[EQ,o2,o2]at h;obtain⟨i,j⟩:=h
  by_cases d:(al (aQ t) (skip (aQ t) 0) (aQ t)[skip (aQ t) 0]).2.2.1=0
  ·rw[eF _ _ g d,a,jm]at j;rw[a,jm]at d;simp only[List.map_cons,List.cons.injEq]at j;have k:=j.1;rw[mU,he]at k;have v:(t.data.toList.takeWhile aW).length=t.data.toList.length:=by
    have:=oT List.length k;rw[List.length_take]at this;omega
   have b:=lQ aW _ v;dsimp only at d;rw[mU,he,k]at d;have l:eA t.data.toList=true:=by
    cases w:eA t.data.toList with
    | true=>rfl
    | false=>rw[w]at d;cases d
   cases e:t.data.toList with
   | nil=>rw[e]at l;cases l
   | cons c r =>
    rw[e,og,EQ]at l;rw[e,List.all_cons,EQ]at b;rw[nL,l.1,l.2,b.2];rfl
  ·rw[eM _ _ g d]at i
   cases i
 ·intro h
  cases e:t.data.toList with
  | nil=>rw[e]at h;cases h
  | cons c r =>
   rw[e,nL,EQ,EQ]at h;obtain⟨⟨i,j⟩,k⟩:=h;have b:t.data.toList.all aW=true:=by rw[e,List.all_cons,j,En c i];rfl
   have m:=qH aW _ b;have f:((aQ t).extract 1 (aA aW (aQ t) 1)).data.toList=t.data.toList:=by
    rw[mU,he,m];exact ER (by omega)
   have p:eA t.data.toList=true:=by rw[e,og,k,i];rfl
   have d:(al (aQ t) (skip (aQ t) 0) (aQ t)[skip (aQ t) 0]).2.2.1=0:=by
    rw[a,jm]
    show (if eA _ then 0 else 201)=0
    rw[f,p];rfl
   have hend:aE (aQ t) (aA aW (aQ t) 1)=([],none):=by
    apply dr;have x:(aQ t).size≤aA aW (aQ t) 1:=by
     rw[he,m,kP,EY]
     show t.data.size+1≤1+t.data.size
     omega
    rw[eu _ _ x];omega
   have q:aE (aQ t) 0=([(5,(aQ t).extract 1 (aA aW (aQ t) 1),0)],none):=by
    rw[eF _ _ g d,a,jm];dsimp only;rw[hend,o]
   unfold iM;rw[q]
   show ((none:Option (Nat×Nat))==none&&[((aQ t).extract 1 (aA aW (aQ t) 1)).data.toList]==[t.data.toList])=true
   rw[f];simp
theorem vd(t:ByteArray)(h:16384≤t.size):bv t.data.toList=false:=by
 cases a:bv t.data.toList with
 | false=>rfl
 | true =>
  have:=(v9 _ a).2;rw[EY]at this;have b:t.size=t.data.size:=rfl;omega
def iQ:Nat→ac→Prop
 | 0,T=>T.text.size≤72007
 | d+1,T=>T.text.size≤72007∧T.kids.length≤20000∧∀k∈T.kids,iQ d k
def sQ:Nat→List ac→Prop
 | 0,_=>True
 | d+1,a=>a.length≤20000∧∀k∈a,iQ d k
theorem iQ.kids{d:Nat}{T:ac}(h:iQ d T):sQ d T.kids:=by
 cases d with
 | zero=>trivial
 | succ d=>exact h.2
theorem iQ.text{d:Nat}{T:ac}(h:iQ d T):T.text.size≤72007:=by
 cases d with
 | zero=>exact h
 | succ d=>exact h.1
def ap(x:Bool) (w:World) (e:Ending) (w':World):Prop:=e=.returned (.bool x)∧Ft w w'
theorem bz(w:World)(a b:Obj):Ft w ((w.alloc a).alloc b):=((EB _ w).alloc (EA _) _).alloc (by simp) _
def aw(T:ac) (s:Value):List Value:=[int .u8 T.kind,.string T.text,int i64 T.num,int i64 T.place,s]
theorem flat5:∀(rows:List (List Value)),(∀r∈rows,r.length=5)→∀(i m:Nat) (r:List Value) (u:Value),rows[i]?=some r→r[m]?=some u→rows.flatten[i*5+m]?=some u:=by
 intro rows
 induction rows with
 | nil=>intro _ i m r u h _;simp at h
 | cons x rows c =>
  intro b i m r u a hm;have e:x.length=5:=b x (List.mem_cons_self ..);rw[List.flatten_cons]
  cases i with
  | zero =>
   simp only[List.getElem?_cons_zero,ox]at a;subst a;have:m<x.length:=(EP.1 hm).1;rw[Nat.zero_mul,Nat.zero_add,Fi this];exact hm
  | succ i =>
   rw[Fj]at a;have:=c (fun r d=>b r (List.mem_cons_of_mem _ d)) i m r u a hm;rw[EZ (by omega)];rw[←this]
   congr 1
   omega
theorem i4(i:Nat)(w:World)(a:i≤100):Calls Tryz.prog 54 #[int i64 1,int i64 i] w fun e w'=>e=.returned (int i64 (8000024+(i:Int)))∧w=w':=by
 have b:(0:Int)≤i:=by omega
 have c:(i:Int)≤100:=by omega
 go_enter Tryz.func54,Tryz.ntmps54
 go_wp2
 go_ret;exact⟨rfl,rfl⟩
theorem pp:(Tryz.prog.info? 76).map (fun i=>(i.zero,i.size,i.bytes))=some (some (.agg #[int .u8 0,.string ByteArray.empty,int i64 0,int i64 0,slice none 0 0]),5,64):=by kernel_rfl
def xZ(w:World) (d b o:Nat) (B:Nat) (T:ac):Prop:=
 Fits T∧∃s,w.cell? ⟨b,o,none⟩=some (int .u8 T.kind)∧w.cell? ⟨b,o+1,none⟩=some (.string T.text)∧w.cell? ⟨b,o+2,none⟩=some (int i64 T.num)∧w.cell? ⟨b,o+3,none⟩=some (int i64 T.place)∧w.cell? ⟨b,o+4,none⟩=some s∧aD w B d T.kids s
theorem aD.rows{w:World}{B d:Nat}{e:List ac}{g:Value}(h:aD w B d e g) :
  ∃p c,g=.slice p e.length c∧e.length≤maxLen∧∀i T,e[i]?=some T→d=d-1+1∧∃b off,p=some ⟨b,off,none⟩∧b<B∧xZ w (d-1) b (off+i*5) B T:=by
 rcases h.cases with ⟨rfl,sp,cap,rfl⟩|⟨d',b,off,cap,rfl,j,k,l,hm,rfl,a⟩
 ·exact⟨sp,cap,rfl,EM _,fun i T f=>by simp at f⟩
 ·refine⟨_,cap,rfl,EG l hm,fun i T f=>⟨by omega,b,off,rfl,k,a i T f⟩⟩
theorem xZ.node{w W:World}{B d b o:Nat}{t:ac}(hB:Below B w W)(a:b<B)(h:xZ w d b o B t) :
  ∃p n c,W.cell? ⟨b,o,none⟩=some (int .u8 t.kind)∧W.cell? ⟨b,o+1,none⟩=some (.string t.text)∧
       W.cell? ⟨b,o+2,none⟩=some (int i64 t.num)∧W.cell? ⟨b,o+3,none⟩=some (int i64 t.place)∧W.cell? ⟨b,o+4,none⟩=some (.slice p n c)∧
       eO W B d t (.agg #[int .u8 t.kind,.string t.text,int i64 t.num,int i64 t.place,.slice p n c]):=by
 obtain⟨g,s,i,k,c2,l,c4,f⟩:=h;obtain⟨p,n,c,rfl⟩:=f.shape;have e:∀j,W.cell? ⟨b,j,none⟩=w.cell? ⟨b,j,none⟩:=fun j=>hB.cell (p:=⟨b,j,none⟩) a
 exact⟨p,n,c,(e _).trans i,(e _).trans k,(e _).trans c2,(e _).trans l,(e _).trans c4,g,_,rfl,f.below hB⟩
theorem below_grown{B g:Nat}{w W W':World}(a:Below B w W)(c:B≤W.heap.size)(b:W.grownBy W' (some g))(f:B≤g):Below B w W':=
 ⟨b.os.trans a.os,b.tape.trans a.tape,b.output.trans a.output,EG a.size b.size,fun i d=>(b.block i (EF d c) (by intro e;simp at e;omega)).trans (a.block i d)⟩
theorem iz(w:World)(l:List Value)(t:TypeId):∀(j:Nat) (u:Value),l[j]?=some u→(w.alloc (.cells l.toArray t)).cell? ((⟨w.heap.size,0,none⟩:Addr).add j)=some u:=lT w l t
def Wb(w:World):={W:World // Ft w W}
instance (w:World):Nonempty (Wb w):=⟨⟨w,EB _ w⟩⟩
theorem ae{P:Program}{id:Nat}{Q:Exit→Act→World→Prop}{a:Act}{w:World}{l:List Oper}(hm:P.follows .mixedOrders=true)(hB:Region.lexB .any l.toArray=true)
  (h:wpQuiet P l.toArray (fun w'=>∃x:Wb w,w'=x.1) (fun b=>∀w',(∃x:Wb w,w'=x.1)→Q .normal b w') l a):(Code.region id l.toArray true).wp P Q a w:=
 wp_region_quiet (C:=fun w'=>∃x:Wb w,w'=x.1) hm hB ⟨⟨w.drew,(EB _ w).drew⟩,rfl⟩ (by simpa using h)
theorem Calls.below_of{P:Program}{f:FuncId}{args:Array Value}{w:World}{x:Wb w}{v:Value}
  (h:Calls P f args x.1 fun e w'=>e=.returned v∧Below x.1.heap.size x.1 w'):Calls P f args x.1 fun e a=>e=.returned v∧∃y:Wb w,a=y.1:=
 h.mono fun _ W ⟨he,b⟩=>⟨he,⟨W,x.2.trans (b.mono x.2.size)⟩,rfl⟩
theorem az{w w':World}(h:∃x:Wb w,w'=x.1):Ft w w':=by
 obtain⟨x,rfl⟩:=h;exact x.2
theorem Wb.cell{w:World}(x:Wb w){a:Addr}{v:Value}(h:w.cell? a=some v):x.1.cell? a=some v:=
 (x.2.cell (World.block_lt_of_cell? w a h)).trans h
theorem cellsOf{w:World}{b o:Nat}{T:ac}{s:Value}(h:∀m u,(aw T s)[m]?=some u→w.cell? ⟨b,o+m,none⟩=some u) :
  w.cell? ⟨b,o,none⟩=some (int .u8 T.kind)∧w.cell? ⟨b,o+1,none⟩=some (.string T.text)∧w.cell? ⟨b,o+2,none⟩=some (int i64 T.num)∧w.cell? ⟨b,o+3,none⟩=some (int i64 T.place)∧w.cell? ⟨b,o+4,none⟩=some s:=
 ⟨h 0 _ rfl,h 1 _ rfl,h 2 _ rfl,h 3 _ rfl,h 4 _ rfl⟩
