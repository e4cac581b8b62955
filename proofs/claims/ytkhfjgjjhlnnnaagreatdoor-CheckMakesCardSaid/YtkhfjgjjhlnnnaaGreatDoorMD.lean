/- Parts of one proof, joined; conditions stand in each theorem. -/
import Derived.Test.YtkhfjgjjhlnnnaaGreatDoorMB
import Derived.StillTailTactics
import Derived.Test.YtkhfjgjjhlnnnaaGreatDoorMA
import Derived.Laws.OwnMore
import Derived.Deep.DeepAppendRoom
import Derived.Deep.QuietTactic
import Derived.BigQuiet
open Go renaming World→vk,Calls→wB,Ending→Bs,Value→vn,undef→xD,wpQuiet_nil→z7
open Go.Proofs.Tryz renaming prog→wq
open Go.Value renaming int→I,bool→xS,string→J,tuple→AJ,slice→A,agg→wD,pointer→wF
open Go.IntKind renaming u8→O,i64→Z
open Go.Ending renaming returned→xv
open Decidable renaming decide→wo
open Bool renaming false→wj,true→wg
open Option renaming none→U,some→Y
open Or renaming inl→wP,inr→xj
open Go.Obj renaming cells→ur
namespace Go.Proofs.YtkhfjgjjhlnnnaaGreatDoor
set_option maxHeartbeats 2000000
set_option maxRecDepth 100000
open Go.RowKit
theorem yn(c:UInt8)(w:vk) :
  wB wq 254 #[I O (c.toNat:Int)] w fun e w'=>e=xv (xS (bQ c))∧w=w':=by
 have b:=c.toNat_lt;have a:Hid (bQ c=(wo (48≤c.toNat)&&wo (c.toNat≤57))):=rfl;generalize bQ c=x at *;generalize c.toNat=n at *
 go_enter Tryz.func254,Tryz.ntmps254
 go_wp2
 all_goals (go_ret;refine⟨?_,V⟩;rw[a.o];refine ah ?_;rw[FV];simp;omega)
theorem jS(s:ByteArray)(w:vk)(R:s.size≤100000) :
  wB wq 220 #[J s] w fun e w'=>e=xv (AJ #[I Z (((number s.data.toList).getD 0:Nat):Int),xS (number s.data.toList).isSome])∧w=w':=by
 have a:∀(o:Option Nat),number s.data.toList=o→∀(e:Bs) (w':vk),e=xv (AJ #[I Z ((o.getD 0:Nat):Int),xS o.isSome])→w=w'→(e=xv (AJ #[I Z (((number s.data.toList).getD 0:Nat):Int),xS (number s.data.toList).isSome])∧w=w'):=by intro o H e w' he t;rw[H];exact⟨he,t⟩
 have p:=Hd a;clear a
 go_enter Tryz.func220,Tryz.ntmps220
 go_wp2
 go_loop [4,5] (fun n i=>∃(k m:Nat),k≤s.size∧i=I Z k∧n=I Z m∧m≤9223372036854775807∧fE m (s.data.toList.drop k)=fE 0 s.data.toList) (fun _ i=>s.size-(intOf i).toNat)
 case atStart=>exact⟨0,0,FA _,V,V,by omega,V⟩
 case round =>
  obtain⟨k,m,S,rfl,rfl,hm,b⟩:=hrel;have q:=Hd b;clear b
  by_cases g:k<s.size
  ·have T:=s[k].toNat_lt;obtain⟨B,C⟩:=zz2 (sd s k m g) (uA s k m g);have D:Hid (bQ s[k]=(wo (48≤s[k].toNat)&&wo (s[k].toNat≤57))):=rfl;have E:=Hd (fun W=>yn s[k] W);generalize u:bQ s[k]=F at *;generalize v:s[k].toNat=d at *;have K:=Hd v;have j:(F=wj∨kN<10*m+(d-48))→number s.data.toList=none:=fun h=>by rw[lu s (by omega),←q.o];exact C.o h
   have c:=Hd j;clear j u
   cases F
   ·have L:Hid (number s.data.toList=U):=c.o (wP V);clear c B C D
    go_wp2_with (first
     | (go_at_call 254;refine (E.o _).mono ?_;rintro e w' ⟨rfl,rfl⟩))
    go_ret2
    exact p.o U L.o _ _ V V
   ·have t:48≤d∧d≤57:=by
     have:=D.o;simp at this;omega
    obtain⟨M,N⟩:=t;have P:(48:Int)≤d:=by omega
    go_wp2_with (first
     | (go_at_call 254;refine (E.o _).mono ?_;rintro e w' ⟨rfl,rfl⟩))
    ·go_ret2
     have r:9223372036854775807<10*m+(d-48):=by omega
     exact p.o U (c.o (xj r)) _ _ V V
    ·have r:10*m+(d-48)≤9223372036854775807:=by omega
     refine⟨⟨k+1,10*m+(d-48),by omega,by go_num,?_,r,?_⟩,by simp[intOf];omega⟩
     ·congr 1;omega
     ·rw[←B.o (by trivial) r];exact q.o
  ·obtain rfl:k=s.size:=by omega
   rcases Nat.eq_zero_or_pos s.size with f|f
   ·have x:m=0:=by
     have y:=q.o;have e:s.data.toList=[]:=FP (by rw[FQ];exact f);rw[e]at y;simp[fE]at y;exact y
    have he:s.toList.isEmpty=true:=by rw[FB,FP (l:=s.data.toList) (by rw[FQ];exact f)];rfl
    have z:=Hd f;subst x;clear f
    go_wp2
    go_ret2
    exact p.o U (qA s z.o) _ _ V V
   ·have he:s.toList.isEmpty=false:=fj s f;have G:number s.data.toList=Y m:=by rw[lu s f,←q.o,drop_end s _ (Fj _)];rfl
    have Q:=Hd G;clear G
    go_wp2
    go_ret2
    exact p.o _ Q.o _ _ V V
theorem xO(w:vk) :
  wB wq 218 #[] w fun e w'=>e=xv (A (Y ⟨w.heap.size,0,U⟩) 11 11)∧w'=w.alloc (ur (fa.map J).toArray 9):=by
 go_enter Tryz.func218,Tryz.ntmps218
 go_wp2
 go_ret;exact⟨V,V⟩
def nameAt(k:Nat) (c:UInt8):Bool:=isLow c||(wo (k≠0)&&(bQ c||c==95))
def dz(k:Nat):List UInt8→Bool
 | []=>wg
 | c::r=>nameAt k c&&dz (k+1) r
def aN(l:List UInt8):Bool:=dz 0 l&&wo (1≤l.length)&&wo (l.length≤24)
theorem yo(s:ByteArray)(w:vk)(C:s.size≤9223372036854775807) :
  wB wq 147 #[J s] w fun e w'=>e=xv (xS (aN s.data.toList))∧w=w':=by
 have hw:∀x,aN s.data.toList=x→∀(e:Bs) (w':vk),e=xv (xS x)→w=w'→(e=xv (xS (aN s.data.toList))∧w=w'):=by intro x y e w' he z;rw[y];exact⟨he,z⟩
 have d:=Hd hw;clear hw
 go_enter Tryz.func147,Tryz.ntmps147
 go_wp2
 go_loop [3] (fun i=>∃k:Nat,k≤s.size∧i=I Z k∧dz k (s.data.toList.drop k)=dz 0 s.data.toList) (fun i=>s.size-(intOf i).toNat)
 case atStart=>exact⟨0,by omega,V,V⟩
 case round =>
  obtain⟨k,D,rfl,m⟩:=hrel;have q:=Hd m;clear m
  by_cases r:k<s.size
  ·have E:=s[k].toNat_lt;have u:Hid (dz k (s.data.toList.drop k)=(nameAt k s[k]&&dz (k+1) (s.data.toList.drop (k+1)))):=by
    show dz k (s.data.toList.drop k)=_
    rw[drop_cons s k r];rfl
   have a:(s[k]==95)=wo (s[k].toNat=95):=by rw[FV];simp[←UInt8.toNat_inj]
   have f:Hid (nameAt k s[k]=((wo (97≤s[k].toNat)&&wo (s[k].toNat≤122))||(wo (k≠0)&&((wo (48≤s[k].toNat)&&wo (s[k].toNat≤57))||decide (s[k].toNat=95))))):=by
    show nameAt k s[k]=_
    unfold nameAt;rw[a];rfl
   clear a;have n:nameAt k s[k]=wg→dz (k+1) (s.data.toList.drop (k+1))=dz 0 s.data.toList:=fun h=>by rw[←q.o,u.o,h,Bool.true_and]
   have p:nameAt k s[k]=wj→aN s.data.toList=false:=fun h=>by unfold aN;rw[←q.o,u.o,h];rfl
   obtain⟨j,b⟩:=zz2 n p;clear n p;have g:(97≤s[k].toNat∧s[k].toNat≤122)∨(0<k∧48≤s[k].toNat∧s[k].toNat≤57)∨(0<k∧95≤s[k].toNat∧s[k].toNat≤95)∨
     (0<k∧s[k].toNat<48)∨(0<k∧57<s[k].toNat∧s[k].toNat<95)∨(0<k∧95<s[k].toNat∧s[k].toNat<97)∨(0<k∧122<s[k].toNat)∨(k=0∧s[k].toNat<97)∨(k=0∧122<s[k].toNat):=by omega
   rcases g with ⟨g1,g2⟩|⟨g0,g1,g2⟩|⟨g0,g1,g2⟩|⟨g0,g1⟩|⟨g0,g1,g2⟩|⟨g0,g1,g2⟩|⟨g0,g1⟩|⟨rfl,g1⟩|⟨rfl,g1⟩
   ·go_wp2
    exact⟨⟨k+1,by omega,by go_num,j.o (by rw[f.o];simp;omega)⟩,by simp[intOf];omega⟩
   ·have c:((k:Int)==0)=false:=by simp;omega
    go_wp2
    exact⟨⟨k+1,by omega,by go_num,j.o (by rw[f.o];simp;omega)⟩,by simp[intOf];omega⟩
   ·have c:((k:Int)==0)=false:=by simp;omega
    have a:((s[k].toNat:Int)==95)=true:=by simp;omega
    have l:wo ((s[k].toNat:Int)≤57)=false:=by simp;omega
    go_wp2
    exact⟨⟨k+1,by omega,by go_num,j.o (by rw[f.o];simp;omega)⟩,by simp[intOf];omega⟩
   ·have c:((k:Int)==0)=false:=by simp;omega
    have a:((s[k].toNat:Int)==95)=false:=by simp;omega
    go_wp2
    go_ret;exact d.o wj (b.o (by rw[f.o];simp;omega)) _ _ V V
   ·have c:((k:Int)==0)=false:=by simp;omega
    have a:((s[k].toNat:Int)==95)=false:=by simp;omega
    have l:wo ((s[k].toNat:Int)≤57)=false:=by simp;omega
    go_wp2
    go_ret;exact d.o wj (b.o (by rw[f.o];simp;omega)) _ _ V V
   ·have c:((k:Int)==0)=false:=by simp;omega
    have a:((s[k].toNat:Int)==95)=false:=by simp;omega
    have l:wo ((s[k].toNat:Int)≤57)=false:=by simp;omega
    go_wp2
    go_ret;exact d.o wj (b.o (by rw[f.o];simp;omega)) _ _ V V
   ·have c:((k:Int)==0)=false:=by simp;omega
    have a:((s[k].toNat:Int)==95)=false:=by simp;omega
    have B:wo ((s[k].toNat:Int)≤122)=false:=by simp;omega
    have l:wo ((s[k].toNat:Int)≤57)=false:=by simp;omega
    go_wp2
    go_ret;exact d.o wj (b.o (by rw[f.o];simp;omega)) _ _ V V
   ·go_wp2
    go_ret;exact d.o wj (b.o (by rw[f.o];simp;omega)) _ _ V V
   ·have B:wo ((s[0].toNat:Int)≤122)=false:=by simp;omega
    go_wp2
    go_ret;exact d.o wj (b.o (by rw[f.o];simp;omega)) _ _ V V
  ·obtain rfl:k=s.size:=by omega
   have he:dz 0 s.data.toList=true:=by rw[←q.o,drop_end s _ (Fj _)];rfl
   have v:s.data.toList.length=s.size:=by simp
   have t:Hid (aN s.data.toList=(wo (1≤s.size)&&wo (s.size≤24))):=by
    show aN s.data.toList=_
    unfold aN;rw[he,v,Bool.true_and]
   clear he v
   by_cases F:1≤s.size
   ·by_cases G:s.size≤24
    ·go_wp2
     go_ret;exact d.o wg (by rw[t.o];simp;omega) _ _ (by simp;omega) V
    ·go_wp2
     go_ret;exact d.o wj (by rw[t.o];simp;omega) _ _ (by simp;omega) V
   ·go_wp2
    go_ret;exact d.o wj (by rw[t.o];simp;omega) _ _ V V
theorem mA(s:ByteArray)(w:vk)(a:s.size≤100000) :
  wB wq 147 #[J s] w fun e w'=>e=xv (xS (aN s.data.toList))∧w=w':=yo s w (by omega)
inductive ab where
 | mk (kind:Nat) (text:ByteArray) (num place:Int) (kids:List ab)
def ab.b:ab→Nat | .mk k _ _ _ _=>k
def ab.f:ab→ByteArray | .mk _ t _ _ _=>t
def ab.h:ab→Int | .mk _ _ n _ _=>n
def ab.t:ab→Int | .mk _ _ _ p _=>p
def ab.q:ab→List ab | .mk _ _ _ _ l=>l
def bW:Nat→ab→Nat
 | 0,_=>1
 | d+1,T=>(T.q.map (bW d)).foldl Nat.max 0+1
def aH:Nat→ab→Nat
 | 0,_=>1
 | d+1,T=>(T.q.map (aH d)).foldl (· + ·) 1
def jc:List ByteArray:=[⟨#[111,114]⟩,⟨#[97,110,100]⟩,⟨#[61]⟩,⟨#[33,61]⟩,⟨#[60]⟩,⟨#[60,61]⟩,⟨#[62]⟩,⟨#[62,61]⟩,⟨#[43]⟩,⟨#[45]⟩,⟨#[42]⟩]
def kT:List ByteArray:=[⟨#[45]⟩,⟨#[110,111,116]⟩]
def cn(l:List ByteArray) (x:List UInt8):Bool:=l.any (fun b=>b.data.toList==x)
def strip(l:List UInt8):List UInt8:=match l with|45::r=>r|l=>l
def dM(l:List UInt8):Bool:=match l with|45::_=>wg|_=>wj
def cL(kind:Nat) (text:List UInt8) (kids:Nat):Bool:=
 if kind==2||kind==3||kind==4||kind==5||kind==6||kind==8 then aN text&&!di text
 else if kind==13||kind==15 then aN text
 else if kind==14 then (number (strip text)).isSome
 else if kind==16 then (kids==1&&cn kT text)||(kids==2&&cn jc text)
 else text.isEmpty
def bN(kind:Nat) (num:Int):Bool:=
 if kind==4 then wo (-2147483647≤num)&&wo (num≤2147483647)
 else if kind==9 then wo (0≤num)&&wo (num≤2147483647)
 else num==0
def bI(S:List Nat) (l:List ab):Bool:=l.all (fun t=>S.contains t.b)
def cK(l:List ab):Bool:=l.all (fun t=>!(t.b==14&&dM t.f.data.toList))&&bI [13,14,15,16] l
def aP(t:ab):Bool:=[5,6,7].contains t.b
def rowB(l:List ab):Bool:=bI [8,9,10,11] (l.dropWhile aP)
def bw(kind:Nat) (l:List ab):Bool:=
 if kind==1 then bI [2,4] l
 else if kind==2 then bI [3] l
 else if kind==4 then rowB l
 else if kind==5||kind==6 then bI [12,13,14,15] l
 else if kind==7 then l.length==1&&cK l
 else if kind==8||kind==16 then cK l
 else if kind==10 then wo (0<l.length)&&cK l
 else l.isEmpty
def aK(T:ab):Bool:=wo (1≤T.b)&&wo (T.b≤16)&&cL T.b T.f.data.toList T.q.length&&bN T.b T.h&&wo (0≤T.t)&&bw T.b T.q
def okF:Nat→ab→Bool
 | 0,T=>aK T
 | d+1,T=>aK T&&T.q.all (okF d)
def fO(d:Nat) (T:ab):Bool:=T.b==1&&okF d T&&wo (bW d T≤30)&&wo (aH d T≤4096)
def eK:Nat→ab→Int→Int
 | 0,T,a=>min (1+((T.f.size / 8:Nat):Int)) (a+1)
 | d+1,T,a=>min (T.q.foldl (fun c k=>if c≤a then c+eK d k (a-c) else c) (1+((T.f.size / 8:Nat):Int))) (a+1)
def Fits(T:ab):Prop:=T.b<256∧T.f.size≤maxLen∧-9223372036854775808≤T.h∧T.h<9223372036854775808∧-9223372036854775808≤T.t∧T.t<9223372036854775808
def aj(w:vk) (B:Nat):Nat→List ab→vn→Prop
 | 0,a,c=>a=[]∧∃sp cap,c=A sp 0 cap
 | d+1,a,c=>(a=[]∧∃sp cap,c=A sp 0 cap)∨
   ∃b off cap,a≠[]∧b<B∧a.length≤cap∧cap≤maxLen∧c=A (Y ⟨b,off,U⟩) a.length cap∧
    ∀i T,a[i]?=Y T→Fits T∧∃s,w.cell? ⟨b,off+i*5,U⟩=Y (I O T.b)∧w.cell? ⟨b,off+i*5+1,U⟩=Y (J T.f)∧
     w.cell? ⟨b,off+i*5+2,U⟩=Y (I Z T.h)∧w.cell? ⟨b,off+i*5+3,U⟩=Y (I Z T.t)∧w.cell? ⟨b,off+i*5+4,U⟩=Y s∧aj w B d T.q s
def bz(w:vk) (B:Nat) (d:Nat) (T:ab) (v:vn):Prop:=Fits T∧∃s,v=wD #[I O T.b,J T.f,I Z T.h,I Z T.t,s]∧aj w B d T.q s
theorem aj.u{w w':vk}{B:Nat}(g:Below B w w'):∀{d:Nat} {a:List ab} {c:vn},aj w B d a c→aj w' B d a c:=by
 intro d
 induction d with
 | zero=>intro a c h;exact h
 | succ d k =>
  intro a c h;rcases h with h|⟨b,off,cap,l,f,m,n,o,q⟩
  ·exact wP h
  ·refine xj ⟨b,off,cap,l,f,m,n,o,fun i T r=>?_⟩;obtain⟨t,s,u,v,c2,x,c4,y⟩:=q i T r;have e:∀j,w'.cell? ⟨b,j,U⟩=w.cell? ⟨b,j,U⟩:=fun j=>g.cell (p:=⟨b,j,U⟩) f
   exact⟨t,s,(e _).trans u,(e _).trans v,(e _).trans c2,(e _).trans x,(e _).trans c4,k y⟩
theorem aj.up{w:vk}{B e:Nat}(hB:B≤e):∀{d:Nat} {a:List ab} {c:vn},aj w B d a c→aj w e d a c:=by
 intro d
 induction d with
 | zero=>intro a c h;exact h
 | succ d f =>
  intro a c h;rcases h with h|⟨b,off,cap,g,j,k,l,m,n⟩
  ·exact wP h
  ·refine xj ⟨b,off,cap,g,Ft j hB,k,l,m,fun i T o=>?_⟩;obtain⟨p,s,q,r,c2,t,c4,u⟩:=n i T o;exact⟨p,s,q,r,c2,t,c4,f u⟩
theorem bz.u{w w':vk}{B d:Nat}{T:ab}{v:vn}(h:bz w B d T v)(a:Below B w w'):bz w' B d T v:=by
 obtain⟨b,s,rfl,c⟩:=h;exact⟨b,s,V,c.u a⟩
theorem bz.up{w:vk}{B a d:Nat}{T:ab}{v:vn}(h:bz w B d T v)(hB:B≤a):bz w a d T v:=by
 obtain⟨b,s,rfl,c⟩:=h;exact⟨b,s,V,c.up hB⟩
theorem aj.cases{w:vk}{B d:Nat}{a:List ab}{c:vn}(h:aj w B d a c):(a=[]∧∃sp cap,c=A sp 0 cap)∨
  ∃d' b off cap,d=d'+1∧a≠[]∧b<B∧a.length≤cap∧cap≤maxLen∧c=A (Y ⟨b,off,U⟩) a.length cap∧
   ∀i T,a[i]?=Y T→Fits T∧∃s,w.cell? ⟨b,off+i*5,U⟩=Y (I O T.b)∧w.cell? ⟨b,off+i*5+1,U⟩=Y (J T.f)∧
     w.cell? ⟨b,off+i*5+2,U⟩=Y (I Z T.h)∧w.cell? ⟨b,off+i*5+3,U⟩=Y (I Z T.t)∧w.cell? ⟨b,off+i*5+4,U⟩=Y s∧aj w B d' T.q s:=by
 cases d with
 | zero=>exact wP h
 | succ d =>
  rcases h with h|⟨b,off,cap,e,f,g,j,k,l⟩
  ·exact wP h
  ·exact xj ⟨d,b,off,cap,V,e,f,g,j,k,l⟩
def wY(m:Nat) (w:vk) (e:Bs) (w':vk):Prop:=e=xv (I Z m)∧Gc w w'
theorem qN(d:Nat)(T:ab)(h:T.q=[]):bW d T=1:=by
 cases d with
 | zero=>rfl
 | succ d=>show (T.q.map (bW d)).foldl Nat.max 0+1=1;rw[h];rfl
theorem zV(l:List Nat)(a b:Nat):(l++[b]).foldl Nat.max a=Nat.max (l.foldl Nat.max a) b:=by rw[List.foldl_append];rfl
theorem Cr(a b:Nat):((Nat.max a b:Nat):Int)=max (a:Int) (b:Int):=by
 show ((max a b:Nat):Int)=_
 omega
def DG(w:vk) (d:Nat) (a:List ab) (m i:vn) (W:vk):Prop:=
 ∃k:Nat,k≤a.length∧m=I Z (((a.take k).map (bW d)).foldl Nat.max 0:Nat)∧i=I Z k∧Gc w W
theorem jl(w:vk)(T:ab)(s:vn):(w.alloc (ur #[I O T.b,J T.f,I Z T.h,I Z T.t,s] 25)).cell? ⟨w.heap.size,4,U⟩=Y s:=by
 rw[Gb _ _ 4 _ _ _ (qv w _)];rfl
theorem eh(l:List Nat):∀a:Nat,l.foldl (· + ·) a=a+l.foldl (· + ·) 0:=by
 induction l with
 | nil=>intro a;rfl
 | cons x l b=>intro a;rw[List.foldl_cons,b,List.foldl_cons,b (0+x)];omega
theorem rT(d:Nat)(T k:ab)(h:k∈T.q):aH d k<aH (d+1) T:=by
 show aH d k<(T.q.map (aH d)).foldl (· + ·) 1
 rw[eh];have a:aH d k∈T.q.map (aH d):=List.mem_map_of_mem h;generalize T.q.map (aH d)=l at *;generalize aH d k=x at *
 induction l with
 | nil=>cases a
 | cons y l b =>
  rw[List.foldl_cons,eh];rcases FZ.1 a with rfl|a
  ·omega
  ·have:=b a;omega
theorem ut(d:Nat):∀T:ab,bW d T≤aH d T:=by
 induction d with
 | zero=>intro T;exact Fj _
 | succ d c =>
  intro T
  show (T.q.map (bW d)).foldl Nat.max 0+1≤(T.q.map (aH d)).foldl (· + ·) 1
  rw[eh];have h:∀(l:List ab) (a:Nat),(l.map (bW d)).foldl Nat.max a≤a+(l.map (aH d)).foldl (· + ·) 0:=by
   intro l
   induction l with
   | nil=>intro a;exact Nat.le_add_right _ _
   | cons x l b =>
    intro a;rw[List.map_cons,List.foldl_cons,List.map_cons,List.foldl_cons,eh];have e:=b (Nat.max a (bW d x));have f:=c x;have g:Nat.max a (bW d x)≤a+bW d x:=Nat.max_le.2 ⟨Nat.le_add_right _ _,Nat.le_add_left _ _⟩;omega
  have:=h T.q 0;omega
theorem qb(d:Nat)(T:ab):T.q.length≤aH (d+1) T:=by
 show _≤(T.q.map (aH d)).foldl (· + ·) 1
 rw[eh];have a:∀k:ab,1≤aH d k:=by
  intro k
  cases d with
  | zero=>exact Fj _
  | succ d=>show 1≤(k.q.map (aH d)).foldl (· + ·) 1;rw[eh];omega
 induction T.q with
 | nil=>exact FA _
 | cons x l b =>
  rw[List.map_cons,List.foldl_cons,eh,FU];have:=a x;omega
theorem A7:∀(d:Nat) (T:ab) (v:vn) (B:Nat) (w:vk),bz w B d T v→B≤w.heap.size→aH d T≤100000→
  wB wq 46 #[v] w (wY (bW d T) w):=by
 intro d
 induction d with
 | zero =>
  intro T v B w X hB _;obtain⟨_,s,rfl,h,sp,cap,rfl⟩:=X;rw[qN _ _ h];have a:=jl w T (A sp 0 cap);have HB:=Hd ((Fl _ w).alloc (Fj _) (ur #[I O T.b,J T.f,I Z T.h,I Z T.t,A sp 0 cap] 25))
  go_enter Tryz.func46,Tryz.ntmps46
  go_wp2
  go_loop [3,4] (fun m i=>m=I Z 0∧i=I Z 0) (fun _ _=>0)
  case atStart=>exact⟨V,V⟩
  case round =>
   obtain⟨rfl,rfl⟩:=hrel
   go_wp2
   go_ret;exact⟨V,HB.o⟩
 | succ d ih =>
  intro T v B w X hB hm;obtain⟨_,s,rfl,h⟩:=X;rcases h with ⟨h,sp,cap,rfl⟩|⟨b,off,cap,ad,af,q,a6,rfl,r⟩
  ·rw[qN _ _ h];have a:=jl w T (A sp 0 cap);have HB:=Hd ((Fl _ w).alloc (Fj _) (ur #[I O T.b,J T.f,I Z T.h,I Z T.t,A sp 0 cap] 25))
   go_enter Tryz.func46,Tryz.ntmps46
   go_wp2
   go_loop [3,4] (fun m i=>m=I Z 0∧i=I Z 0) (fun _ _=>0)
   case atStart=>exact⟨V,V⟩
   case round =>
    obtain⟨rfl,rfl⟩:=hrel
    go_wp2
    go_ret;exact⟨V,HB.o⟩
  ·obtain⟨u,ak⟩:=zz2 r ih;have hlen:=qb d T;obtain⟨al,x,HM⟩:=zz3 (ut (d+1) T) (fun k h=>rT d T k h) hm;have e0:bW (d+1) T=(T.q.map (bW d)).foldl Nat.max 0+1:=rfl;rw[e0];have E:=Hd e0;obtain⟨c,F⟩:=zzy (T.q);rw[F]at u x E hlen ad q ⊢;obtain⟨n,hn⟩:=zzy (c.length);rw[hn]at hlen q ⊢;have G:=Hd hn;have ba:n≤100000:=by omega
   have a:=jl w T (A (Y ⟨b,off,U⟩) n cap);obtain⟨H,l⟩:=zzx (w.alloc (ur #[I O T.b,J T.f,I Z T.h,I Z T.t,A (Y ⟨b,off,U⟩) n cap] 25));have K:Gc w H:=by rw[l];exact (Fl _ w).alloc (Fj _) _
   have aq:w.heap.size<H.heap.size:=by rw[l];simp
   rw[←l]at a;obtain⟨L,M⟩:=zz2 a K;clear r ih F hn hm hlen e0 a K
   go_enter Tryz.func46,Tryz.ntmps46
   go_wp2
   rw[←l]
   go_loopw [3,4] (DG H d c) (fun _ i _=>n-(intOf i).toNat)
   case atStart=>exact⟨0,FA _,V,V,Fl _ _⟩
   case round =>
    obtain⟨k,h,rfl,rfl,N⟩:=hrel;rw[G.o]at h;have f:=M.o.trans (N.mono M.o.size);have bb:=(N.cell (p:=⟨w.heap.size,4,U⟩) aq).trans L.o
    by_cases P:k<n
    ·obtain⟨t,W⟩:∃t,c[k]?=Y t:=⟨c[k]'(by rw[G.o];exact P),Fq (by rw[G.o];exact P)⟩;obtain⟨y,s,c0,c1,c2,c3,c4,Q⟩:=u.o k t W;have g:=f.mono hB;have e:∀j,_:=fun j=>g.cell (p:=⟨b,j,U⟩) af
     have d0:=(e _).trans c0;have d1:=(e _).trans c1;have d2:=(e _).trans c2;have d3:=(e _).trans c3;have d4:=(e _).trans c4;have z:t∈c:=FM W;have R:aH d t≤100000:=by have:=x.o t z;have:=HM.o;omega
     have C:=Hd (ak.o t (wD #[I O t.b,J t.f,I Z t.h,I Z t.t,s]) B _ ⟨y,s,V,Q.u g⟩ (Fu hB f.size) R)
     have D:=Hd (show ((c.take (k+1)).map (bW d)).foldl Nat.max 0=Nat.max (((c.take k).map (bW d)).foldl Nat.max 0) (bW d t) by
      rw[FY,W,List.map_append];exact zV _ _ _)
     have S:=Hd N;have bc:(0:Int)≤k:=by omega
     have bd:(k:Int)<n:=by omega
     generalize ((c.take k).map (bW d)).foldl Nat.max 0=m at *;generalize bW d t=m' at *;clear c0 c1 c2 c3 c4 e Q y z W g f N R;go_wp2_with fail
     refine C.o.mono ?_;rintro e W2 ⟨rfl,ar⟩;go_wp2_with fail
     refine⟨⟨k+1,by rw[G.o];omega,?_,by go_num,S.o.trans (ar.mono S.o.size)⟩,by simp[intOf];omega⟩;rw[D.o,Cr]
    ·obtain rfl:k=n:=by omega
     have e:c.take k=c:=by rw[←G.o];exact List.take_length
     have HE:Hid (((c.take k).map (bW d)).foldl Nat.max 0=(c.map (bW d)).foldl Nat.max 0):=by
      show _=_
      rw[e]
     have av:=Hd f;have hle:=al.o;rw[E.o,←HE.o]at hle;have a1:=HM.o;generalize hg:((c.take k).map (bW d)).foldl Nat.max 0=m at *;have bk:(m:Int)≤100000:=by omega
     clear hle a1 e N f hg
     go_wp2
     go_ret;exact⟨by rw[←HE.o];go_num,av.o⟩
theorem qe(d:Nat)(T:ab)(h:T.q=[]):aH d T=1:=by
 cases d with
 | zero=>rfl
 | succ d=>show (T.q.map (aH d)).foldl (· + ·) 1=1;rw[h];rfl
def DD(w:vk) (d:Nat) (a:List ab) (m i:vn) (W:vk):Prop:=
 ∃k:Nat,k≤a.length∧m=I Z (((a.take k).map (aH d)).foldl (· + ·) 1:Nat)∧i=I Z k∧Gc w W
theorem zI(d:Nat)(a:List ab)(k:Nat):((a.take k).map (aH d)).foldl (· + ·) 1≤(a.map (aH d)).foldl (· + ·) 1:=by
 have e:(a.map (aH d)).foldl (· + ·) 1=(((a.take k)++(a.drop k)).map (aH d)).foldl (· + ·) 1:=by rw[List.take_append_drop]
 rw[e,List.map_append,List.foldl_append,eh ((a.drop k).map (aH d))];exact Nat.le_add_right _ _
theorem Ad:∀(d:Nat) (T:ab) (v:vn) (B:Nat) (w:vk),bz w B d T v→B≤w.heap.size→aH d T≤100000→
  wB wq 47 #[v] w (wY (aH d T) w):=by
 intro d
 induction d with
 | zero =>
  intro T v B w hT hB _;obtain⟨_,s,rfl,h,sp,cap,rfl⟩:=hT;rw[qe _ _ h];have a:=jl w T (A sp 0 cap);have HB:=Hd ((Fl _ w).alloc (Fj _) (ur #[I O T.b,J T.f,I Z T.h,I Z T.t,A sp 0 cap] 25))
  go_enter Tryz.func47,Tryz.ntmps47
  go_wp2
  go_loop [3,4] (fun m i=>m=I Z 1∧i=I Z 0) (fun _ _=>0)
  case atStart=>exact⟨V,V⟩
  case round =>
   obtain⟨rfl,rfl⟩:=hrel
   go_wp2
   go_ret;exact⟨V,HB.o⟩
 | succ d ih =>
  intro T v B w hT hB hm;obtain⟨_,s,rfl,h⟩:=hT;rcases h with ⟨h,sp,cap,rfl⟩|⟨b,off,cap,ad,af,q,av,rfl,r⟩
  ·rw[qe _ _ h];have a:=jl w T (A sp 0 cap);have HB:=Hd ((Fl _ w).alloc (Fj _) (ur #[I O T.b,J T.f,I Z T.h,I Z T.t,A sp 0 cap] 25))
   go_enter Tryz.func47,Tryz.ntmps47
   go_wp2
   go_loop [3,4] (fun m i=>m=I Z 1∧i=I Z 0) (fun _ _=>0)
   case atStart=>exact⟨V,V⟩
   case round =>
    obtain⟨rfl,rfl⟩:=hrel
    go_wp2
    go_ret;exact⟨V,HB.o⟩
  ·obtain⟨u,ak⟩:=zz2 r ih;have hlen:=qb d T;obtain⟨E,x,HM⟩:=zz3 (fun k=>zI d T.q k) (fun k h=>rT d T k h) hm;have e0:aH (d+1) T=(T.q.map (aH d)).foldl (· + ·) 1:=rfl;rw[e0];have F:=Hd e0;obtain⟨c,G⟩:=zzy (T.q);rw[G]at u x F E hlen ad q ⊢;obtain⟨n,hn⟩:=zzy (c.length);rw[hn]at hlen q ⊢;have H:=Hd hn;have a1:n≤100000:=by omega
   have a:=jl w T (A (Y ⟨b,off,U⟩) n cap);obtain⟨K,l⟩:=zzx (w.alloc (ur #[I O T.b,J T.f,I Z T.h,I Z T.t,A (Y ⟨b,off,U⟩) n cap] 25));have L:Gc w K:=by rw[l];exact (Fl _ w).alloc (Fj _) _
   have al:w.heap.size<K.heap.size:=by rw[l];simp
   rw[←l]at a;obtain⟨M,N⟩:=zz2 a L;clear r ih G hn hm hlen e0 a L
   go_enter Tryz.func47,Tryz.ntmps47
   go_wp2
   rw[←l]
   go_loopw [3,4] (DD K d c) (fun _ i _=>n-(intOf i).toNat)
   case atStart=>exact⟨0,FA _,V,V,Fl _ _⟩
   case round =>
    obtain⟨k,h,rfl,rfl,P⟩:=hrel;rw[H.o]at h;have f:=N.o.trans (P.mono N.o.size);have a6:=(P.cell (p:=⟨w.heap.size,4,U⟩) al).trans M.o
    by_cases Q:k<n
    ·obtain⟨t,ht⟩:∃t,c[k]?=Y t:=⟨c[k]'(by rw[H.o];exact Q),Fq (by rw[H.o];exact Q)⟩;obtain⟨y,s,c0,c1,c2,c3,c4,R⟩:=u.o k t ht;have g:=f.mono hB;have e:∀j,_:=fun j=>g.cell (p:=⟨b,j,U⟩) af
     have d0:=(e _).trans c0;have d1:=(e _).trans c1;have d2:=(e _).trans c2;have d3:=(e _).trans c3;have d4:=(e _).trans c4;have z:t∈c:=FM ht;have S:aH d t≤100000:=by have:=x.o t z;have:=HM.o;omega
     have C:=Hd (ak.o t (wD #[I O t.b,J t.f,I Z t.h,I Z t.t,s]) B _ ⟨y,s,V,R.u g⟩ (Fu hB f.size) S)
     have D:=Hd (show ((c.take (k+1)).map (aH d)).foldl (· + ·) 1=((c.take k).map (aH d)).foldl (· + ·) 1+aH d t by
      rw[FY,ht,List.map_append,List.foldl_append];rfl)
     have W:((c.take k).map (aH d)).foldl (· + ·) 1≤100000:=by
      have h1:=E.o k;have h2:=HM.o;rw[F.o]at h2;exact Fu h1 h2
     have X:=Hd P;have ba:(0:Int)≤k:=by omega
     have bb:(k:Int)<n:=by omega
     generalize ((c.take k).map (aH d)).foldl (· + ·) 1=m at *;generalize aH d t=m' at *;have bc:(m:Int)≤100000:=by omega
     have bd:(m':Int)≤100000:=by omega
     clear c0 c1 c2 c3 c4 e R y z ht g f P S W;go_wp2_with fail
     refine C.o.mono ?_;rintro e W2 ⟨rfl,aq⟩;go_wp2_with fail
     refine⟨⟨k+1,by rw[H.o];omega,?_,by go_num,X.o.trans (aq.mono X.o.size)⟩,by simp[intOf];omega⟩;rw[D.o];rfl
    ·obtain rfl:k=n:=by omega
     have e:c.take k=c:=by rw[←H.o];exact List.take_length
     have HE:Hid (((c.take k).map (aH d)).foldl (· + ·) 1=(c.map (aH d)).foldl (· + ·) 1):=by
      show _=_
      rw[e]
     have ar:=Hd f;generalize hg:((c.take k).map (aH d)).foldl (· + ·) 1=m at *;clear e P f hg
     go_wp2
     go_ret;exact⟨by rw[←HE.o];go_num,ar.o⟩
theorem aj.b{w:vk}{B d:Nat}{e:List ab}{a:vn}(h:aj w B d e a):∃p n c,a=A p n c:=by
 rcases h.cases with ⟨_,sp,cap,rfl⟩|⟨_,b,off,cap,_,_,_,_,_,rfl,_⟩
 ·exact⟨_,_,_,V⟩
 ·exact⟨_,_,_,V⟩
theorem bz.y{w:vk}{B d:Nat}{T:ab}{v:vn}(h:bz w B d T v)(hB:B≤w.heap.size)(o:Obj):bz (w.alloc o) B d T v:=h.u (((Fl _ w).alloc (Fj _) o).mono hB)
def bT(w:vk) (e:Bs) (w':vk):Prop:=e=xv (xS wg)∧Gc w w'
def lM(d:Nat):Prop:=∀(a:List ab) (u v:vn) (B C:Nat) (w:vk),aj w B d a u→aj w C d a v→B≤w.heap.size→C≤w.heap.size→wB wq 53 #[u,v] w (bT w)
def tn(d:Nat):Prop:=∀(T:ab) (u v:vn) (B C:Nat) (w:vk),bz w B d T u→bz w C d T v→B≤w.heap.size→C≤w.heap.size→wB wq 29 #[u,v] w (bT w)
theorem lI(d:Nat)(h:lM d):tn d:=by
 intro T u v B C w hu j hB c;obtain⟨_,s,rfl,f⟩:=hu;obtain⟨_,r,rfl,g⟩:=j;have a:Gc w ((w.alloc (ur #[I O T.b,J T.f,I Z T.h,I Z T.t,s] 25)).alloc (ur #[I O T.b,J T.f,I Z T.h,I Z T.t,r] 25)):=((Fl _ w).alloc (Fj _) _).alloc (by simp) _;obtain⟨k,i⟩:=zz2 (h T.q s r B C _ (f.u (a.mono hB)) (g.u (a.mono c)) (Fu hB a.size) (Fu c a.size)) a;clear f g a h
 go_enter Tryz.func29,Tryz.ntmps29
 go_wp2_with (first
  | (go_at_call 53;refine Fx k.o ?_;rintro e w' ⟨rfl,b⟩))
 go_ret;exact⟨V,i.o.trans (b.mono i.o.size)⟩
def lc(w:vk) (n:Nat) (i:vn) (W:vk):Prop:=∃(a:vk) (k:Nat),a=W∧k≤n∧i=I Z k∧Gc w a
theorem rn{w W:vk}{B b off d:Nat}{t:ab}(hB:Below B w W)(a:b<B){i:Nat}
  (h:Fits t∧∃s,w.cell? ⟨b,off+i*5,U⟩=Y (I O t.b)∧w.cell? ⟨b,off+i*5+1,U⟩=Y (J t.f)∧
     w.cell? ⟨b,off+i*5+2,U⟩=Y (I Z t.h)∧w.cell? ⟨b,off+i*5+3,U⟩=Y (I Z t.t)∧w.cell? ⟨b,off+i*5+4,U⟩=Y s∧aj w B d t.q s) :
  ∃p n c,W.cell? ⟨b,off+i*5,U⟩=Y (I O t.b)∧W.cell? ⟨b,off+i*5+1,U⟩=Y (J t.f)∧
       W.cell? ⟨b,off+i*5+2,U⟩=Y (I Z t.h)∧W.cell? ⟨b,off+i*5+3,U⟩=Y (I Z t.t)∧W.cell? ⟨b,off+i*5+4,U⟩=Y (A p n c)∧
       bz W B d t (wD #[I O t.b,J t.f,I Z t.h,I Z t.t,A p n c]):=by
 obtain⟨g,s,k,l,c2,m,c4,f⟩:=h;obtain⟨p,n,c,rfl⟩:=f.b;have e:∀j,W.cell? ⟨b,j,U⟩=w.cell? ⟨b,j,U⟩:=fun j=>hB.cell (p:=⟨b,j,U⟩) a
 exact⟨p,n,c,(e _).trans k,(e _).trans l,(e _).trans c2,(e _).trans m,(e _).trans c4,g,_,V,f.u hB⟩
theorem li:∀d:Nat,lM d:=by
 intro d
 induction d with
 | zero =>
  intro M u v B C w hu N _ _;obtain⟨rfl,p,c,rfl⟩:=hu;obtain⟨_,q,e,rfl⟩:=N
  go_enter Tryz.func53,Tryz.ntmps53
  go_wp2
  go_loop [5] (fun i=>i=I Z 0) (fun _=>0)
  case atStart=>rfl
  case round =>
   subst hrel
   go_wp2
   go_ret;exact⟨V,Fl _ _⟩
 | succ d X =>
  intro M u v B C w hu N hB P;rcases hu with ⟨rfl,p,c,rfl⟩|⟨b,off,cap,s,Q,F,G,rfl,r⟩
  ·rcases N with ⟨_,q,e,rfl⟩|⟨_,_,_,s,_⟩
   ·go_enter Tryz.func53,Tryz.ntmps53
    go_wp2
    go_loop [5] (fun i=>i=I Z 0) (fun _=>0)
    case atStart=>rfl
    case round =>
     subst hrel
     go_wp2
     go_ret;exact⟨V,Fl _ _⟩
   ·exact absurd V s
  ·rcases N with ⟨h0,_⟩|⟨b',ad,af,_,H,x,y,rfl,f⟩
   ·exact absurd h0 s
   ·obtain⟨K,z,R⟩:=zz3 r f (lI d X);obtain⟨n,S⟩:=zzy (M.length);rw[S]at F x ⊢;have HN:=Hd S;unfold maxLen at G y;clear r f X S
    go_enter Tryz.func53,Tryz.ntmps53
    go_wp2
    go_loopw [5] (lc w n) (fun i _=>n-(intOf i).toNat)
    case atStart=>exact⟨_,0,V,FA _,V,Fl _ _⟩
    case round =>
     obtain⟨E,k,rfl,hk,rfl,g⟩:=hrel
     by_cases L:k<n
     ·obtain⟨t,T⟩:∃t,M[k]?=Y t:=⟨M[k]'(by rw[HN.o];exact L),Fq (by rw[HN.o];exact L)⟩;obtain⟨p,l,c,d0,d1,d2,d3,d4,h⟩:=rn (g.mono hB) Q (K.o k t T);obtain⟨p',l',c',e0,e1,e2,e3,e4,a⟩:=rn (g.mono P) H (z.o k t T);have j:Gc E E.drew:=(Fl _ E).drew;obtain⟨D,m⟩:=zz2 (R.o t _ _ B C E.drew (h.u (j.mono (Fu hB g.size))) (a.u (j.mono (Fu P g.size))) (Fu hB g.size) (Fu P g.size)) (g.trans (j.mono g.size));have ak:(0:Int)≤k:=by omega
      have al:(k:Int)<n:=by omega
      have aq:(n:Int)≤9223372036854775807:=by omega
      clear h a T j g
      go_wp2
      go_still_tail 8,(by kernel_rfl)
      change wpList _ _ _ _ _ E.drew;generalize E.drew=W2 at *;go_wp2_with fail
      refine D.o.mono ?_;rintro e W3 ⟨rfl,W⟩;go_wp2_with fail
      exact⟨⟨_,k+1,V,by omega,by go_num,m.o.trans (W.mono m.o.size)⟩,by simp[intOf];omega⟩
     ·obtain rfl:k=n:=by omega
      have m:=Hd g;clear g
      go_wp2
      go_ret;exact⟨V,m.o⟩
def aO(d:Nat) (a c:Int) (k:ab):Int:=if c≤a then c+eK d k (a-c) else c
theorem oS(d:Nat)(T:ab)(a:Int)(h:T.q=[]):eK d T a=min (1+((T.f.size / 8:Nat):Int)) (a+1):=by
 cases d with
 | zero=>rfl
 | succ d=>show min (T.q.foldl (aO d a) (1+((T.f.size / 8:Nat):Int))) (a+1)=_;rw[h];rfl
theorem mU(d:Nat)(a:Int)(b:∀(k:ab)(m:Int),0≤m→1≤eK d k m):∀(l:List ab) (c:Int),1≤c→1≤l.foldl (aO d a) c:=by
 intro l
 induction l with
 | nil=>intro c h;exact h
 | cons x l e =>
  intro c h;rw[List.foldl_cons];apply e;unfold aO
  split
  ·have:=b x (a-c) (by omega);omega
  ·exact h
theorem kD:∀(d:Nat) (T:ab) (m:Int),0≤m→1≤eK d T m:=by
 intro d
 induction d with
 | zero=>intro T m h;show 1≤min _ _;omega
 | succ d a =>
  intro T m h;have:=mU d m a T.q (1+((T.f.size / 8:Nat):Int)) (by omega)
  show 1≤min (T.q.foldl (aO d m) (1+((T.f.size / 8:Nat):Int))) (m+1)
  omega
theorem sY(d:Nat)(T:ab)(m:Int):eK d T m≤m+1:=by
 cases d with
 | zero=>show min _ _≤_;omega
 | succ d=>show min _ _≤_;omega
theorem ui(d:Nat)(a:Int):∀(l:List ab) (c:Int),l.foldl (aO d a) c≤max c (a+1):=by
 intro l
 induction l with
 | nil=>intro c;show c≤max c (a+1);omega
 | cons x l b =>
  intro c;rw[List.foldl_cons];have h:=b (aO d a c x);have e:aO d a c x≤max c (a+1):=by
   unfold aO
   split
   ·have:=sY d x (a-c);omega
   ·omega
  omega
theorem rB(d:Nat)(a:Int):∀(l:List ab) (c:Int),a<c→l.foldl (aO d a) c=c:=by
 intro l
 induction l with
 | nil=>intro c _;rfl
 | cons x l b =>
  intro c h;rw[List.foldl_cons];have e:aO d a c x=c:=by unfold aO;rw[r5 (by omega)]
  rw[e];exact b c h
def BU(w:vk) (d:Nat) (b:List ab) (a f:Int) (c i:vn) (W:vk):Prop:=
 ∃(e:vk) (k:Nat),e=W∧k≤b.length∧c=I Z ((b.take k).foldl (aO d a) f)∧i=I Z k∧Gc w e
def Ej(m:Int) (w:vk) (e:Bs) (w':vk):Prop:=e=xv (I Z m)∧Gc w w'
theorem wJ:∀(d:Nat) (T:ab) (v:vn) (B:Nat) (w:vk) (a:Int),bz w B d T v→B≤w.heap.size→0≤a→a≤9000→
  wB wq 18 #[v,I Z a] w (Ej (eK d T a) w):=by
 intro d
 induction d with
 | zero =>
  intro T v B w a hT hB h0 h9;obtain⟨h,s,rfl,F,sp,cap,rfl⟩:=hT;rw[oS _ _ _ F];have G:=h.2.1;unfold maxLen at G;have HB:=Hd ((Fl _ w).alloc (Fj _) (ur #[I O T.b,J T.f,I Z T.h,I Z T.t,A sp 0 cap] 25));clear h
  go_enter Tryz.func18,Tryz.ntmps18
  go_wp2
  go_loop [5,6] (fun c i=>c=I Z (1+(T.f.size:Int) / 8)∧i=I Z 0) (fun _ _=>0)
  case atStart=>exact⟨V,V⟩
  case round =>
   obtain⟨rfl,rfl⟩:=hrel
   go_wp2
   go_ret;exact⟨V,HB.o⟩
 | succ d ih =>
  intro T v B w a hT hB h0 h9;obtain⟨h,s,rfl,F⟩:=hT;have G:=h.2.1;unfold maxLen at G;clear h;rcases F with ⟨F,sp,cap,rfl⟩|⟨b,off,cap,aq,ar,C,M,rfl,D⟩
  ·rw[oS _ _ _ F];have HB:=Hd ((Fl _ w).alloc (Fj _) (ur #[I O T.b,J T.f,I Z T.h,I Z T.t,A sp 0 cap] 25))
   go_enter Tryz.func18,Tryz.ntmps18
   go_wp2
   go_loop [5,6] (fun c i=>c=I Z (1+(T.f.size:Int) / 8)∧i=I Z 0) (fun _ _=>0)
   case atStart=>exact⟨V,V⟩
   case round =>
    obtain⟨rfl,rfl⟩:=hrel
    go_wp2
    go_ret;exact⟨V,HB.o⟩
  ·obtain⟨E,av⟩:=zz2 D ih;obtain⟨f,N⟩:∃f:Int,1+(T.f.size:Int) / 8=f:=⟨_,rfl⟩;have a1:1≤f:=by omega
   have bk:f≤4611686018427387904:=by omega
   have e0:eK (d+1) T a=min (T.q.foldl (aO d a) f) (a+1):=by
    show min (T.q.foldl (aO d a) (1+((T.f.size / 8:Nat):Int))) (a+1)=_
    rw[show (1+((T.f.size / 8:Nat):Int))=f by omega]
   rw[e0];have a6:=Hd N;obtain⟨g,P⟩:=zzy (T.q);rw[P]at E aq C ⊢;obtain⟨n,hn⟩:=zzy (g.length);rw[hn]at C ⊢;have Q:=Hd hn;unfold maxLen at M;have H:=Hd (fun k=>(⟨mU d a (kD d) (g.take k) f a1,ui d a (g.take k) f⟩:1≤(g.take k).foldl (aO d a) f∧(g.take k).foldl (aO d a) f≤max f (a+1)));obtain⟨R,x⟩:=zzx (w.alloc (ur #[I O T.b,J T.f,I Z T.h,I Z T.t,A (Y ⟨b,off,U⟩) n cap] 25));have S:Gc w R:=by rw[x];exact (Fl _ w).alloc (Fj _) _
   have ba:w.heap.size<R.heap.size:=by rw[x];simp
   have q:=jl w T (A (Y ⟨b,off,U⟩) n cap);rw[←x]at q;obtain⟨W,X⟩:=zz2 q S;clear D ih P hn e0 q S N
   go_enter Tryz.func18,Tryz.ntmps18
   go_wp2
   rw[←x]
   go_loopw [5,6] (BU R d g a f) (fun _ i _=>n-(intOf i).toNat)
   case atStart=>exact⟨_,0,V,FA _,by rw[a6.o];rfl,V,Fl _ _⟩
   case round =>
    obtain⟨W1,k,rfl,F,rfl,rfl,L⟩:=hrel;rw[Q.o]at F;have m:=X.o.trans (L.mono X.o.size);have bl:=(L.cell (p:=⟨w.heap.size,4,U⟩) ba).trans W.o;obtain⟨bn,bq⟩:=H.o k;have j:g.foldl (aO d a) f=(g.drop k).foldl (aO d a) ((g.take k).foldl (aO d a) f):=by rw[←List.foldl_append,List.take_append_drop]
    have ad:=Hd j
    have bb:=Hd (fun t (ht:g[k]?=Y t)=>(show (g.take (k+1)).foldl (aO d a) f=aO d a ((g.take k).foldl (aO d a) f) t by
     rw[FY,ht,List.foldl_append];rfl))
    clear j;generalize (g.take k).foldl (aO d a) f=y at *;have br:y≤4611686018427387904:=by omega
    have af:=Hd m
    by_cases ak:k<n
    ·have bt:(0:Int)≤k:=by omega
     have bB:(k:Int)<n:=by omega
     by_cases hle:y≤a
     ·obtain⟨t,ht⟩:∃t,g[k]?=Y t:=⟨g[k]'(by rw[Q.o];exact ak),Fq (by rw[Q.o];exact ak)⟩;obtain⟨p,l,c,d0,d1,d2,d3,d4,r⟩:=rn (m.mono hB) ar (E.o k t ht);have K:=Hd (av.o t _ B W1 (a-y) r (Fu hB m.size) (by omega) (by omega));have z:=bb.o t ht;unfold aO at z;rw[r6 hle]at z;have bc:=Hd z;have bR:=kD d t (a-y) (by omega);have b0:=sY d t (a-y);have al:=Hd L;generalize eK d t (a-y)=rv at *;clear r ht z m L;go_wp2_with fail
      refine K.o.mono ?_;rintro e W3 ⟨rfl,bd⟩;go_wp2_with fail
      refine⟨⟨_,k+1,V,by rw[Q.o];omega,?_,by go_num,al.o.trans (bd.mono al.o.size)⟩,by simp[intOf];omega⟩;have:=bc.o;unfold aO;rw[this]
     ·have u:=Hd (ad.o.trans (rB d a _ y (by omega)));have b1:a<y:=by omega
      clear L m hle;go_wp2_with fail
      go_ret;exact⟨by rw[u.o];rfl,af.o⟩
    ·obtain rfl:k=n:=by omega
     have u:Hid (g.foldl (aO d a) f=y):=by
      show _=_
      rw[ad.o,List.drop_of_length_le (by rw[Q.o];exact Fj _)];rfl
     clear L m;go_wp2_with fail
     go_ret;exact⟨by rw[u.o];rfl,af.o⟩
theorem tU(l:List UInt8):∀k,dz (k+1) l=l.all bf:=by
 induction l with
 | nil=>intro k;rfl
 | cons c r a =>
  intro k
  show (nameAt (k+1) c&&dz (k+2) r)=_
  rw[a (k+1),List.all_cons]
  congr 1
  unfold nameAt bf;simp[Bool.or_assoc]
theorem oM(c:UInt8)(r:List UInt8):aN (c::r)=(isLow c&&r.all bf&&wo (r.length+1≤24)):=by
 unfold aN
 show ((nameAt 0 c&&dz 1 r)&&wo (1≤r.length+1)&&wo (r.length+1≤24))=_
 rw[tU r 0];have h:nameAt 0 c=isLow c:=by unfold nameAt;simp
 rw[h];simp
theorem wE(l:List UInt8)(h:aN l=wg):1≤l.length∧l.length≤24:=by
 unfold aN at h;simp only[FG,r8]at h;exact⟨h.1.2,h.2⟩
theorem EX(c:UInt8)(h:isLow c=wg):bf c=true:=by unfold bf;rw[h];rfl
def aY(t:ByteArray):ByteArray:=⟨(39::t.data.toList).toArray⟩
theorem oO(t:ByteArray):(aY t).data.toList=39::t.data.toList:=rfl
theorem lF(t:ByteArray):(aY t).size=t.size+1:=by
 show (39::t.data.toList).toArray.size=_
 simp
def jz(t:ByteArray):Bool:=(aL (aY t) 0).2==U&&(aL (aY t) 0).1.map (fun x=>x.2.1.data.toList)==[t.data.toList]
theorem vI(p:UInt8→Bool)(s:ByteArray)(k:Nat)(l:List UInt8)(h:s.data.toList.drop k=l):aA p s k=k+(l.takeWhile p).length:=by unfold aA;rw[h]
theorem mE(p:UInt8→Bool):∀l:List UInt8,(l.takeWhile p).length=l.length→l.all p=true:=by
 intro l
 induction l with
 | nil=>intro _;rfl
 | cons c r a =>
  intro h;rw[List.takeWhile_cons]at h
  split at h
  ·rename_i b
   simp only[FU,Nat.add_right_cancel_iff]at h;rw[List.all_cons,b,a h];rfl
  ·simp at h
theorem rp(p:UInt8→Bool)(l:List UInt8)(h:l.all p=wg):l.takeWhile p=l:=by
 induction l with
 | nil=>rfl
 | cons c r a =>
  rw[List.all_cons,FG]at h;rw[List.takeWhile_cons,r6 h.1,a h.2]
theorem jX(t:ByteArray):an (aY t) 0 39=(5,(aY t).extract 1 (aA bf (aY t) 1),if eZ ((aY t).extract 1 (aA bf (aY t) 1)).data.toList then 0 else 201,aA bf (aY t) 1):=by
 unfold an;rw[r5 (by decide),r6 (by decide),r6 (by decide)]
theorem nO(t:ByteArray)(e:Nat):((aY t).extract 1 e).data.toList=t.data.toList.take (e-1):=by
 rw[ByteArray.data_extract,Array.toList_extract,oO];simp[List.extract]
theorem pj(c:UInt8)(r:List UInt8):eZ (c::r)=(wo (r.length+1≤24)&&isLow c):=rfl
theorem gm(t:ByteArray):jz t=aN t.data.toList:=by
 have s:0<(aY t).size:=by rw[lF];omega
 have n:(aY t)[0]=39:=rfl;have o:skip (aY t) 0=0:=jm _ 0 s (by rw[n];rfl) (by rw[n];rfl);have u:(aY t).data.toList.drop 1=t.data.toList:=rfl;have he:aA bf (aY t) 1=1+(t.data.toList.takeWhile bf).length:=vI bf _ 1 _ u;have hlen:(t.data.toList.takeWhile bf).length≤t.data.toList.length:=(List.takeWhile_sublist bf).length_le;have g:skip (aY t) 0<(aY t).size:=by rw[o];exact s
 have a:an (aY t) (skip (aY t) 0) (aY t)[skip (aY t) 0]=an (aY t) 0 39:=by simp only[o,n]
 rw[FV]
 constructor
 ·intro h;unfold jz at h;rw[FG,tF,tF]at h;obtain⟨i,j⟩:=h
  by_cases d:(an (aY t) (skip (aY t) 0) (aY t)[skip (aY t) 0]).2.2.1=0
  ·rw[fg _ _ g d,a,jX]at j;rw[a,jX]at d;simp only[List.map_cons,List.cons.injEq]at j;have k:=j.1;rw[nO,he]at k;have v:(t.data.toList.takeWhile bf).length=t.data.toList.length:=by
    have:=tE List.length k;rw[List.length_take]at this;omega
   have b:=mE bf _ v;dsimp only at d;rw[nO,he,k]at d;have l:eZ t.data.toList=true:=by
    cases w:eZ t.data.toList with
    | true=>rfl
    | false=>rw[w]at d;cases d
   cases e:t.data.toList with
   | nil=>rw[e]at l;cases l
   | cons c r =>
    rw[e,pj,FG]at l;rw[e,List.all_cons,FG]at b;rw[oM,l.1,l.2,b.2];rfl
  ·rw[fw _ _ g d]at i
   cases i
 ·intro h
  cases e:t.data.toList with
  | nil=>rw[e]at h;cases h
  | cons c r =>
   rw[e,oM,FG,FG]at h;obtain⟨⟨i,j⟩,k⟩:=h;have b:t.data.toList.all bf=true:=by rw[e,List.all_cons,j,EX c i];rfl
   have m:=rp bf _ b;have f:((aY t).extract 1 (aA bf (aY t) 1)).data.toList=t.data.toList:=by
    rw[nO,he,m];exact FH (by omega)
   have p:eZ t.data.toList=true:=by rw[e,pj,k,i];rfl
   have d:(an (aY t) (skip (aY t) 0) (aY t)[skip (aY t) 0]).2.2.1=0:=by
    rw[a,jX]
    show (if eZ _ then 0 else 201)=0
    rw[f,p];rfl
   have hend:aL (aY t) (aA bf (aY t) 1)=([],U):=by
    apply dD;have x:(aY t).size≤aA bf (aY t) 1:=by
     rw[he,m,lF,FQ]
     show t.data.size+1≤1+t.data.size
     omega
    rw[eT _ _ x];omega
   have q:aL (aY t) 0=([(5,(aY t).extract 1 (aA bf (aY t) 1),0)],U):=by
    rw[fg _ _ g d,a,jX];dsimp only;rw[hend,o]
   unfold jz;rw[q]
   show ((U:Option (Nat×Nat))==U&&[((aY t).extract 1 (aA bf (aY t) 1)).data.toList]==[t.data.toList])=wg
   rw[f];simp
theorem vF(t:ByteArray)(h:16384≤t.size):aN t.data.toList=false:=by
 cases a:aN t.data.toList with
 | false=>rfl
 | true =>
  have:=(wE _ a).2;rw[FQ]at this;have b:t.size=t.data.size:=rfl;omega
def gv:Nat→ab→Prop
 | 0,T=>T.f.size≤72007
 | d+1,T=>T.f.size≤72007∧T.q.length≤20000∧∀k∈T.q,gv d k
def cD:Nat→List ab→Prop
 | 0,_=>True
 | d+1,a=>a.length≤20000∧∀k∈a,gv d k
theorem gv.q{d:Nat}{T:ab}(h:gv d T):cD d T.q:=by
 cases d with
 | zero=>trivial
 | succ d=>exact h.2
theorem gv.f{d:Nat}{T:ab}(h:gv d T):T.f.size≤72007:=by
 cases d with
 | zero=>exact h
 | succ d=>exact h.1
theorem Er:∀(d:Nat) (T:ab) (a:Int),a≤9000→eK d T a≤a→(aH d T:Int)≤eK d T a∧gv d T:=by
 intro d
 induction d with
 | zero =>
  intro T a hm h;have p:eK 0 T a=min (1+((T.f.size / 8:Nat):Int)) (a+1):=rfl;have o:aH 0 T=1:=rfl;refine⟨by omega,?_⟩
  show T.f.size≤72007
  omega
 | succ d q =>
  intro T a hm h;have p:eK (d+1) T a=min (T.q.foldl (aO d a) (1+((T.f.size / 8:Nat):Int))) (a+1):=rfl;have o:aH (d+1) T=(T.q.map (aH d)).foldl (· + ·) 1:=rfl;have r:∀(l:List ab) (c:Int),1≤c→l.foldl (aO d a) c≤a→c≤l.foldl (aO d a) c∧((l.map (aH d)).foldl (· + ·) 0:Nat)+c≤l.foldl (aO d a) c∧∀k∈l,gv d k:=by
   intro l
   induction l with
   | nil=>intro c _ g;exact⟨Int.le_refl _,by simp,fun k b=>by cases b⟩
   | cons x l i =>
    intro c j g;rw[List.foldl_cons]at g ⊢;have m:1≤aO d a c x:=by
     unfold aO
     split
     ·have:=kD d x (a-c) (by omega);omega
     ·exact j
    obtain⟨a1,a2,a3⟩:=i _ m g;have n:c≤a:=by
     by_cases f:c≤a
     ·exact f
     ·exfalso
      have e:aO d a c x=c:=by unfold aO;rw[r5 f]
      rw[e]at a1;omega
    have e:aO d a c x=c+eK d x (a-c):=by unfold aO;rw[r6 n]
    rw[e]at a1 a2 g ⊢;have u:=kD d x (a-c) (by omega);obtain⟨v,s⟩:=q x (a-c) (by omega) (by omega);rw[List.map_cons,List.foldl_cons,eh,Nat.zero_add];refine⟨by omega,by omega,fun k b=>?_⟩;rcases FZ.1 b with rfl|b
    ·exact s
    ·exact a3 k b
  have hle:T.q.foldl (aO d a) (1+((T.f.size / 8:Nat):Int))≤a:=by omega
  obtain⟨a1,a2,a3⟩:=r _ _ (by omega) hle;rw[eh]at o;have b:=qb d T;have t:aH (d+1) T≤9000:=by omega
  exact⟨by omega,by omega,by omega,a3⟩
def ao(x:Bool) (w:vk) (e:Bs) (w':vk):Prop:=e=xv (xS x)∧Gc w w'
theorem eM(w:vk)(a b:Obj):Gc w ((w.alloc a).alloc b):=((Fl _ w).alloc (Fj _) _).alloc (by simp) _
def ai(T:ab) (s:vn):List Value:=[I O T.b,J T.f,I Z T.h,I Z T.t,s]
def cX(j:Nat):ab:=.mk 0 ⟨#[]⟩ 0 (8000024+j) []
theorem flat5:∀(rows:List (List vn)),(∀r∈rows,r.length=5)→∀(i m:Nat) (r:List vn) (u:vn),rows[i]?=Y r→r[m]?=Y u→rows.flatten[i*5+m]?=Y u:=by
 intro rows
 induction rows with
 | nil=>intro _ i m r u h _;simp at h
 | cons x rows c =>
  intro b i m r u a hm;have e:x.length=5:=b x (List.mem_cons_self ..);rw[List.flatten_cons]
  cases i with
  | zero =>
   simp only[List.getElem?_cons_zero,sx]at a;subst a;have:m<x.length:=(FD.1 hm).1;rw[Nat.zero_mul,Nat.zero_add,F6 this];exact hm
  | succ i =>
   rw[F7]at a;have:=c (fun r d=>b r (List.mem_cons_of_mem _ d)) i m r u a hm;rw[FS (by omega)];rw[←this]
   congr 1
   omega
def bO(w:vk) (L B:Nat):Nat→List ab→vn→Prop
 | 0,a,b=>a=[]∧∃g,L≤g∧g<B∧b=A (Y ⟨g,0,U⟩) 0 12∧∀j,j<12→∀i u,(ai (cX j) (A U 0 0))[i]?=Y u→w.cell? ⟨g,j*5+i,U⟩=Y u
 | d+1,a,b=>∃g,L≤g∧g<B∧b=A (Y ⟨g,0,U⟩) a.length (a.length+12)∧
   (∀j,j<12→∀i u,(ai (cX j) (A U 0 0))[i]?=Y u→w.cell? ⟨g,(a.length+j)*5+i,U⟩=Y u)∧
   ∀i T,a[i]?=Y T→Fits T∧∃s,(∀m u,(ai T s)[m]?=Y u→w.cell? ⟨g,i*5+m,U⟩=Y u)∧bO w L B d T.q s
theorem Cm(i:Nat)(w:vk)(a:i≤100):wB wq 69 #[I Z 1,I Z i] w fun e w'=>e=xv (I Z (8000024+(i:Int)))∧w=w':=by
 have b:(0:Int)≤i:=by omega
 have c:(i:Int)≤100:=by omega
 go_enter Tryz.func69,Tryz.ntmps69
 go_wp2
 go_ret;exact⟨V,V⟩
theorem uN(W:vk)(g:Bs→vk→Prop)(T:Nat)(a b c d e:vn)(h:W.heap[T]?=Y (ur #[a,b,c,d,e] 25 (0,0)))
  (tmps:Array vn) (i:tmps.getD 4 xD=wF (Y ⟨T,0,U⟩)) (j:g (xv (wD #[a,b,c,d,e])) W) :
  bodyPost wq Tryz.f37 g .ret ⟨tmps,[]⟩ W:=by
 obtain⟨k,l,c2,m,c4⟩:=cells5 h;have f:tmps[4]?.getD xD=wF (Y ⟨T,0,U⟩):=by simpa using i
 refine bodyPost_ret (v:=wD #[a,b,c,d,e]) ?_ V j;simp[results,Tryz.results37,go_sem,f,k,l,c2,m,c4]
theorem ob(i:Nat)(w:vk)(a:i≤100) :
  wB wq 37 #[I Z 1,I Z i] w fun e w'=>e=xv (wD #[I O 0,J ⟨#[]⟩,I Z 0,I Z (8000024+(i:Int)),A U 0 0])∧Gc w w':=by
 have b:=Hd (fun W=>Cm i W a)
 go_enter Tryz.func37,Tryz.ntmps37
 go_wp2_with (first
  | (go_at_call 69;refine Fx (b.o _) ?_;rintro e w' ⟨rfl,rfl⟩))
 exact uN _ _ w.heap.size _ _ _ _ _ (qv w _) _ V ⟨V,(Fl _ w).alloc (Fj _) _⟩
theorem bO.z{w w':vk}{L B:Nat}(h:∀b i u,L≤b→b<B→w.cell? ⟨b,i,U⟩=Y u→w'.cell? ⟨b,i,U⟩=Y u):∀{d:Nat} {e:List ab} {f:vn},bO w L B d e f→bO w' L B d e f:=by
 intro d
 induction d with
 | zero =>
  rintro e f ⟨o,g,a,c,k,l⟩;exact⟨o,g,a,c,k,fun j n i u hu=>h _ _ _ a c (l j n i u hu)⟩
 | succ d p =>
  rintro e f ⟨g,a,c,k,l,q⟩;refine⟨g,a,c,k,fun j n i u hu=>h _ _ _ a c (l j n i u hu),fun i T r=>?_⟩;obtain⟨t,s,v,x⟩:=q i T r;exact⟨t,s,fun m u hu=>h _ _ _ a c (v m u hu),p x⟩
theorem bO.u{w w':vk}{L B:Nat}(e:Below B w w'){d:Nat}{a:List ab}{c:vn}(h:bO w L B d a c):bO w' L B d a c:=
 h.z fun b i _ _ hB f=>(e.cell (p:=⟨b,i,U⟩) hB).trans f
theorem bO.h{w w':vk}{L B g:Nat}(f:w.grownBy w' (Y g))(k:g<L){d:Nat}{a:List ab}{c:vn}(h:bO w L B d a c):bO w' L B d a c:=
 h.z fun b i _ l _ j=>f.cell j (by intro e;simp at e;omega)
theorem bO.up{w:vk}{L L' B j:Nat}(k:L'≤L)(hB:B≤j):∀{d:Nat} {a:List ab} {b:vn},bO w L B d a b→bO w L' j d a b:=by
 intro d
 induction d with
 | zero =>
  rintro a b ⟨l,g,c,e,f,h⟩;exact⟨l,g,Fu k c,Ft e hB,f,h⟩
 | succ d m =>
  rintro a b ⟨g,c,e,f,h,n⟩;refine⟨g,Fu k c,Ft e hB,f,h,fun i T o=>?_⟩;obtain⟨p,s,q,r⟩:=n i T o;exact⟨p,s,q,m r⟩
theorem bO.b{w:vk}{L B d:Nat}{a:List ab}{f:vn}(h:bO w L B d a f):∃g,L≤g∧g<B∧f=A (Y ⟨g,0,U⟩) a.length (a.length+12):=by
 cases d with
 | zero =>
  obtain⟨i,g,b,c,e,_⟩:=h;subst i;exact⟨g,b,c,e⟩
 | succ d =>
  obtain⟨g,b,c,e,_⟩:=h;exact⟨g,b,c,e⟩
theorem bO.q{w:vk}{L B:Nat}:∀{d:Nat} {a:List ab} {c:vn},bO w L B d a c→cD d a→aj w B d a c:=by
 intro d
 induction d with
 | zero =>
  rintro a c ⟨e,g,k,h,f,l⟩ _;exact⟨e,_,_,f⟩
 | succ d m =>
  rintro a c ⟨g,k,h,f,l,n⟩ ⟨r,o⟩
  by_cases e:a=[]
  ·subst e;exact wP ⟨V,_,_,f⟩
  ·refine xj ⟨g,0,a.length+12,e,h,by omega,by unfold maxLen;omega,f,fun i T j=>?_⟩;obtain⟨p,s,b,q⟩:=n i T j;refine⟨p,s,?_,?_,?_,?_,?_,m q (o T (FM j)).q⟩<;>simp only[Nat.zero_add]
   ·exact b 0 _ V
   ·exact b 1 _ V
   ·exact b 2 _ V
   ·exact b 3 _ V
   ·exact b 4 _ V
def Dl(d:Nat) (a:List ab) (w:vk) (e:Bs) (w':vk):Prop:=∃s,e=xv s∧Gc w w'∧bO w' w.heap.size w'.heap.size d a s
def AX(d:Nat) (T:ab) (w:vk) (e:Bs) (w':vk):Prop:=∃s,e=xv (wD #[I O T.b,J T.f,I Z T.h,I Z T.t,s])∧Gc w w'∧bO w' w.heap.size w'.heap.size d T.q s
def xH(d:Nat):Prop:=∀(a:List ab) (u:vn) (B:Nat) (w:vk),aj w B d a u→B≤w.heap.size→cD d a→wB wq 19 #[u] w (Dl d a w)
def ym(d:Nat):Prop:=∀(T:ab) (u:vn) (B:Nat) (w:vk),bz w B d T u→B≤w.heap.size→cD d T.q→wB wq 8 #[u] w (AX d T w)
theorem uL(W:vk)(g:Bs→vk→Prop)(T:Nat)(a b c d e:vn)(h:W.heap[T]?=Y (ur #[a,b,c,d,e] 25 (0,0)))
  (tmps:Array vn) (i:tmps.getD 2 xD=wF (Y ⟨T,0,U⟩)) (j:g (xv (wD #[a,b,c,d,e])) W) :
  bodyPost wq Tryz.f8 g .ret ⟨tmps,[]⟩ W:=by
 obtain⟨k,l,c2,m,c4⟩:=cells5 h;have f:tmps[2]?.getD xD=wF (Y ⟨T,0,U⟩):=by simpa using i
 refine bodyPost_ret (v:=wD #[a,b,c,d,e]) ?_ V j;simp[results,Tryz.results8,go_sem,f,k,l,c2,m,c4]
theorem bO.set{w:vk}{L B T:Nat}(f:T<L)(i:Nat)(x:vn){d:Nat}{a:List ab}{c:vn}(h:bO w L B d a c):bO (w.setCell ⟨T,i,U⟩ x) L B d a c:=
 h.z fun b j _ g _ e=>(World.cell?_of_block (Fp w ⟨T,i,U⟩ x b (by show b≠T;omega))).trans e
theorem tV(d:Nat)(h:xH d):ym d:=by
 intro T u B w hu hB z;obtain⟨E,s,rfl,n⟩:=hu;obtain⟨p,l,c,rfl⟩:=n.b;have k:=eM w (ur #[I O T.b,J T.f,I Z T.h,I Z T.t,A p l c] 25) (ur #[I O 0,J ⟨#[]⟩,I Z 0,I Z 0,A U 0 0] 25);obtain⟨q,C,_⟩:=aw w (ur #[I O T.b,J T.f,I Z T.h,I Z T.t,A p l c] 25) (ur #[I O 0,J ⟨#[]⟩,I Z 0,I Z 0,A U 0 0] 25);obtain⟨r,t,F,D⟩:=zz4 q C (h T.q _ B _ (n.u (k.mono hB)) (Fu hB k.size) z) k;obtain⟨a0,a1,a2,a3,a4⟩:=cells5 q;clear q C n h k E z
 go_enter Tryz.func8,Tryz.ntmps8
 go_wp2_with fail
 refine F.o.mono ?_;rintro e G ⟨s',rfl,a,v⟩;obtain⟨g,f,hg,rfl⟩:=v.b;have i:w.heap.size<((w.alloc (ur #[I O T.b,J T.f,I Z T.h,I Z T.t,A p l c] 25)).alloc (ur #[I O 0,J ⟨#[]⟩,I Z 0,I Z 0,A U 0 0] 25)).heap.size:=by simp;omega
 have j:w.heap.size+1<((w.alloc (ur #[I O T.b,J T.f,I Z T.h,I Z T.t,A p l c] 25)).alloc (ur #[I O 0,J ⟨#[]⟩,I Z 0,I Z 0,A U 0 0] 25)).heap.size:=by simp
 have m:=aa a r.o i;have b:=aa a t.o j;obtain⟨x,H,K⟩:=zz3 (D.o.trans (a.mono D.o.size)) (v.up (L':=w.heap.size+2) (by simp) (Fj _)) (show w.heap.size+1<g by simp at f;omega);clear a0 a1 a2 a3 a4 a v f i j;obtain⟨a0,a1,a2,a3,a4⟩:=cells5 m;have f1:=ac m 4;obtain⟨L,M,N,P,Q⟩:=cells5 b;have g0:=ac b 0;have g1:=ac b 1;have g2:=ac b 2;have g3:=ac b 3;have g4:=ac b 4;obtain⟨H1,R⟩:=zz2 m b;clear m b;go_wp2_with fail
 clear a0 a1 a2 a3 f1
 have S:=Hd (show Gc w ((((((G.setCell ⟨w.heap.size,4,U⟩ (A (Y ⟨g,0,U⟩) T.q.length (T.q.length+12))).setCell ⟨w.heap.size+1,0,U⟩ (I O T.b)).setCell ⟨w.heap.size+1,1,U⟩ (J T.f)).setCell ⟨w.heap.size+1,2,U⟩ (I Z T.h)).setCell ⟨w.heap.size+1,3,U⟩ (I Z T.t)).setCell ⟨w.heap.size+1,4,U⟩ (A (Y ⟨g,0,U⟩) T.q.length (T.q.length+12))) from
  (((((x.o.setCell (Fj _) _).setCell (FN _) _).setCell (FN _) _).setCell (FN _) _).setCell (FN _) _).setCell (FN _) _)
 clear L M N P Q g0 g1 g2 g3 g4;have y:w.heap.size≠w.heap.size+1:=by omega
 refine uL _ _ (w.heap.size+1) _ _ _ _ _ (heap_set (heap_set (heap_set (heap_set (heap_set (aJ R.o y _ _) 0 _) 1 _) 2 _) 3 _) 4 _) _ V ?_;refine⟨_,V,S.o,?_⟩;have X:∀(W:vk) (p:Addr) (u:vn),(W.setCell p u).heap.size=W.heap.size:=fun W p u=>by simp[World.setCell]
 have hG:=K.o;refine (((((((H.o.set (by omega) _ _).set (by omega) _ _).set (by omega) _ _).set (by omega) _ _).set (by omega) _ _).set (by omega) _ _).up (by omega) ?_);simp[X]
theorem mx:(Tryz.prog.info? 25).map (fun i=>(i.zero,i.size,i.bytes))=Y (Y (wD #[I O 0,J ByteArray.empty,I Z 0,I Z 0,A U 0 0]),5,64):=by kernel_rfl
def yd(w:vk) (d b o:Nat) (B:Nat) (T:ab):Prop:=
 Fits T∧∃s,w.cell? ⟨b,o,U⟩=Y (I O T.b)∧w.cell? ⟨b,o+1,U⟩=Y (J T.f)∧w.cell? ⟨b,o+2,U⟩=Y (I Z T.h)∧w.cell? ⟨b,o+3,U⟩=Y (I Z T.t)∧w.cell? ⟨b,o+4,U⟩=Y s∧aj w B d T.q s
theorem aj.rows{w:vk}{B d:Nat}{e:List ab}{g:vn}(h:aj w B d e g) :
  ∃p c,g=A p e.length c∧e.length≤maxLen∧∀i T,e[i]?=Y T→d=d-1+1∧∃b off,p=Y ⟨b,off,U⟩∧b<B∧yd w (d-1) b (off+i*5) B T:=by
 rcases h.cases with ⟨rfl,sp,cap,rfl⟩|⟨d',b,off,cap,rfl,j,k,l,hm,rfl,a⟩
 ·exact⟨sp,cap,V,FA _,fun i T f=>by simp at f⟩
 ·refine⟨_,cap,V,Fu l hm,fun i T f=>⟨by omega,b,off,V,k,a i T f⟩⟩
theorem yd.node{w W:vk}{B d b o:Nat}{t:ab}(hB:Below B w W)(a:b<B)(h:yd w d b o B t) :
  ∃p n c,W.cell? ⟨b,o,U⟩=Y (I O t.b)∧W.cell? ⟨b,o+1,U⟩=Y (J t.f)∧
       W.cell? ⟨b,o+2,U⟩=Y (I Z t.h)∧W.cell? ⟨b,o+3,U⟩=Y (I Z t.t)∧W.cell? ⟨b,o+4,U⟩=Y (A p n c)∧
       bz W B d t (wD #[I O t.b,J t.f,I Z t.h,I Z t.t,A p n c]):=by
 obtain⟨g,s,i,k,c2,l,c4,f⟩:=h;obtain⟨p,n,c,rfl⟩:=f.b;have e:∀j,W.cell? ⟨b,j,U⟩=w.cell? ⟨b,j,U⟩:=fun j=>hB.cell (p:=⟨b,j,U⟩) a
 exact⟨p,n,c,(e _).trans i,(e _).trans k,(e _).trans c2,(e _).trans l,(e _).trans c4,g,_,V,f.u hB⟩
def gy(W:vk) (L B d:Nat) (a:List ab) (k:Nat) (rows:List (List vn)):Prop:=
 rows.length=k∧(∀r∈rows,r.length=5)∧∀i T,i<k→a[i]?=Y T→Fits T∧∃s,rows[i]?=Y (ai T s)∧bO W L B d T.q s
def Ey(w b:vk) (d:Nat) (c:List ab) (n:Nat) (o i:vn) (W:vk):Prop:=
 ∃(a:vk) (k:Nat) (rows:List (List vn)),a=W∧k≤n∧o=A (Y ⟨w.heap.size,0,U⟩) k (n+12)∧i=I Z k∧
  a.ownsRow w.heap.size 25 5 (A (Y ⟨w.heap.size,0,U⟩) k (n+12)) k rows.flatten∧Gc w a∧b.heap.size≤a.heap.size∧gy a (w.heap.size+1) a.heap.size (d-1) c k rows
theorem gy.next{W W':vk}{L B e d k:Nat}{f:List ab}{rows:List (List vn)}{t:ab}{s:vn}(h:gy W L B d f k rows)
  (a:∀{ls:List ab} {j:vn},bO W L B d ls j→bO W' L e d ls j) (m:f[k]?=Y t) (n:Fits t) (o:bO W' L e d t.q s):gy W' L e d f (k+1) (rows++[ai t s]):=by
 obtain⟨l,p,q⟩:=h;refine⟨by simp[l],fun r b=>?_,fun i T v c=>?_⟩
 ·rcases List.mem_append.1 b with b|b
  ·exact p r b
  ·simp at b;subst b;rfl
 ·by_cases g:i<k
  ·obtain⟨a1,u,a2,a3⟩:=q i T g c;refine⟨a1,u,?_,a a3⟩;rw[F6 (by omega)];exact a2
  ·obtain rfl:i=k:=by omega
   rw[m]at c;injection c with c
   subst c;refine⟨n,s,?_,o⟩;rw[FS (by omega),l];simp
theorem below_grown{B g:Nat}{w W W':vk}(a:Below B w W)(c:B≤W.heap.size)(b:W.grownBy W' (Y g))(f:B≤g):Below B w W':=
 ⟨b.os.trans a.os,b.tape.trans a.tape,b.output.trans a.output,Fu a.size b.size,fun i d=>(b.block i (Ft d c) (by intro e;simp at e;omega)).trans (a.block i d)⟩
def eC(m:Nat):List (List vn):=(List.range m).map fun j=>ai (cX j) (A U 0 0)
theorem tj(m:Nat):∀r∈eC m,r.length=5:=by
 intro r a;unfold eC at a;obtain⟨j,_,rfl⟩:=List.mem_map.1 a;rfl
theorem v5(m j:Nat)(h:j<m):(eC m)[j]?=Y (ai (cX j) (A U 0 0)):=by
 unfold eC;rw[List.getElem?_map,List.getElem?_range h];rfl
theorem tc(m:Nat):eC (m+1)=eC m++[ai (cX m) (A U 0 0)]:=by
 unfold eC;rw[List.range_succ,List.map_append];rfl
def Ei(w:vk) (d:Nat) (b:List ab) (n:Nat) (rows:List (List vn)) (o i:vn) (W:vk):Prop:=
 ∃(a:vk) (m:Nat),a=W∧m≤12∧o=A (Y ⟨w.heap.size,0,U⟩) (n+m) (n+12)∧i=I Z m∧
  a.ownsRow w.heap.size 25 5 (A (Y ⟨w.heap.size,0,U⟩) (n+m) (n+12)) (n+m) (rows++eC m).flatten∧Gc w a∧w.heap.size<a.heap.size∧gy a (w.heap.size+1) a.heap.size (d-1) b n rows
theorem gy.z{W W':vk}{L B b d k:Nat}{c:List ab}{rows:List (List vn)}(h:gy W L B d c k rows)
  (a:∀{ls:List ab} {e:vn},bO W L B d ls e→bO W' L b d ls e):gy W' L b d c k rows:=by
 obtain⟨f,g,j⟩:=h;refine⟨f,g,fun i T l m=>?_⟩;obtain⟨a1,s,a2,a3⟩:=j i T l m;exact⟨a1,s,a2,a a3⟩
theorem CL{W:vk}{g n d:Nat}{c:List ab}{rows:List (List vn)}(o:c.length=n)(a:W.ownsRow g 25 5 (A (Y ⟨g,0,U⟩) (n+12) (n+12)) (n+12) (rows++eC 12).flatten)(p:g<W.heap.size)
  (b:gy W (g+1) W.heap.size (d-1) c n rows) (v:d=0→c=[]):bO W g W.heap.size d c (A (Y ⟨g,0,U⟩) n (n+12)):=by
 obtain⟨w,x,y⟩:=b;have z:∀r∈rows++eC 12,r.length=5:=fun r b=>by
  rcases List.mem_append.1 b with b|b
  ·exact x r b
  ·exact tj 12 r b
 have e:∀i m r u,(rows++eC 12)[i]?=Y r→r[m]?=Y u→W.cell? ⟨g,i*5+m,U⟩=Y u:=fun i m r u h hm=>by
  have q:=flat5 _ z i m r u h hm;have k:i*5+m<(n+12)*5:=by
   have:=(FD.1 q).1;rw[a.1]at this;exact this
  rw[a.cellAt _ k];exact q
 have f:∀j,j<12→∀i u,(ai (cX j) (A U 0 0))[i]?=Y u→W.cell? ⟨g,(n+j)*5+i,U⟩=Y u:=fun j l i u hu=>by
  refine e (n+j) i _ u ?_ hu;rw[FS (by omega),w,Nat.add_sub_cancel_left];exact v5 12 j l
 cases d with
 | zero =>
  have:=v V;subst this;obtain rfl:n=0:=by simpa using o.symm
  refine⟨V,g,Fj _,p,V,fun j l i u hu=>?_⟩;have:=f j l i u hu
  rwa [Nat.zero_add]at this
 | succ d =>
  subst o;refine⟨g,Fj _,p,V,f,fun i T t=>?_⟩;have h:i<c.length:=(FD.1 t).1;obtain⟨a1,s,a2,a3⟩:=y i T h t;refine⟨a1,s,fun m u hu=>e i m _ u ?_ hu,a3.up (FN _) (Fj _)⟩;rw[F6 (by omega)];exact a2
theorem Bo(w:vk)(l:List vn)(t:TypeId):∀(j:Nat) (u:vn),l[j]?=Y u→(w.alloc (ur l.toArray t)).cell? ((⟨w.heap.size,0,U⟩:Addr).add j)=Y u:=mG w l t
theorem ve(d:Nat)(hN:∀d',d=d'+1→ym d'):xH d:=by
 intro M u B w hk hB hs;have br:M.length≤20000:=by
  cases d with
  | zero=>rw[hk.1];exact FA _
  | succ d=>exact hs.1
 have y:∀T∈M,cD (d-1) T.q:=by
  cases d with
  | zero=>intro T hT;rw[hk.1]at hT;cases hT
  | succ d=>intro T hT;exact (hs.2 T hT).q
 obtain⟨p,c,rfl,_,S⟩:=hk.rows;obtain⟨n,hn⟩:=zzy (M.length);rw[hn]at br ⊢;obtain⟨HN,X,bt,bB⟩:=zz4 hn S y hN;obtain⟨i0,aq,bR,ar,b0⟩:=info_parts mx;obtain⟨C,hC⟩:=zzy (madeCells (Value.cells (wD #[I O 0,J ByteArray.empty,I Z 0,I Z 0,A U 0 0])) ((n+12)*5));have av:C.size=(n+12)*5:=by rw[←hC];exact size_madeCells _ _
 have b1:∀W:vk,(Instr.makeSlice 23 (I Z 0) (I Z ((n:Int)+12))).run wq W=.ok (A (Y ⟨W.heap.size,0,U⟩) 0 (n+12)) (W.alloc (ur C 25)):=by
  intro W;have h:=run_make (P:=wq) W 23 25 i0 _ Tryz.underlying23 aq bR Z Z 0 ((n:Int)+12) (by omega) (by omega) (by rw[b0];omega) (by omega);rw[h,ar,show ((n:Int)+12).toNat=n+12 by omega,hC];rfl
 obtain⟨HC,ad⟩:=zz2 av (World.ownsRow_made (base:=w.heap.size) (e:=25) (size:=5) w C (n+12) (Fj _) (by unfold maxLen;omega) av);obtain⟨W0,N⟩:=zzx (w.alloc (ur C 25));have bd:Gc w W0:=by rw[N];exact (Fl _ w).alloc (Fj _) _
 have b7:w.heap.size<W0.heap.size:=by rw[N];simp
 rw[←N]at ad;have b2:=Hd bd;clear hk hs y S hN hn av hC bd
 go_enter Tryz.func19,Tryz.ntmps19
 go_wp2_with fail
 rw[←N]
 go_loopw [3,4] (Ey w W0 d M n) (fun _ i _=>n-(intOf i).toNat)
 case atStart=>exact⟨_,0,[],V,FA _,V,V,ad.o,b2.o,Fj _,V,(fun _ h=>absurd h (FX)),fun i T hi _=>absurd hi (Nat.not_lt_zero _)⟩
 case round =>
  obtain⟨W1,k,rows,rfl,hk,rfl,rfl,f,hb,b8,z⟩:=hrel;have b3:(0:Int)≤k:=by omega
  obtain⟨D,E,bk⟩:=zz3 f hb z;clear f z
  by_cases F:k<n
  ·obtain⟨t,ht⟩:∃t,M[k]?=Y t:=⟨M[k]'(by rw[HN.o];exact F),Fq (by rw[HN.o];exact F)⟩;have af:t∈M:=FM ht;obtain⟨hd,b,off,rfl,b4,ak⟩:=X.o k t ht;obtain⟨p',l',c',d0,d1,d2,d3,d4,r⟩:=ak.node (hb.mono hB) b4;obtain⟨HF,HT⟩:=zz2 r.1 ht;have b9:(k:Int)<n:=by omega
   have a1:=Hd (bB.o _ hd t _ B W1 r (Fu hB hb.size) (bt.o t af));clear r ak ht af hd hb;go_wp2_with fail
   refine a1.o.mono ?_;rintro e W2 ⟨s,rfl,Q,hl⟩;obtain⟨g,ca,hg,rfl⟩:=hl.b;obtain⟨bl,HL⟩:=zz2 Q hl;have a6:=ownsRow_below D.o Q;have G:=Q.size;clear Q hl;go_wp2_with (at_builtin;go_must (refine wpList_append_own_spare _ V (.tmp 22) (.tmp 24) 23 V w.heap.size 25 i0 5 Tryz.underlying23 aq ar w.heap.size k (n+12) rows.flatten V ((a6.alloc _).alloc _) ⟨W2.heap.size+1,0,U⟩ 1 1 (ai t (A (Y ⟨g,0,U⟩) t.q.length (t.q.length+12))) V V (by exact Aa W2 _ (ai t (A (Y ⟨g,0,U⟩) t.q.length (t.q.length+12))) 25) (by simp[Value.oneCell',ai]) (by omega) ?_);intro w7 v a)
   have b5:=bk.o;have ba:=a.size;simp only[r9]at ba;have q:Gc W2 ((W2.alloc (ur #[I O t.b,J t.f,I Z t.h,I Z t.t,A (Y ⟨g,0,U⟩) t.q.length (t.q.length+12)] 25)).alloc (ur #[I O t.b,J t.f,I Z t.h,I Z t.t,A (Y ⟨g,0,U⟩) t.q.length (t.q.length+12)] 25)):=eM W2 _ _;have bb:Gc w w7:=below_grown ((E.o.trans (bl.o.mono E.o.size)).trans (q.mono (Fu E.o.size G))) (Fu E.o.size (Fu G q.size)) a (Fj _);refine⟨⟨w7,k+1,rows++[ai t (A (Y ⟨g,0,U⟩) t.q.length (t.q.length+12))],V,by omega,V,by go_num,?_,bb,by omega,?_⟩,by simp[intOf];omega⟩
   ·rw[List.flatten_append]
    simpa using v
   ·refine b5.next (fun {ls sl} h=>?_) HT.o HF.o ?_
    ·exact ((((h.u bl.o).u (q.mono G)).h a (Nat.lt_succ_self _)).up (Fj _) (by omega))
    ·exact ((HL.o.u q).h a (by omega)).up (by omega) (by omega)
  ·obtain rfl:k=n:=by omega
   have HM:=Hd (fun j W (hj:j≤100)=>ob j W hj);clear hk F b3 hb b1;go_wp2_with fail
   go_loopw [3,6] (Ei w d M k rows) (fun _ i _=>12-(intOf i).toNat)
   case atStart=>exact⟨_,0,V,by omega,V,V,by simpa [eC]using D.o,E.o,by omega,bk.o⟩
   case round =>
    obtain⟨W3,m,rfl,hm,rfl,rfl,f,hb,bn,z⟩:=hrel;obtain⟨H,K,al⟩:=zz3 f hb z;have cb:(0:Int)≤m:=by omega
    clear f z hb
    by_cases F:m<12
    ·have cc:(m:Int)<12:=by omega
     go_wp2_with fail
     refine Fx (HM.o m _ (by omega)) ?_;rintro e W4 ⟨rfl,R⟩;have bc:=ownsRow_below H.o R;have L:=R.size;have bq:=Hd R;clear R;go_wp2_with (at_builtin;go_must (refine wpList_append_own_spare _ V (.tmp 30) (.tmp 33) 23 V w.heap.size 25 i0 5 Tryz.underlying23 aq ar w.heap.size (k+m) (k+12) (rows++eC m).flatten V (bc.alloc _) ⟨W4.heap.size,0,U⟩ 1 1 (ai (cX m) (A U 0 0)) V V (by exact Bo W4 (ai (cX m) (A U 0 0)) 25) (by simp[Value.oneCell',ai]) (by omega) ?_);intro w7 v a)
     have ba:=a.size;simp only[r9]at ba;have q:Gc W4 (W4.alloc (ur #[I O 0,J ⟨#[]⟩,I Z 0,I Z (8000024+(m:Int)),A U 0 0] 25)):=(Fl _ W4).alloc (Fj _) _;have bb:Gc w w7:=below_grown ((K.o.trans (bq.o.mono K.o.size)).trans (q.mono (Fu K.o.size L))) (Fu K.o.size (Fu L q.size)) a (Fj _);refine⟨⟨w7,m+1,V,by omega,V,by go_num,?_,bb,by omega,?_⟩,by simp[intOf];omega⟩
     ·rw[tc,←List.append_assoc,List.flatten_append];have e:k+(m+1)=k+m+1:=by omega
      rw[e]
      simpa using v
     ·exact al.o.z fun h=>(((h.u bq.o).u (q.mono L)).h a (Nat.lt_succ_self _)).up (Fj _) (by omega)
    ·obtain rfl:m=12:=by omega
     clear F;go_wp2_with fail
     go_ret;refine⟨_,V,K.o,CL HN.o H.o bn al.o (fun h0=>?_)⟩;have hr:=X.o
     cases b6:M with
     | nil=>rfl
     | cons x l =>
      have:=(hr 0 x (by rw[b6];rfl)).1;omega
theorem Bv:∀d,xH d:=by
 intro d
 induction d with
 | zero=>exact ve 0 (fun d' h=>by omega)
 | succ d a =>
  refine ve (d+1) (fun d' h=>?_);have e:d'=d:=by omega
  subst e;exact tV _ a
theorem A9(d:Nat):ym d:=tV d (Bv d)
def Wb(w:vk):={W:vk // Gc w W}
instance (w:vk):Nonempty (Wb w):=⟨⟨w,Fl _ w⟩⟩
theorem au{P:Program}{id:Nat}{Q:Exit→Act→vk→Prop}{a:Act}{w:vk}{l:List Oper}(hm:P.follows .mixedOrders=wg)(hB:Region.lexB .any l.toArray=wg)
  (h:wpQuiet P l.toArray (fun w'=>∃x:Wb w,w'=x.1) (fun b=>∀w',(∃x:Wb w,w'=x.1)→Q .normal b w') l a):(Code.region id l.toArray wg).wp P Q a w:=
 wp_region_quiet (C:=fun w'=>∃x:Wb w,w'=x.1) hm hB ⟨⟨w.drew,(Fl _ w).drew⟩,V⟩ (by simpa using h)
theorem Calls.b{P:Program}{f:FuncId}{args:Array vn}{w:vk}{x:Wb w}{v:vn}
  (h:wB P f args x.1 fun e w'=>e=xv v∧Below x.1.heap.size x.1 w'):wB P f args x.1 fun e a=>e=xv v∧∃y:Wb w,a=y.1:=
 h.mono fun _ W ⟨he,b⟩=>⟨he,⟨W,x.2.trans (b.mono x.2.size)⟩,V⟩
theorem a8{w w':vk}(h:∃x:Wb w,w'=x.1):Gc w w':=by
 obtain⟨x,rfl⟩:=h;exact x.2
theorem Wb.b{w:vk}(x:Wb w){a:Addr}{v:vn}(h:w.cell? a=Y v):x.1.cell? a=Y v:=
 (x.2.cell (World.block_lt_of_cell? w a h)).trans h
def ze(d:Nat):Prop:=∀(a:List ab) (u v:vn) (L B C:Nat) (w:vk),bO w L B d a u→aj w C d a v→B≤w.heap.size→C≤w.heap.size→cD d a→wB wq 30 #[u,v] w (bT w)
def yi(d:Nat):Prop:=∀(T:ab) (s v:vn) (L B C:Nat) (w:vk),Fits T→bO w L B d T.q s→bz w C d T v→B≤w.heap.size→C≤w.heap.size→cD d T.q→
 wB wq 12 #[wD #[I O T.b,J T.f,I Z T.h,I Z T.t,s],v] w (bT w)
theorem uQ(d:Nat)(h:ze d):yi d:=by
 intro T s v L B C w z q R hB t m;obtain⟨_,r,rfl,u⟩:=R;obtain⟨p,l,c,rfl⟩:=u.b;obtain⟨g,S,hg,rfl⟩:=q.b;have E:=eM w (ur #[I O T.b,J T.f,I Z T.h,I Z T.t,A (Y ⟨g,0,U⟩) T.q.length (T.q.length+12)] 25) (ur #[I O T.b,J T.f,I Z T.h,I Z T.t,A p l c] 25);obtain⟨F,G,_⟩:=aw w (ur #[I O T.b,J T.f,I Z T.h,I Z T.t,A (Y ⟨g,0,U⟩) T.q.length (T.q.length+12)] 25) (ur #[I O T.b,J T.f,I Z T.h,I Z T.t,A p l c] 25);have H:∀W,Gc w W→wB wq 29 #[wD #[I O T.b,J T.f,I Z T.h,I Z T.t,A (Y ⟨g,0,U⟩) T.q.length (T.q.length+12)],wD #[I O T.b,J T.f,I Z T.h,I Z T.t,A p l c]] W (bT W):=fun W a =>lI d (li d) T _ _ B C W ⟨z,_,V,((q.q m).u (a.mono hB))⟩ ⟨z,_,V,u.u (a.mono t)⟩ (Fu hB a.size) (Fu t a.size)
 have X:=Hd H;have HK:=Hd (fun W (a:Gc w W)=>h T.q _ _ L B C W (q.u (a.mono hB)) (u.u (a.mono t)) (Fu hB a.size) (Fu t a.size) m);obtain⟨x,f,i⟩:=zz3 E F G;clear F G H h q u E z;obtain⟨y,j⟩:=zzx (((w.alloc (ur #[I O T.b,J T.f,I Z T.h,I Z T.t,A (Y ⟨g,0,U⟩) T.q.length (T.q.length+12)] 25)).alloc (ur #[I O T.b,J T.f,I Z T.h,I Z T.t,A p l c] 25)));have ad:w.heap.size+1<y.heap.size:=by rw[j];simp
 rw[←j]at x f i;obtain⟨a0,a1,a2,a3,a4⟩:=cells5 f.o;obtain⟨K,M,N,P,Q⟩:=cells5 i.o
 go_enter Tryz.func12,Tryz.ntmps12
 go_wp2_with fail
 rw[←j];refine Fx (X.o y x.o) ?_;rintro e W2 ⟨rfl,b⟩;clear a0 a1 a2 a3 a4 K M N P Q;obtain⟨a0,a1,a2,a3,a4⟩:=cells5 (aa b f.o (by omega));obtain⟨K,M,N,P,Q⟩:=cells5 (aa b i.o (by omega));have k:=Hd (x.o.trans (b.mono x.o.size));clear b;go_wp2_with fail
 refine Fx (HK.o W2 k.o) ?_;rintro e W3 ⟨rfl,n⟩;have D:=Hd (k.o.trans (n.mono k.o.size));clear n;go_wp2_with fail
 go_ret;exact⟨V,D.o⟩
theorem bO.C{w:vk}{L B d:Nat}{a:List ab}{l:vn}(h:bO w L B d a l) :
  ∃g,L≤g∧g<B∧l=A (Y ⟨g,0,U⟩) a.length (a.length+12)∧
   (∀j,j<12→∀i u,(ai (cX j) (A U 0 0))[i]?=Y u→w.cell? ⟨g,(a.length+j)*5+i,U⟩=Y u)∧
   ∀i T,a[i]?=Y T→d=d-1+1∧Fits T∧∃s,(∀m u,(ai T s)[m]?=Y u→w.cell? ⟨g,i*5+m,U⟩=Y u)∧bO w L B (d-1) T.q s:=by
 cases d with
 | zero =>
  obtain⟨rfl,g,b,c,e,f⟩:=h;refine⟨g,b,c,e,fun j n i u hu=>?_,fun i T k=>by simp at k⟩;have:=f j n i u hu
  simpa using this
 | succ d =>
  obtain⟨g,b,c,e,f,o⟩:=h;exact⟨g,b,c,e,f,fun i T k=>⟨V,o i T k⟩⟩
theorem cellsOf{w:vk}{b o:Nat}{T:ab}{s:vn}(h:∀m u,(ai T s)[m]?=Y u→w.cell? ⟨b,o+m,U⟩=Y u) :
  w.cell? ⟨b,o,U⟩=Y (I O T.b)∧w.cell? ⟨b,o+1,U⟩=Y (J T.f)∧w.cell? ⟨b,o+2,U⟩=Y (I Z T.h)∧w.cell? ⟨b,o+3,U⟩=Y (I Z T.t)∧w.cell? ⟨b,o+4,U⟩=Y s:=
 ⟨h 0 _ V,h 1 _ V,h 2 _ V,h 3 _ V,h 4 _ V⟩
theorem tP(d:Nat)(hN:∀d',d=d'+1→yi d'):ze d:=by
 intro S u v L B C w hu hv hB hC N;have ar:S.length≤20000:=by
  cases d with
  | zero=>rw[hu.1];exact FA _
  | succ d=>exact N.1
 have y:∀T∈S,cD (d-1) T.q:=by
  cases d with
  | zero=>intro T hT;rw[hu.1]at hT;cases hT
  | succ d=>intro T hT;exact (N.2 T hT).q
 obtain⟨p,c,rfl,_,G⟩:=hv.rows;obtain⟨g,br,X,rfl,f,z⟩:=hu.C;obtain⟨n,hn⟩:=zzy (S.length);rw[hn]at ar f ⊢;obtain⟨HN,ad,P,D,av,a1,a6⟩:=zz7 hn G z f y hN (lI 0 (li 0));have HM:=Hd (fun j W (hj:j≤100)=>ob j W hj);clear hu hv N y G hN hn f z
 go_enter Tryz.func30,Tryz.ntmps30
 go_wp2_with fail
 go_loopw [6] (lc w (n+12)) (fun i _=>n+12-(intOf i).toNat)
 case atStart=>exact⟨_,0,V,FA _,V,Fl _ _⟩
 case round =>
  obtain⟨a,k,rfl,hk,rfl,q⟩:=hrel;have bt:(0:Int)≤k:=by omega
  by_cases af:k<n
  ·have ba:(k:Int)<n:=by omega
   have bb:(k:Int)<(n:Int)+12:=by omega
   have ak:wo ((n:Int)≤(k:Int))=false:=by simp;omega
   have al:wo (n≤k)=false:=by simp;omega
   obtain⟨t,ht⟩:∃t,S[k]?=Y t:=⟨S[k]'(by rw[HN.o];exact af),Fq (by rw[HN.o];exact af)⟩;have H:t∈S:=FM ht;obtain⟨hd,b,off,rfl,bc,K⟩:=ad.o k t ht;obtain⟨_,hf,s,hc,hl⟩:=P.o k t ht;obtain⟨g',bk,bl,rfl⟩:=hl.b;have r:=q.mono hB;have M:=q.mono hC;obtain⟨c0,c1,c2,c3,c4⟩:=cellsOf (b:=g) (o:=k*5) (fun m u hu=>(r.cell (p:=⟨g,k*5+m,U⟩) X).trans (hc m u hu));obtain⟨p',l',c',d0,d1,d2,d3,d4,E⟩:=K.node M bc;have h:=Hd (fun x:Wb a=>a1.o _ hd t _ _ L B C x.1 hf ((hl.u r).u (x.2.mono (Fu hB q.size))) (E.u (x.2.mono (Fu hC q.size))) (Fu (Fu hB q.size) x.2.size) (Fu (Fu hC q.size) x.2.size) (av.o t H));have C0:=fun x:Wb a=>x.b c0
   have C1:=fun x:Wb a=>x.b c1
   have C2:=fun x:Wb a=>x.b c2
   have C3:=fun x:Wb a=>x.b c3
   have C4:=fun x:Wb a=>x.b c4
   have D0:=fun x:Wb a=>x.b d0
   have D1:=fun x:Wb a=>x.b d1
   have D2:=fun x:Wb a=>x.b d2
   have D3:=fun x:Wb a=>x.b d3
   have D4:=fun x:Wb a=>x.b d4
   have l:=Hd q;clear c0 c1 c2 c3 c4 d0 d1 d2 d3 d4 E hl K hc ht H hf q r M hd;go_wp2_with fail
   refine au (by kernel_rfl) (by kernel_rfl) ?_
   repeat (go_big_quiet_step ((go_at_call 12;exact Calls.b (h.o _))))
   refine z7 ?_;intro _ Q;obtain⟨⟨W2,F⟩,rfl⟩:=Q;have R:=Hd (l.o.trans (F.mono l.o.size));clear F C0 C1 C2 C3 C4 D0 D1 D2 D3 D4;go_wp2_with fail
   exact⟨⟨_,k+1,V,by omega,by go_num,R.o⟩,by simp[intOf];omega⟩
  ·by_cases bn:k<n+12
   ·have ba:wo ((k:Int)<(n:Int))=false:=by simp;omega
    have bB:wo (k<n)=false:=by simp;omega
    have bb:(k:Int)<(n:Int)+12:=by omega
    have ak:(n:Int)≤k:=by omega
    have al:wo ((n:Int)≤(k:Int))=true:=by simp;omega
    have bq:wo (n≤k)=true:=by simp;omega
    have r:=q.mono hB
    obtain⟨c0,c1,c2,c3,c4⟩:=cellsOf (b:=g) (o:=k*5) (T:=cX (k-n)) (s:=A U 0 0) (fun m u hu=>(r.cell (p:=⟨g,k*5+m,U⟩) X).trans (by
     have:=D.o (k-n) (by omega) m u hu
     rwa [show n+(k-n)=k by omega]at this))
    have C0:=fun x:Wb a=>x.b c0
    have C1:=fun x:Wb a=>x.b c1
    have C2:=fun x:Wb a=>x.b c2
    have C3:=fun x:Wb a=>x.b c3
    have C4:=fun x:Wb a=>x.b c4
    have bd:Hid (∀W,wB wq 37 #[I Z 1,I Z ((k:Int)-n)] W fun e w'=>e=xv (wD #[I O (cX (k-n)).b,J (cX (k-n)).f,I Z (cX (k-n)).h,I Z (cX (k-n)).t,A U 0 0])∧Gc W w'):=by
     show ∀W,_
     intro W;have e:((k:Int)-n)=((k-n:Nat):Int):=by omega
     rw[e];exact HM.o (k-n) W (by omega)
    have aq:=Hd (fun W:vk=>(⟨⟨by show 0<256;omega,by show (0:Nat)≤maxLen;exact FA _,by show -9223372036854775808≤(0:Int);omega,by show (0:Int)<_;omega,by show -9223372036854775808≤(8000024+((k-n:Nat):Int));omega,by show (8000024+((k-n:Nat):Int))<_;omega⟩,A U 0 0,V,V,U,0,V⟩ :
     bz W 0 0 (cX (k-n)) (wD #[I O (cX (k-n)).b,J (cX (k-n)).f,I Z (cX (k-n)).h,I Z (cX (k-n)).t,A U 0 0])))
    obtain⟨h,l⟩:=zz2 (fun W=>a6.o (cX (k-n)) _ _ 0 0 W (aq.o W) (aq.o W) (FA _) (FA _)) q;clear c0 c1 c2 c3 c4 r q HM D;generalize (cX (k-n)).b=mk at *;generalize (cX (k-n)).f=mt at *;generalize (cX (k-n)).h=mn at *;generalize (cX (k-n)).t=mp at *;go_wp2_with fail
    refine au (by kernel_rfl) (by kernel_rfl) ?_
    repeat (go_big_quiet_step ((first|(go_at_call 37;exact Calls.b (bd.o _))|(go_at_call 29;exact Calls.b (h.o _)))))
    refine z7 ?_;intro _ Q;obtain⟨⟨W2,F⟩,rfl⟩:=Q;have R:=Hd (l.o.trans (F.mono l.o.size));clear F C0 C1 C2 C3 C4;go_wp2_with fail
    exact⟨⟨_,k+1,V,by omega,by go_num,R.o⟩,by simp[intOf];omega⟩
   ·obtain rfl:k=n+12:=by omega
    have l:=Hd q;clear q;have ak:wo ((n:Int)+12<(n:Int)+12)=false:=by simp
    go_wp2_with fail
    go_ret;exact⟨V,l.o⟩
theorem AC:∀d,ze d:=by
 intro d
 induction d with
 | zero=>exact tP 0 (fun d' h=>by omega)
 | succ d a =>
  refine tP (d+1) (fun d' h=>?_);have e:d'=d:=by omega
  subst e;exact uQ _ a
theorem AW(d:Nat):yi d:=uQ d (AC d)
