/- Parts of one proof, joined; conditions stand in each theorem. -/
import Derived.Test.YtkhfjgjjhlnnnaaGreatDoorYMB
import Derived.StillTailTactics
import Derived.Test.YtkhfjgjjhlnnnaaGreatDoorYMA
import Derived.Laws.OwnMore
import Derived.Deep.DeepAppendRoom
import Derived.Deep.QuietTactic
import Derived.BigQuiet
open Go renaming World→wD,Calls→xL,Ending→CI,Value→wF
open Go.Proofs.Tryz renaming prog→xD
open Go.Value renaming int→I,bool→AJ,string→J,tuple→CA,slice→A,agg→xS
open Go.IntKind renaming u8→O,i64→Z
open Go.Ending renaming returned→z8
open Decidable renaming decide→xv
open Bool renaming false→xj,true→wP
open Option renaming none→U,some→Y
open Go.Obj renaming cells→wq
namespace Go.Proofs.YtkhfjgjjhlnnnaaGreatDoor
set_option maxHeartbeats 1000000
set_option maxRecDepth 100000
open Go.RowKit
theorem yi(c:UInt8)(w:wD) :
  xL xD 254 #[I O (c.toNat:Int)] w fun e w'=>e=z8 (AJ (bN c))∧w=w':=by
 have b:=c.toNat_lt;have a:Hid (bN c=(xv (48≤c.toNat)&&xv (c.toNat≤57))):=rfl;generalize bN c=x at *;generalize c.toNat=n at *
 go_enter Tryz.func254,Tryz.ntmps254
 go_wp2
 all_goals (go_ret;refine⟨?_,V⟩;rw[a.o];refine ah ?_;rw[Fw];simp;omega)
theorem jW(s:ByteArray)(w:wD)(R:s.size≤100000) :
  xL xD 220 #[J s] w fun e w'=>e=z8 (CA #[I Z (((number s.data.toList).getD 0:Nat):Int),AJ (number s.data.toList).isSome])∧w=w':=by
 have a:∀(o:Option Nat),number s.data.toList=o→∀(e:CI) (w':wD),e=z8 (CA #[I Z ((o.getD 0:Nat):Int),AJ o.isSome])→w=w'→(e=z8 (CA #[I Z (((number s.data.toList).getD 0:Nat):Int),AJ (number s.data.toList).isSome])∧w=w'):=by intro o H e w' he t;rw[H];exact⟨he,t⟩
 have p:=Hd a;clear a
 go_enter Tryz.func220,Tryz.ntmps220
 go_wp2
 go_loop [4,5] (fun n i=>∃(k m:Nat),k≤s.size∧i=I Z k∧n=I Z m∧m≤9223372036854775807∧fG m (s.data.toList.drop k)=fG 0 s.data.toList) (fun _ i=>s.size-(intOf i).toNat)
 case atStart=>exact⟨0,0,Fa _,V,V,by omega,V⟩
 case round =>
  obtain⟨k,m,S,rfl,rfl,hm,b⟩:=hrel;have q:=Hd b;clear b
  by_cases g:k<s.size
  ·have T:=s[k].toNat_lt;obtain⟨B,C⟩:=zz2 (sg s k m g) (ux s k m g);have D:Hid (bN s[k]=(xv (48≤s[k].toNat)&&xv (s[k].toNat≤57))):=rfl;have E:=Hd (fun W=>yi s[k] W);generalize u:bN s[k]=F at *;generalize v:s[k].toNat=d at *;have K:=Hd v;have j:(F=xj∨kR<10*m+(d-48))→number s.data.toList=none:=fun h=>by rw[lA s (by omega),←q.o];exact C.o h
   have c:=Hd j;clear j u
   cases F
   ·have L:Hid (number s.data.toList=U):=c.o (Or.inl V);clear c B C D
    go_wp2_with (first
     | (go_at_call 254;refine (E.o _).mono ?_;rintro e w' ⟨rfl,rfl⟩))
    go_ret2
    exact p.o U L.o _ _ V V
   ·have t:48≤d∧d≤57:=by
     have:=D.o;simp at this;omega
    obtain⟨M,N⟩:=t;have P:(48:Int)≤d:=by omega
    go_wp2_with (first
     | (go_at_call 254;refine (E.o _).mono ?_;rintro e w' ⟨rfl,rfl⟩))
    ·go_ret2
     have r:9223372036854775807<10*m+(d-48):=by omega
     exact p.o U (c.o (Or.inr r)) _ _ V V
    ·have r:10*m+(d-48)≤9223372036854775807:=by omega
     refine⟨⟨k+1,10*m+(d-48),by omega,by go_num,?_,r,?_⟩,by simp[intOf];omega⟩
     ·congr 1;omega
     ·rw[←B.o (by trivial) r];exact q.o
  ·obtain rfl:k=s.size:=by omega
   rcases Nat.eq_zero_or_pos s.size with f|f
   ·have x:m=0:=by
     have y:=q.o;have e:s.data.toList=[]:=Fp (by rw[Fq];exact f);rw[e]at y;simp[fG]at y;exact y
    have he:s.toList.isEmpty=true:=by rw[Fb,Fp (l:=s.data.toList) (by rw[Fq];exact f)];rfl
    have z:=Hd f;subst x;clear f
    go_wp2
    go_ret2
    exact p.o U (qF s z.o) _ _ V V
   ·have he:s.toList.isEmpty=false:=fq s f;have G:number s.data.toList=Y m:=by rw[lA s f,←q.o,drop_end s _ (EO _)];rfl
    have Q:=Hd G;clear G
    go_wp2
    go_ret2
    exact p.o _ Q.o _ _ V V
theorem xM(w:wD) :
  xL xD 218 #[] w fun e w'=>e=z8 (A (Y ⟨w.heap.size,0,U⟩) 11 11)∧w'=w.alloc (wq (eY.map J).toArray 9):=by
 go_enter Tryz.func218,Tryz.ntmps218
 go_wp2
 go_ret;exact⟨V,V⟩
def nameAt(k:Nat) (c:UInt8):Bool:=isLow c||(xv (k≠0)&&(bN c||c==95))
def dx(k:Nat):List UInt8→Bool
 | []=>wP
 | c::r=>nameAt k c&&dx (k+1) r
def aN(l:List UInt8):Bool:=dx 0 l&&xv (1≤l.length)&&xv (l.length≤24)
theorem yj(s:ByteArray)(w:wD)(C:s.size≤9223372036854775807) :
  xL xD 147 #[J s] w fun e w'=>e=z8 (AJ (aN s.data.toList))∧w=w':=by
 have hw:∀x,aN s.data.toList=x→∀(e:CI) (w':wD),e=z8 (AJ x)→w=w'→(e=z8 (AJ (aN s.data.toList))∧w=w'):=by intro x y e w' he z;rw[y];exact⟨he,z⟩
 have d:=Hd hw;clear hw
 go_enter Tryz.func147,Tryz.ntmps147
 go_wp2
 go_loop [3] (fun i=>∃k:Nat,k≤s.size∧i=I Z k∧dx k (s.data.toList.drop k)=dx 0 s.data.toList) (fun i=>s.size-(intOf i).toNat)
 case atStart=>exact⟨0,by omega,V,V⟩
 case round =>
  obtain⟨k,D,rfl,m⟩:=hrel;have q:=Hd m;clear m
  by_cases r:k<s.size
  ·have E:=s[k].toNat_lt;have u:Hid (dx k (s.data.toList.drop k)=(nameAt k s[k]&&dx (k+1) (s.data.toList.drop (k+1)))):=by
    show dx k (s.data.toList.drop k)=_
    rw[drop_cons s k r];rfl
   have a:(s[k]==95)=xv (s[k].toNat=95):=by rw[Fw];simp[←UInt8.toNat_inj]
   have f:Hid (nameAt k s[k]=((xv (97≤s[k].toNat)&&xv (s[k].toNat≤122))||(xv (k≠0)&&((xv (48≤s[k].toNat)&&xv (s[k].toNat≤57))||decide (s[k].toNat=95))))):=by
    show nameAt k s[k]=_
    unfold nameAt;rw[a];rfl
   clear a;have n:nameAt k s[k]=wP→dx (k+1) (s.data.toList.drop (k+1))=dx 0 s.data.toList:=fun h=>by rw[←q.o,u.o,h,Bool.true_and]
   have p:nameAt k s[k]=xj→aN s.data.toList=false:=fun h=>by unfold aN;rw[←q.o,u.o,h];rfl
   obtain⟨j,b⟩:=zz2 n p;clear n p;have g:(97≤s[k].toNat∧s[k].toNat≤122)∨(0<k∧48≤s[k].toNat∧s[k].toNat≤57)∨(0<k∧95≤s[k].toNat∧s[k].toNat≤95)∨
     (0<k∧s[k].toNat<48)∨(0<k∧57<s[k].toNat∧s[k].toNat<95)∨(0<k∧95<s[k].toNat∧s[k].toNat<97)∨(0<k∧122<s[k].toNat)∨(k=0∧s[k].toNat<97)∨(k=0∧122<s[k].toNat):=by omega
   rcases g with ⟨g1,g2⟩|⟨g0,g1,g2⟩|⟨g0,g1,g2⟩|⟨g0,g1⟩|⟨g0,g1,g2⟩|⟨g0,g1,g2⟩|⟨g0,g1⟩|⟨rfl,g1⟩|⟨rfl,g1⟩
   ·go_wp2
    exact⟨⟨k+1,by omega,by go_num,j.o (by rw[f.o];simp;omega)⟩,by simp[intOf];omega⟩
   ·have c:((k:Int)==0)=false:=by simp;omega
    go_wp2
    exact⟨⟨k+1,by omega,by go_num,j.o (by rw[f.o];simp;omega)⟩,by simp[intOf];omega⟩
   ·have c:((k:Int)==0)=false:=by simp;omega
    have a:((s[k].toNat:Int)==95)=true:=by simp;omega
    have l:xv ((s[k].toNat:Int)≤57)=false:=by simp;omega
    go_wp2
    exact⟨⟨k+1,by omega,by go_num,j.o (by rw[f.o];simp;omega)⟩,by simp[intOf];omega⟩
   ·have c:((k:Int)==0)=false:=by simp;omega
    have a:((s[k].toNat:Int)==95)=false:=by simp;omega
    go_wp2
    go_ret;exact d.o xj (b.o (by rw[f.o];simp;omega)) _ _ V V
   ·have c:((k:Int)==0)=false:=by simp;omega
    have a:((s[k].toNat:Int)==95)=false:=by simp;omega
    have l:xv ((s[k].toNat:Int)≤57)=false:=by simp;omega
    go_wp2
    go_ret;exact d.o xj (b.o (by rw[f.o];simp;omega)) _ _ V V
   ·have c:((k:Int)==0)=false:=by simp;omega
    have a:((s[k].toNat:Int)==95)=false:=by simp;omega
    have l:xv ((s[k].toNat:Int)≤57)=false:=by simp;omega
    go_wp2
    go_ret;exact d.o xj (b.o (by rw[f.o];simp;omega)) _ _ V V
   ·have c:((k:Int)==0)=false:=by simp;omega
    have a:((s[k].toNat:Int)==95)=false:=by simp;omega
    have B:xv ((s[k].toNat:Int)≤122)=false:=by simp;omega
    have l:xv ((s[k].toNat:Int)≤57)=false:=by simp;omega
    go_wp2
    go_ret;exact d.o xj (b.o (by rw[f.o];simp;omega)) _ _ V V
   ·go_wp2
    go_ret;exact d.o xj (b.o (by rw[f.o];simp;omega)) _ _ V V
   ·have B:xv ((s[0].toNat:Int)≤122)=false:=by simp;omega
    go_wp2
    go_ret;exact d.o xj (b.o (by rw[f.o];simp;omega)) _ _ V V
  ·obtain rfl:k=s.size:=by omega
   have he:dx 0 s.data.toList=true:=by rw[←q.o,drop_end s _ (EO _)];rfl
   have v:s.data.toList.length=s.size:=by simp
   have t:Hid (aN s.data.toList=(xv (1≤s.size)&&xv (s.size≤24))):=by
    show aN s.data.toList=_
    unfold aN;rw[he,v,Bool.true_and]
   clear he v
   by_cases F:1≤s.size
   ·by_cases G:s.size≤24
    ·go_wp2
     go_ret;exact d.o wP (by rw[t.o];simp;omega) _ _ (by simp;omega) V
    ·go_wp2
     go_ret;exact d.o xj (by rw[t.o];simp;omega) _ _ (by simp;omega) V
   ·go_wp2
    go_ret;exact d.o xj (by rw[t.o];simp;omega) _ _ V V
theorem mE(s:ByteArray)(w:wD)(a:s.size≤100000) :
  xL xD 147 #[J s] w fun e w'=>e=z8 (AJ (aN s.data.toList))∧w=w':=yj s w (by omega)
inductive ab where
 | mk (kind:Nat) (text:ByteArray) (num place:Int) (kids:List ab)
def ab.b:ab→Nat | .mk k _ _ _ _=>k
def ab.f:ab→ByteArray | .mk _ t _ _ _=>t
def ab.h:ab→Int | .mk _ _ n _ _=>n
def ab.y:ab→Int | .mk _ _ _ p _=>p
def ab.u:ab→List ab | .mk _ _ _ _ l=>l
def bS:Nat→ab→Nat
 | 0,_=>1
 | d+1,T=>(T.u.map (bS d)).foldl Nat.max 0+1
def aM:Nat→ab→Nat
 | 0,_=>1
 | d+1,T=>(T.u.map (aM d)).foldl (· + ·) 1
def jf:List ByteArray:=[⟨#[111,114]⟩,⟨#[97,110,100]⟩,⟨#[61]⟩,⟨#[33,61]⟩,⟨#[60]⟩,⟨#[60,61]⟩,⟨#[62]⟩,⟨#[62,61]⟩,⟨#[43]⟩,⟨#[45]⟩,⟨#[42]⟩]
def kX:List ByteArray:=[⟨#[45]⟩,⟨#[110,111,116]⟩]
def cg(l:List ByteArray) (x:List UInt8):Bool:=l.any (fun b=>b.data.toList==x)
def strip(l:List UInt8):List UInt8:=match l with|45::r=>r|l=>l
def dN(l:List UInt8):Bool:=match l with|45::_=>wP|_=>xj
def cJ(kind:Nat) (text:List UInt8) (kids:Nat):Bool:=
 if kind==2||kind==3||kind==4||kind==5||kind==6||kind==8 then aN text&&!de text
 else if kind==13||kind==15 then aN text
 else if kind==14 then (number (strip text)).isSome
 else if kind==16 then (kids==1&&cg kX text)||(kids==2&&cg jf text)
 else text.isEmpty
def bL(kind:Nat) (num:Int):Bool:=
 if kind==4 then xv (-2147483647≤num)&&xv (num≤2147483647)
 else if kind==9 then xv (0≤num)&&xv (num≤2147483647)
 else num==0
def bG(S:List Nat) (l:List ab):Bool:=l.all (fun t=>S.contains t.b)
def cI(l:List ab):Bool:=l.all (fun t=>!(t.b==14&&dN t.f.data.toList))&&bG [13,14,15,16] l
def aO(t:ab):Bool:=[5,6,7].contains t.b
def rowB(l:List ab):Bool:=bG [8,9,10,11] (l.dropWhile aO)
def bv(kind:Nat) (l:List ab):Bool:=
 if kind==1 then bG [2,4] l
 else if kind==2 then bG [3] l
 else if kind==4 then rowB l
 else if kind==5||kind==6 then bG [12,13,14,15] l
 else if kind==7 then l.length==1&&cI l
 else if kind==8||kind==16 then cI l
 else if kind==10 then xv (0<l.length)&&cI l
 else l.isEmpty
def aI(T:ab):Bool:=xv (1≤T.b)&&xv (T.b≤16)&&cJ T.b T.f.data.toList T.u.length&&bL T.b T.h&&xv (0≤T.y)&&bv T.b T.u
def okF:Nat→ab→Bool
 | 0,T=>aI T
 | d+1,T=>aI T&&T.u.all (okF d)
def fQ(d:Nat) (T:ab):Bool:=T.b==1&&okF d T&&xv (bS d T≤30)&&xv (aM d T≤4096)
def Fits(T:ab):Prop:=T.b<256∧T.f.size≤maxLen∧-9223372036854775808≤T.h∧T.h<9223372036854775808∧-9223372036854775808≤T.y∧T.y<9223372036854775808
def ao(w:wD) (B:Nat):Nat→List ab→wF→Prop
 | 0,a,c=>a=[]∧∃sp cap,c=A sp 0 cap
 | d+1,a,c=>(a=[]∧∃sp cap,c=A sp 0 cap)∨
   ∃b off cap,a≠[]∧b<B∧a.length≤cap∧cap≤maxLen∧c=A (Y ⟨b,off,U⟩) a.length cap∧
    ∀i T,a[i]?=Y T→Fits T∧∃s,w.cell? ⟨b,off+i*5,U⟩=Y (I O T.b)∧w.cell? ⟨b,off+i*5+1,U⟩=Y (J T.f)∧
     w.cell? ⟨b,off+i*5+2,U⟩=Y (I Z T.h)∧w.cell? ⟨b,off+i*5+3,U⟩=Y (I Z T.y)∧w.cell? ⟨b,off+i*5+4,U⟩=Y s∧ao w B d T.u s
def dH(w:wD) (B:Nat) (d:Nat) (T:ab) (v:wF):Prop:=Fits T∧∃s,v=xS #[I O T.b,J T.f,I Z T.h,I Z T.y,s]∧ao w B d T.u s
theorem ao.z{w w':wD}{B:Nat}(g:Below B w w'):∀{d:Nat} {a:List ab} {c:wF},ao w B d a c→ao w' B d a c:=by
 intro d
 induction d with
 | zero=>intro a c h;exact h
 | succ d k =>
  intro a c h;rcases h with h|⟨b,off,cap,l,f,m,n,o,q⟩
  ·exact Or.inl h
  ·refine Or.inr ⟨b,off,cap,l,f,m,n,o,fun i T r=>?_⟩;obtain⟨t,s,u,v,c2,x,c4,y⟩:=q i T r;have e:∀j,w'.cell? ⟨b,j,U⟩=w.cell? ⟨b,j,U⟩:=fun j=>g.cell (p:=⟨b,j,U⟩) f
   exact⟨t,s,(e _).trans u,(e _).trans v,(e _).trans c2,(e _).trans x,(e _).trans c4,k y⟩
theorem ao.up{w:wD}{B e:Nat}(hB:B≤e):∀{d:Nat} {a:List ab} {c:wF},ao w B d a c→ao w e d a c:=by
 intro d
 induction d with
 | zero=>intro a c h;exact h
 | succ d f =>
  intro a c h;rcases h with h|⟨b,off,cap,g,j,k,l,m,n⟩
  ·exact Or.inl h
  ·refine Or.inr ⟨b,off,cap,g,ET j hB,k,l,m,fun i T o=>?_⟩;obtain⟨p,s,q,r,c2,t,c4,u⟩:=n i T o;exact⟨p,s,q,r,c2,t,c4,f u⟩
theorem dH.z{w w':wD}{B d:Nat}{T:ab}{v:wF}(h:dH w B d T v)(a:Below B w w'):dH w' B d T v:=by
 obtain⟨b,s,rfl,c⟩:=h;exact⟨b,s,V,c.z a⟩
theorem ao.cases{w:wD}{B d:Nat}{a:List ab}{c:wF}(h:ao w B d a c):(a=[]∧∃sp cap,c=A sp 0 cap)∨
  ∃d' b off cap,d=d'+1∧a≠[]∧b<B∧a.length≤cap∧cap≤maxLen∧c=A (Y ⟨b,off,U⟩) a.length cap∧
   ∀i T,a[i]?=Y T→Fits T∧∃s,w.cell? ⟨b,off+i*5,U⟩=Y (I O T.b)∧w.cell? ⟨b,off+i*5+1,U⟩=Y (J T.f)∧
     w.cell? ⟨b,off+i*5+2,U⟩=Y (I Z T.h)∧w.cell? ⟨b,off+i*5+3,U⟩=Y (I Z T.y)∧w.cell? ⟨b,off+i*5+4,U⟩=Y s∧ao w B d' T.u s:=by
 cases d with
 | zero=>exact Or.inl h
 | succ d =>
  rcases h with h|⟨b,off,cap,e,f,g,j,k,l⟩
  ·exact Or.inl h
  ·exact Or.inr ⟨d,b,off,cap,V,e,f,g,j,k,l⟩
def wV(m:Nat) (w:wD) (e:CI) (w':wD):Prop:=e=z8 (I Z m)∧FK w w'
theorem qS(d:Nat)(T:ab)(h:T.u=[]):bS d T=1:=by
 cases d with
 | zero=>rfl
 | succ d=>show (T.u.map (bS d)).foldl Nat.max 0+1=1;rw[h];rfl
theorem zO(l:List Nat)(a b:Nat):(l++[b]).foldl Nat.max a=Nat.max (l.foldl Nat.max a) b:=by rw[List.foldl_append];rfl
theorem Cc(a b:Nat):((Nat.max a b:Nat):Int)=max (a:Int) (b:Int):=by
 show ((max a b:Nat):Int)=_
 omega
def Do(w:wD) (d:Nat) (a:List ab) (m i:wF) (W:wD):Prop:=
 ∃k:Nat,k≤a.length∧m=I Z (((a.take k).map (bS d)).foldl Nat.max 0:Nat)∧i=I Z k∧FK w W
theorem jV(w:wD)(T:ab)(s:wF):(w.alloc (wq #[I O T.b,J T.f,I Z T.h,I Z T.y,s] 25)).cell? ⟨w.heap.size,4,U⟩=Y s:=by
 rw[FI _ _ 4 _ _ _ (p9 w _)];rfl
theorem fi(l:List Nat):∀a:Nat,l.foldl (· + ·) a=a+l.foldl (· + ·) 0:=by
 induction l with
 | nil=>intro a;rfl
 | cons x l b=>intro a;rw[List.foldl_cons,b,List.foldl_cons,b (0+x)];omega
theorem rW(d:Nat)(T k:ab)(h:k∈T.u):aM d k<aM (d+1) T:=by
 show aM d k<(T.u.map (aM d)).foldl (· + ·) 1
 rw[fi];have a:aM d k∈T.u.map (aM d):=List.mem_map_of_mem h;generalize T.u.map (aM d)=l at *;generalize aM d k=x at *
 induction l with
 | nil=>cases a
 | cons y l b =>
  rw[List.foldl_cons,fi];rcases FA.1 a with rfl|a
  ·omega
  ·have:=b a;omega
theorem un(d:Nat):∀T:ab,bS d T≤aM d T:=by
 induction d with
 | zero=>intro T;exact EO _
 | succ d c =>
  intro T
  show (T.u.map (bS d)).foldl Nat.max 0+1≤(T.u.map (aM d)).foldl (· + ·) 1
  rw[fi];have h:∀(l:List ab) (a:Nat),(l.map (bS d)).foldl Nat.max a≤a+(l.map (aM d)).foldl (· + ·) 0:=by
   intro l
   induction l with
   | nil=>intro a;exact Nat.le_add_right _ _
   | cons x l b =>
    intro a;rw[List.map_cons,List.foldl_cons,List.map_cons,List.foldl_cons,fi];have e:=b (Nat.max a (bS d x));have f:=c x;have g:Nat.max a (bS d x)≤a+bS d x:=Nat.max_le.2 ⟨Nat.le_add_right _ _,Nat.le_add_left _ _⟩;omega
  have:=h T.u 0;omega
theorem uM(d:Nat)(T:ab):T.u.length≤aM (d+1) T:=by
 show _≤(T.u.map (aM d)).foldl (· + ·) 1
 rw[fi];have a:∀k:ab,1≤aM d k:=by
  intro k
  cases d with
  | zero=>exact EO _
  | succ d=>show 1≤(k.u.map (aM d)).foldl (· + ·) 1;rw[fi];omega
 induction T.u with
 | nil=>exact Fa _
 | cons x l b =>
  rw[List.map_cons,List.foldl_cons,fi,Fv];have:=a x;omega
theorem AP:∀(d:Nat) (T:ab) (v:wF) (B:Nat) (w:wD),dH w B d T v→B≤w.heap.size→aM d T≤100000→
  xL xD 46 #[v] w (wV (bS d T) w):=by
 intro d
 induction d with
 | zero =>
  intro T v B w X hB _;obtain⟨_,s,rfl,h,sp,cap,rfl⟩:=X;rw[qS _ _ h];have a:=jV w T (A sp 0 cap);have HB:=Hd ((EP _ w).alloc (EO _) (wq #[I O T.b,J T.f,I Z T.h,I Z T.y,A sp 0 cap] 25))
  go_enter Tryz.func46,Tryz.ntmps46
  go_wp2
  go_loop [3,4] (fun m i=>m=I Z 0∧i=I Z 0) (fun _ _=>0)
  case atStart=>exact⟨V,V⟩
  case round =>
   obtain⟨rfl,rfl⟩:=hrel
   go_wp2
   go_ret;exact⟨V,HB.o⟩
 | succ d ih =>
  intro T v B w X hB hm;obtain⟨_,s,rfl,h⟩:=X;rcases h with ⟨h,sp,cap,rfl⟩|⟨b,off,cap,ad,af,q,a6,rfl,r⟩
  ·rw[qS _ _ h];have a:=jV w T (A sp 0 cap);have HB:=Hd ((EP _ w).alloc (EO _) (wq #[I O T.b,J T.f,I Z T.h,I Z T.y,A sp 0 cap] 25))
   go_enter Tryz.func46,Tryz.ntmps46
   go_wp2
   go_loop [3,4] (fun m i=>m=I Z 0∧i=I Z 0) (fun _ _=>0)
   case atStart=>exact⟨V,V⟩
   case round =>
    obtain⟨rfl,rfl⟩:=hrel
    go_wp2
    go_ret;exact⟨V,HB.o⟩
  ·obtain⟨u,ak⟩:=zz2 r ih;have hlen:=uM d T;obtain⟨al,x,HM⟩:=zz3 (un (d+1) T) (fun k h=>rW d T k h) hm;have e0:bS (d+1) T=(T.u.map (bS d)).foldl Nat.max 0+1:=rfl;rw[e0];have E:=Hd e0;obtain⟨c,F⟩:=zzy (T.u);rw[F]at u x E hlen ad q ⊢;obtain⟨n,hn⟩:=zzy (c.length);rw[hn]at hlen q ⊢;have G:=Hd hn;have ba:n≤100000:=by omega
   have a:=jV w T (A (Y ⟨b,off,U⟩) n cap);obtain⟨H,l⟩:=zzx (w.alloc (wq #[I O T.b,J T.f,I Z T.h,I Z T.y,A (Y ⟨b,off,U⟩) n cap] 25));have K:FK w H:=by rw[l];exact (EP _ w).alloc (EO _) _
   have aq:w.heap.size<H.heap.size:=by rw[l];simp
   rw[←l]at a;obtain⟨L,M⟩:=zz2 a K;clear r ih F hn hm hlen e0 a K
   go_enter Tryz.func46,Tryz.ntmps46
   go_wp2
   rw[←l]
   go_loopw [3,4] (Do H d c) (fun _ i _=>n-(intOf i).toNat)
   case atStart=>exact⟨0,Fa _,V,V,EP _ _⟩
   case round =>
    obtain⟨k,h,rfl,rfl,N⟩:=hrel;rw[G.o]at h;have f:=M.o.trans (N.mono M.o.size);have bb:=(N.cell (p:=⟨w.heap.size,4,U⟩) aq).trans L.o
    by_cases P:k<n
    ·obtain⟨t,W⟩:∃t,c[k]?=Y t:=⟨c[k]'(by rw[G.o];exact P),ES (by rw[G.o];exact P)⟩;obtain⟨y,s,c0,c1,c2,c3,c4,Q⟩:=u.o k t W;have g:=f.mono hB;have e:∀j,_:=fun j=>g.cell (p:=⟨b,j,U⟩) af
     have d0:=(e _).trans c0;have d1:=(e _).trans c1;have d2:=(e _).trans c2;have d3:=(e _).trans c3;have d4:=(e _).trans c4;have z:t∈c:=Fj W;have R:aM d t≤100000:=by have:=x.o t z;have:=HM.o;omega
     have C:=Hd (ak.o t (xS #[I O t.b,J t.f,I Z t.h,I Z t.y,s]) B _ ⟨y,s,V,Q.z g⟩ (EU hB f.size) R)
     have D:=Hd (show ((c.take (k+1)).map (bS d)).foldl Nat.max 0=Nat.max (((c.take k).map (bS d)).foldl Nat.max 0) (bS d t) by
      rw[Fz,W,List.map_append];exact zO _ _ _)
     have S:=Hd N;have bc:(0:Int)≤k:=by omega
     have bd:(k:Int)<n:=by omega
     generalize ((c.take k).map (bS d)).foldl Nat.max 0=m at *;generalize bS d t=m' at *;clear c0 c1 c2 c3 c4 e Q y z W g f N R;go_wp2_with fail
     refine C.o.mono ?_;rintro e W2 ⟨rfl,ar⟩;go_wp2_with fail
     refine⟨⟨k+1,by rw[G.o];omega,?_,by go_num,S.o.trans (ar.mono S.o.size)⟩,by simp[intOf];omega⟩;rw[D.o,Cc]
    ·obtain rfl:k=n:=by omega
     have e:c.take k=c:=by rw[←G.o];exact List.take_length
     have HE:Hid (((c.take k).map (bS d)).foldl Nat.max 0=(c.map (bS d)).foldl Nat.max 0):=by
      show _=_
      rw[e]
     have av:=Hd f;have hle:=al.o;rw[E.o,←HE.o]at hle;have a1:=HM.o;generalize hg:((c.take k).map (bS d)).foldl Nat.max 0=m at *;have bk:(m:Int)≤100000:=by omega
     clear hle a1 e N f hg
     go_wp2
     go_ret;exact⟨by rw[←HE.o];go_num,av.o⟩
theorem qj(d:Nat)(T:ab)(h:T.u=[]):aM d T=1:=by
 cases d with
 | zero=>rfl
 | succ d=>show (T.u.map (aM d)).foldl (· + ·) 1=1;rw[h];rfl
def Dm(w:wD) (d:Nat) (a:List ab) (m i:wF) (W:wD):Prop:=
 ∃k:Nat,k≤a.length∧m=I Z (((a.take k).map (aM d)).foldl (· + ·) 1:Nat)∧i=I Z k∧FK w W
theorem zB(d:Nat)(a:List ab)(k:Nat):((a.take k).map (aM d)).foldl (· + ·) 1≤(a.map (aM d)).foldl (· + ·) 1:=by
 have e:(a.map (aM d)).foldl (· + ·) 1=(((a.take k)++(a.drop k)).map (aM d)).foldl (· + ·) 1:=by rw[List.take_append_drop]
 rw[e,List.map_append,List.foldl_append,fi ((a.drop k).map (aM d))];exact Nat.le_add_right _ _
theorem zV:∀(d:Nat) (T:ab) (v:wF) (B:Nat) (w:wD),dH w B d T v→B≤w.heap.size→aM d T≤100000→
  xL xD 47 #[v] w (wV (aM d T) w):=by
 intro d
 induction d with
 | zero =>
  intro T v B w hT hB _;obtain⟨_,s,rfl,h,sp,cap,rfl⟩:=hT;rw[qj _ _ h];have a:=jV w T (A sp 0 cap);have HB:=Hd ((EP _ w).alloc (EO _) (wq #[I O T.b,J T.f,I Z T.h,I Z T.y,A sp 0 cap] 25))
  go_enter Tryz.func47,Tryz.ntmps47
  go_wp2
  go_loop [3,4] (fun m i=>m=I Z 1∧i=I Z 0) (fun _ _=>0)
  case atStart=>exact⟨V,V⟩
  case round =>
   obtain⟨rfl,rfl⟩:=hrel
   go_wp2
   go_ret;exact⟨V,HB.o⟩
 | succ d ih =>
  intro T v B w hT hB hm;obtain⟨_,s,rfl,h⟩:=hT;rcases h with ⟨h,sp,cap,rfl⟩|⟨b,off,cap,ad,af,q,av,rfl,r⟩
  ·rw[qj _ _ h];have a:=jV w T (A sp 0 cap);have HB:=Hd ((EP _ w).alloc (EO _) (wq #[I O T.b,J T.f,I Z T.h,I Z T.y,A sp 0 cap] 25))
   go_enter Tryz.func47,Tryz.ntmps47
   go_wp2
   go_loop [3,4] (fun m i=>m=I Z 1∧i=I Z 0) (fun _ _=>0)
   case atStart=>exact⟨V,V⟩
   case round =>
    obtain⟨rfl,rfl⟩:=hrel
    go_wp2
    go_ret;exact⟨V,HB.o⟩
  ·obtain⟨u,ak⟩:=zz2 r ih;have hlen:=uM d T;obtain⟨E,x,HM⟩:=zz3 (fun k=>zB d T.u k) (fun k h=>rW d T k h) hm;have e0:aM (d+1) T=(T.u.map (aM d)).foldl (· + ·) 1:=rfl;rw[e0];have F:=Hd e0;obtain⟨c,G⟩:=zzy (T.u);rw[G]at u x F E hlen ad q ⊢;obtain⟨n,hn⟩:=zzy (c.length);rw[hn]at hlen q ⊢;have H:=Hd hn;have a1:n≤100000:=by omega
   have a:=jV w T (A (Y ⟨b,off,U⟩) n cap);obtain⟨K,l⟩:=zzx (w.alloc (wq #[I O T.b,J T.f,I Z T.h,I Z T.y,A (Y ⟨b,off,U⟩) n cap] 25));have L:FK w K:=by rw[l];exact (EP _ w).alloc (EO _) _
   have al:w.heap.size<K.heap.size:=by rw[l];simp
   rw[←l]at a;obtain⟨M,N⟩:=zz2 a L;clear r ih G hn hm hlen e0 a L
   go_enter Tryz.func47,Tryz.ntmps47
   go_wp2
   rw[←l]
   go_loopw [3,4] (Dm K d c) (fun _ i _=>n-(intOf i).toNat)
   case atStart=>exact⟨0,Fa _,V,V,EP _ _⟩
   case round =>
    obtain⟨k,h,rfl,rfl,P⟩:=hrel;rw[H.o]at h;have f:=N.o.trans (P.mono N.o.size);have a6:=(P.cell (p:=⟨w.heap.size,4,U⟩) al).trans M.o
    by_cases Q:k<n
    ·obtain⟨t,ht⟩:∃t,c[k]?=Y t:=⟨c[k]'(by rw[H.o];exact Q),ES (by rw[H.o];exact Q)⟩;obtain⟨y,s,c0,c1,c2,c3,c4,R⟩:=u.o k t ht;have g:=f.mono hB;have e:∀j,_:=fun j=>g.cell (p:=⟨b,j,U⟩) af
     have d0:=(e _).trans c0;have d1:=(e _).trans c1;have d2:=(e _).trans c2;have d3:=(e _).trans c3;have d4:=(e _).trans c4;have z:t∈c:=Fj ht;have S:aM d t≤100000:=by have:=x.o t z;have:=HM.o;omega
     have C:=Hd (ak.o t (xS #[I O t.b,J t.f,I Z t.h,I Z t.y,s]) B _ ⟨y,s,V,R.z g⟩ (EU hB f.size) S)
     have D:=Hd (show ((c.take (k+1)).map (aM d)).foldl (· + ·) 1=((c.take k).map (aM d)).foldl (· + ·) 1+aM d t by
      rw[Fz,ht,List.map_append,List.foldl_append];rfl)
     have W:((c.take k).map (aM d)).foldl (· + ·) 1≤100000:=by
      have h1:=E.o k;have h2:=HM.o;rw[F.o]at h2;exact EU h1 h2
     have X:=Hd P;have ba:(0:Int)≤k:=by omega
     have bb:(k:Int)<n:=by omega
     generalize ((c.take k).map (aM d)).foldl (· + ·) 1=m at *;generalize aM d t=m' at *;have bc:(m:Int)≤100000:=by omega
     have bd:(m':Int)≤100000:=by omega
     clear c0 c1 c2 c3 c4 e R y z ht g f P S W;go_wp2_with fail
     refine C.o.mono ?_;rintro e W2 ⟨rfl,aq⟩;go_wp2_with fail
     refine⟨⟨k+1,by rw[H.o];omega,?_,by go_num,X.o.trans (aq.mono X.o.size)⟩,by simp[intOf];omega⟩;rw[D.o];rfl
    ·obtain rfl:k=n:=by omega
     have e:c.take k=c:=by rw[←H.o];exact List.take_length
     have HE:Hid (((c.take k).map (aM d)).foldl (· + ·) 1=(c.map (aM d)).foldl (· + ·) 1):=by
      show _=_
      rw[e]
     have ar:=Hd f;generalize hg:((c.take k).map (aM d)).foldl (· + ·) 1=m at *;clear e P f hg
     go_wp2
     go_ret;exact⟨by rw[←HE.o];go_num,ar.o⟩
theorem ao.b{w:wD}{B d:Nat}{e:List ab}{a:wF}(h:ao w B d e a):∃p n c,a=A p n c:=by
 rcases h.cases with ⟨_,sp,cap,rfl⟩|⟨_,b,off,cap,_,_,_,_,_,rfl,_⟩
 ·exact⟨_,_,_,V⟩
 ·exact⟨_,_,_,V⟩
theorem dH.u{w:wD}{B d:Nat}{T:ab}{v:wF}(h:dH w B d T v)(hB:B≤w.heap.size)(o:Obj):dH (w.alloc o) B d T v:=h.z (((EP _ w).alloc (EO _) o).mono hB)
def cz(w:wD) (e:CI) (w':wD):Prop:=e=z8 (AJ wP)∧FK w w'
def oG(w:wD) (n:Nat) (i:wF) (W:wD):Prop:=∃(a:wD) (k:Nat),a=W∧k≤n∧i=I Z k∧FK w a
theorem tR(l:List UInt8):∀k,dx (k+1) l=l.all be:=by
 induction l with
 | nil=>intro k;rfl
 | cons c r a =>
  intro k
  show (nameAt (k+1) c&&dx (k+2) r)=_
  rw[a (k+1),List.all_cons]
  congr 1
  unfold nameAt be;simp[Bool.or_assoc]
theorem oQ(c:UInt8)(r:List UInt8):aN (c::r)=(isLow c&&r.all be&&xv (r.length+1≤24)):=by
 unfold aN
 show ((nameAt 0 c&&dx 1 r)&&xv (1≤r.length+1)&&xv (r.length+1≤24))=_
 rw[tR r 0];have h:nameAt 0 c=isLow c:=by unfold nameAt;simp
 rw[h];simp
theorem wv(l:List UInt8)(h:aN l=wP):1≤l.length∧l.length≤24:=by
 unfold aN at h;simp only[Ff,r7]at h;exact⟨h.1.2,h.2⟩
theorem ED(c:UInt8)(h:isLow c=wP):be c=true:=by unfold be;rw[h];rfl
def aX(t:ByteArray):ByteArray:=⟨(39::t.data.toList).toArray⟩
theorem oU(t:ByteArray):(aX t).data.toList=39::t.data.toList:=rfl
theorem lL(t:ByteArray):(aX t).size=t.size+1:=by
 show (39::t.data.toList).toArray.size=_
 simp
def jB(t:ByteArray):Bool:=(aJ (aX t) 0).2==U&&(aJ (aX t) 0).1.map (fun x=>x.2.1.data.toList)==[t.data.toList]
theorem vF(p:UInt8→Bool)(s:ByteArray)(k:Nat)(l:List UInt8)(h:s.data.toList.drop k=l):aA p s k=k+(l.takeWhile p).length:=by unfold aA;rw[h]
theorem mI(p:UInt8→Bool):∀l:List UInt8,(l.takeWhile p).length=l.length→l.all p=true:=by
 intro l
 induction l with
 | nil=>intro _;rfl
 | cons c r a =>
  intro h;rw[List.takeWhile_cons]at h
  split at h
  ·rename_i b
   simp only[Fv,Nat.add_right_cancel_iff]at h;rw[List.all_cons,b,a h];rfl
  ·simp at h
theorem rx(p:UInt8→Bool)(l:List UInt8)(h:l.all p=wP):l.takeWhile p=l:=by
 induction l with
 | nil=>rfl
 | cons c r a =>
  rw[List.all_cons,Ff]at h;rw[List.takeWhile_cons,rv h.1,a h.2]
theorem j1(t:ByteArray):aj (aX t) 0 39=(5,(aX t).extract 1 (aA be (aX t) 1),if eX ((aX t).extract 1 (aA be (aX t) 1)).data.toList then 0 else 201,aA be (aX t) 1):=by
 unfold aj;rw[qv (by decide),rv (by decide),rv (by decide)]
theorem nV(t:ByteArray)(e:Nat):((aX t).extract 1 e).data.toList=t.data.toList.take (e-1):=by
 rw[ByteArray.data_extract,Array.toList_extract,oU];simp[List.extract]
theorem pp(c:UInt8)(r:List UInt8):eX (c::r)=(xv (r.length+1≤24)&&isLow c):=rfl
theorem gq(t:ByteArray):jB t=aN t.data.toList:=by
 have s:0<(aX t).size:=by rw[lL];omega
 have n:(aX t)[0]=39:=rfl;have o:skip (aX t) 0=0:=jp _ 0 s (by rw[n];rfl) (by rw[n];rfl);have u:(aX t).data.toList.drop 1=t.data.toList:=rfl;have he:aA be (aX t) 1=1+(t.data.toList.takeWhile be).length:=vF be _ 1 _ u;have hlen:(t.data.toList.takeWhile be).length≤t.data.toList.length:=(List.takeWhile_sublist be).length_le;have g:skip (aX t) 0<(aX t).size:=by rw[o];exact s
 have a:aj (aX t) (skip (aX t) 0) (aX t)[skip (aX t) 0]=aj (aX t) 0 39:=by simp only[o,n]
 rw[Fw]
 constructor
 ·intro h;unfold jB at h;rw[Ff,tk,tk]at h;obtain⟨i,j⟩:=h
  by_cases d:(aj (aX t) (skip (aX t) 0) (aX t)[skip (aX t) 0]).2.2.1=0
  ·rw[fj _ _ g d,a,j1]at j;rw[a,j1]at d;simp only[List.map_cons,List.cons.injEq]at j;have k:=j.1;rw[nV,he]at k;have v:(t.data.toList.takeWhile be).length=t.data.toList.length:=by
    have:=tF List.length k;rw[List.length_take]at this;omega
   have b:=mI be _ v;dsimp only at d;rw[nV,he,k]at d;have l:eX t.data.toList=true:=by
    cases w:eX t.data.toList with
    | true=>rfl
    | false=>rw[w]at d;cases d
   cases e:t.data.toList with
   | nil=>rw[e]at l;cases l
   | cons c r =>
    rw[e,pp,Ff]at l;rw[e,List.all_cons,Ff]at b;rw[oQ,l.1,l.2,b.2];rfl
  ·rw[fy _ _ g d]at i
   cases i
 ·intro h
  cases e:t.data.toList with
  | nil=>rw[e]at h;cases h
  | cons c r =>
   rw[e,oQ,Ff,Ff]at h;obtain⟨⟨i,j⟩,k⟩:=h;have b:t.data.toList.all be=true:=by rw[e,List.all_cons,j,ED c i];rfl
   have m:=rx be _ b;have f:((aX t).extract 1 (aA be (aX t) 1)).data.toList=t.data.toList:=by
    rw[nV,he,m];exact Fg (by omega)
   have p:eX t.data.toList=true:=by rw[e,pp,k,i];rfl
   have d:(aj (aX t) (skip (aX t) 0) (aX t)[skip (aX t) 0]).2.2.1=0:=by
    rw[a,j1]
    show (if eX _ then 0 else 201)=0
    rw[f,p];rfl
   have hend:aJ (aX t) (aA be (aX t) 1)=([],U):=by
    apply dD;have x:(aX t).size≤aA be (aX t) 1:=by
     rw[he,m,lL,Fq]
     show t.data.size+1≤1+t.data.size
     omega
    rw[eR _ _ x];omega
   have q:aJ (aX t) 0=([(5,(aX t).extract 1 (aA be (aX t) 1),0)],U):=by
    rw[fj _ _ g d,a,j1];dsimp only;rw[hend,o]
   unfold jB;rw[q]
   show ((U:Option (Nat×Nat))==U&&[((aX t).extract 1 (aA be (aX t) 1)).data.toList]==[t.data.toList])=wP
   rw[f];simp
theorem vB(t:ByteArray)(h:16384≤t.size):aN t.data.toList=false:=by
 cases a:aN t.data.toList with
 | false=>rfl
 | true =>
  have:=(wv _ a).2;rw[Fq]at this;have b:t.size=t.data.size:=rfl;omega
def gx:Nat→ab→Prop
 | 0,T=>T.f.size≤72007
 | d+1,T=>T.f.size≤72007∧T.u.length≤20000∧∀k∈T.u,gx d k
def dA:Nat→List ab→Prop
 | 0,_=>True
 | d+1,a=>a.length≤20000∧∀k∈a,gx d k
theorem gx.u{d:Nat}{T:ab}(h:gx d T):dA d T.u:=by
 cases d with
 | zero=>trivial
 | succ d=>exact h.2
theorem gx.f{d:Nat}{T:ab}(h:gx d T):T.f.size≤72007:=by
 cases d with
 | zero=>exact h
 | succ d=>exact h.1
def am(x:Bool) (w:wD) (e:CI) (w':wD):Prop:=e=z8 (AJ x)∧FK w w'
theorem fU(w:wD)(a b:Obj):FK w ((w.alloc a).alloc b):=((EP _ w).alloc (EO _) _).alloc (by simp) _
def ay(T:ab) (s:wF):List Value:=[I O T.b,J T.f,I Z T.h,I Z T.y,s]
theorem flat5:∀(rows:List (List wF)),(∀r∈rows,r.length=5)→∀(i m:Nat) (r:List wF) (u:wF),rows[i]?=Y r→r[m]?=Y u→rows.flatten[i*5+m]?=Y u:=by
 intro rows
 induction rows with
 | nil=>intro _ i m r u h _;simp at h
 | cons x rows c =>
  intro b i m r u a hm;have e:x.length=5:=b x (List.mem_cons_self ..);rw[List.flatten_cons]
  cases i with
  | zero =>
   simp only[List.getElem?_cons_zero,ss]at a;subst a;have:m<x.length:=(Fe.1 hm).1;rw[Nat.zero_mul,Nat.zero_add,FB this];exact hm
  | succ i =>
   rw[FC]at a;have:=c (fun r d=>b r (List.mem_cons_of_mem _ d)) i m r u a hm;rw[Ft (by omega)];rw[←this]
   congr 1
   omega
theorem qh:(Tryz.prog.info? 25).map (fun i=>(i.zero,i.size,i.bytes))=Y (Y (xS #[I O 0,J ByteArray.empty,I Z 0,I Z 0,A U 0 0]),5,64):=by kernel_rfl
def yb(w:wD) (d b o:Nat) (B:Nat) (T:ab):Prop:=
 Fits T∧∃s,w.cell? ⟨b,o,U⟩=Y (I O T.b)∧w.cell? ⟨b,o+1,U⟩=Y (J T.f)∧w.cell? ⟨b,o+2,U⟩=Y (I Z T.h)∧w.cell? ⟨b,o+3,U⟩=Y (I Z T.y)∧w.cell? ⟨b,o+4,U⟩=Y s∧ao w B d T.u s
theorem ao.rows{w:wD}{B d:Nat}{e:List ab}{g:wF}(h:ao w B d e g) :
  ∃p c,g=A p e.length c∧e.length≤maxLen∧∀i T,e[i]?=Y T→d=d-1+1∧∃b off,p=Y ⟨b,off,U⟩∧b<B∧yb w (d-1) b (off+i*5) B T:=by
 rcases h.cases with ⟨rfl,sp,cap,rfl⟩|⟨d',b,off,cap,rfl,j,k,l,hm,rfl,a⟩
 ·exact⟨sp,cap,V,Fa _,fun i T f=>by simp at f⟩
 ·refine⟨_,cap,V,EU l hm,fun i T f=>⟨by omega,b,off,V,k,a i T f⟩⟩
theorem yb.node{w W:wD}{B d b o:Nat}{t:ab}(hB:Below B w W)(a:b<B)(h:yb w d b o B t) :
  ∃p n c,W.cell? ⟨b,o,U⟩=Y (I O t.b)∧W.cell? ⟨b,o+1,U⟩=Y (J t.f)∧
       W.cell? ⟨b,o+2,U⟩=Y (I Z t.h)∧W.cell? ⟨b,o+3,U⟩=Y (I Z t.y)∧W.cell? ⟨b,o+4,U⟩=Y (A p n c)∧
       dH W B d t (xS #[I O t.b,J t.f,I Z t.h,I Z t.y,A p n c]):=by
 obtain⟨g,s,i,k,c2,l,c4,f⟩:=h;obtain⟨p,n,c,rfl⟩:=f.b;have e:∀j,W.cell? ⟨b,j,U⟩=w.cell? ⟨b,j,U⟩:=fun j=>hB.cell (p:=⟨b,j,U⟩) a
 exact⟨p,n,c,(e _).trans i,(e _).trans k,(e _).trans c2,(e _).trans l,(e _).trans c4,g,_,V,f.z hB⟩
def Wb(w:wD):={W:wD // FK w W}
instance (w:wD):Nonempty (Wb w):=⟨⟨w,EP _ w⟩⟩
theorem au{P:Program}{id:Nat}{Q:Exit→Act→wD→Prop}{a:Act}{w:wD}{l:List Oper}(hm:P.follows .mixedOrders=wP)(hB:Region.lexB .any l.toArray=wP)
  (h:wpQuiet P l.toArray (fun w'=>∃x:Wb w,w'=x.1) (fun b=>∀w',(∃x:Wb w,w'=x.1)→Q .normal b w') l a):(Code.region id l.toArray wP).wp P Q a w:=
 wp_region_quiet (C:=fun w'=>∃x:Wb w,w'=x.1) hm hB ⟨⟨w.drew,(EP _ w).drew⟩,V⟩ (by simpa using h)
theorem Calls.b{P:Program}{f:FuncId}{args:Array wF}{w:wD}{x:Wb w}{v:wF}
  (h:xL P f args x.1 fun e w'=>e=z8 v∧Below x.1.heap.size x.1 w'):xL P f args x.1 fun e a=>e=z8 v∧∃y:Wb w,a=y.1:=
 h.mono fun _ W ⟨he,b⟩=>⟨he,⟨W,x.2.trans (b.mono x.2.size)⟩,V⟩
theorem a7{w w':wD}(h:∃x:Wb w,w'=x.1):FK w w':=by
 obtain⟨x,rfl⟩:=h;exact x.2
theorem Wb.b{w:wD}(x:Wb w){a:Addr}{v:wF}(h:w.cell? a=Y v):x.1.cell? a=Y v:=
 (x.2.cell (World.block_lt_of_cell? w a h)).trans h
