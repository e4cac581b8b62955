/- Parts of one proof, joined; conditions stand in each theorem. -/
import Derived.Test.YtoonjedifockoaaGreatDoorMD
import Derived.Deep.RegionHeld3
namespace Go.Proofs.YtoonjedifockoaaGreatDoor
open Go.IntKind(i64)
open Go.Value(int string slice)
set_option maxHeartbeats 2000000
set_option maxRecDepth 100000
open Go.RowKit
def ga(w:World) (S:List Nat) (v:Value):Prop:=
 (S=[]∧v=slice none 0 0)∨∃b off cap,v=slice (some ⟨b,off,none⟩) S.length cap∧S.length≤100∧b<w.heap.size∧∀(i k:Nat),S[i]?=some k→w.cell? ⟨b,off+i,none⟩=some (int .u8 (k:Int))
theorem ga.below{w w':World}{S:List Nat}{v:Value}(h:ga w S v)(c:Ft w w'):ga w' S v:=by
 rcases h with h|⟨b,off,cap,d,e,a,f⟩
 ·exact Or.inl h
 ·exact Or.inr ⟨b,off,cap,d,e,EF a c.size,fun i k g=>(c.cell (p:=⟨b,off+i,none⟩) a).trans (f i k g)⟩
theorem ga.shape{w:World}{S:List Nat}{v:Value}(h:ga w S v):∃p c,v=.slice p S.length c∧S.length≤100∧∀(i k:Nat),S[i]?=some k→∃b off,p=some ⟨b,off,none⟩∧w.cell? ⟨b,off+i,none⟩=some (int .u8 (k:Int)):=by
 rcases h with ⟨rfl,rfl⟩|⟨b,off,cap,rfl,d,_,e⟩
 ·exact⟨none,0,rfl,by simp,fun i k a=>by simp at a⟩
 ·exact⟨_,cap,rfl,d,fun i k a=>⟨b,off,rfl,e i k a⟩⟩
theorem vU{α:Type}(p:α→Bool)(l:List α)(k:Nat)(x:α)(a:l[k]?=some x)(h:(l.take k).any p=false)(b:p x=false):(l.take (k+1)).any p=false:=by rw[Fg,a,List.any_append,h];simp[b]
theorem Dp{α:Type}(p:α→Bool)(l:List α)(k:Nat)(x:α)(a:l[k]?=some x)(h:p x=true):l.any p=true:=
 List.any_eq_true.2 ⟨x,EU a,h⟩
theorem yt(S:List Nat)(v:Value)(x:Nat)(w:World)(h:ga w S v) :
  Calls Tryz.prog 186 #[v,int .u8 (x:Int)] w fun e w'=>(∃i:Int,e=.returned (int i64 i)∧decide (0≤i)=S.any (· == x))∧w=w':=by
 obtain⟨p,c,rfl,u,q⟩:=h.shape;obtain⟨n,f⟩:=zzy (S.length);rw[f]at u ⊢;have z:=Hd q;have g:=Hd f;clear q f h
 go_enter Tryz.func186,Tryz.ntmps186
 go_wp2_with fail
 go_loop [8,5] (fun i _=>∃k:Nat,k≤n∧i=int i64 k∧(S.take k).any (· == x)=false) (fun i _=>n-(intOf i).toNat)
 case atStart=>exact⟨0,EM _,rfl,rfl⟩
 case round =>
  obtain⟨k,A,rfl,a⟩:=hrel;have r:=Hd a;clear a
  by_cases d:k<n
  ·obtain⟨y,j⟩:∃y,S[k]?=some y:=⟨S[k]'(by rw[g.o];exact d),EE (by rw[g.o];exact d)⟩;obtain⟨b,off,rfl,l⟩:=z.o k y j;have s:=Hd j;clear j
   cases t:((x:Int)==(y:Int))
   ·have m:=Hd t;go_wp2_with fail
    go_round
    case rel =>
     refine⟨k+1,by omega,by go_num,vU (· == x) _ _ _ s.o r.o ?_⟩;have:=m.o;simp at this ⊢;omega
    case measure=>simp[intOf];omega
   ·have m:=Hd t;go_wp2_with fail
    go_ret;refine⟨⟨k,rfl,?_⟩,rfl⟩;rw[Dp (· == x) _ _ _ s.o (by have:=m.o;simp at this ⊢;omega)];simp
  ·go_wp2_with fail
   go_ret;refine⟨⟨-1,rfl,?_⟩,rfl⟩;have e:S.take k=S:=ER (by rw[g.o];omega);have:=r.o;rw[e]at this;rw[this];rfl
theorem sB(S:List Nat)(v:Value)(x:Nat)(w:World)(h:ga w S v) :
  Calls Tryz.prog 175 #[v,int .u8 (x:Int)] w fun e w'=>e=.returned (.bool (S.contains x))∧w=w':=by
 have a:=Hd (yt S v x w h);have he:S.any (· == x)=S.contains x:=by rw[List.contains_eq_any_beq];congr 1;funext y;rw[Bool.beq_comm]
 rw[he]at a;clear he h
 go_enter Tryz.func175,Tryz.ntmps175
 go_wp2_with (go_at_call 186;refine EJ a.o ?_;rintro e w' ⟨⟨i,rfl,b⟩,rfl⟩;have c:=Hd b;clear b)
 go_ret;exact⟨by rw[←c.o];rfl,rfl⟩
theorem aR(p:Option Addr)(n c:Nat)(w:World) :
  Calls Tryz.prog 148 #[.slice p n c] w fun e w'=>e=.returned (.func (.func 174) #[] #[.pointer (some ⟨w.heap.size,0,none⟩)])∧w'=w.alloc (.cells #[.slice p n c] 227):=by
 go_enter Tryz.func148,Tryz.ntmps148
 go_wp2_with fail
 go_ret;exact⟨rfl,rfl⟩
def CJ(w:World) (S:List Nat) (b:List ac) (n:Nat) (i:Value) (W:World):Prop:=∃(a:World) (k:Nat),a=W∧k≤n∧i=int i64 k∧Ft w a∧cZ S (b.take k)=true
theorem yn(S:List Nat)(a:List ac)(k:Nat)(t:ac)(h:a[k]?=some t)(b:cZ S (a.take k)=true)(c:S.contains t.kind=true):cZ S (a.take (k+1))=true:=by
 unfold cZ at *;rw[Fg,h,List.all_append,b]
 simpa using c
theorem BK(S:List Nat)(a:List ac)(k:Nat)(t:ac)(h:a[k]?=some t)(b:S.contains t.kind=false):cZ S a=false:=by
 unfold cZ;rw[List.all_eq_false];exact⟨t,EU h,by simpa using b⟩
theorem i8(S:List Nat)(h:List ac)(v K:Value)(d B b:Nat)(w:World)(C:aD w B d h v)(hB:B≤w.heap.size)(D:h.length≤20000)(E:ga w S K)(L:b<w.heap.size)(M:w.cell? ⟨b,0,none⟩=some K) :
  Calls Tryz.prog 174 #[v,.pointer (some ⟨b,0,none⟩)] w (ap (cZ S h) w):=by
 obtain⟨p,c,rfl,_,m⟩:=C.rows;obtain⟨q,Y,rfl,_,_⟩:=E.shape;obtain⟨n,F⟩:=zzy (h.length);rw[F]at D ⊢;have G:=Hd F;have x:=Hd m;have P:=Hd E;have Q:=Hd M;clear m E C F M
 go_enter Tryz.func174,Tryz.ntmps174
 go_wp2_with fail
 go_loopw [8] (CJ w S h n) (fun i _=>n-(intOf i).toNat)
 case atStart=>exact⟨_,0,rfl,EM _,rfl,EB _ _,rfl⟩
 case round =>
  obtain⟨A,k,rfl,C,rfl,a,r⟩:=hrel;have N:=Hd r;have g:=Hd a;clear r
  by_cases y:k<n
  ·obtain⟨t,H⟩:∃t,h[k]?=some t:=⟨h[k]'(by rw[G.o];exact y),EE (by rw[G.o];exact y)⟩;obtain⟨_,b',off,rfl,I,s⟩:=x.o k t H;obtain⟨Z,l',c',d0,d1,d2,d3,d4,_⟩:=s.node (a.mono hB) I;have R:=(a.cell (p:=⟨b,0,none⟩) L).trans Q.o;have T:=EF L a.size;have J:=Hd (P.o.below a);have O:=Hd H;have U:(0:Int)≤k:=by omega
   have V:(k:Int)<n:=by omega
   have z:∀o:Obj,Ft A (A.alloc o):=fun o=>(EB _ A).alloc (EA _) o
   have j:=Hd (fun W (X:Ft A W)=>sB S _ t.kind W (J.o.below X));have l:=Hd z;clear s H a z
   cases f:S.contains t.kind
   ·rw[f]at j;have u:=Hd f;clear f;go_wp2_with fail
    refine EJ (j.o _ (l.o _)) ?_;rintro e W2 ⟨rfl,rfl⟩;go_wp2_with fail
    go_ret;exact⟨bN (BK S h k t O.o u.o).symm,g.o.trans ((l.o _).mono g.o.size)⟩
   ·rw[f]at j;have u:=Hd f;clear f;go_wp2_with fail
    refine EJ (j.o _ (l.o _)) ?_;rintro e W2 ⟨rfl,rfl⟩;go_wp2_with fail
    exact⟨⟨_,k+1,rfl,by omega,by go_num,g.o.trans ((l.o _).mono g.o.size),yn S h k t O.o N.o u.o⟩,by simp[intOf];omega⟩
  ·obtain rfl:k=n:=by omega
   go_wp2_with fail
   go_ret;refine⟨bN ?_,g.o⟩;have:=N.o;rw[ER (by rw[G.o];exact EA _)]at this;exact this.symm
theorem lY(l:List UInt8):Lib.hasPrefix l [45]=eL l:=by
 unfold Lib.hasPrefix eL
 cases l with
 | nil=>rfl
 | cons c r =>
  by_cases h:c=45
  ·subst h;rfl
  ·have:(45==c)=false:=by simpa using fun e:(45:UInt8)=c=>h e.symm
   simp only[List.isPrefixOf,this,Bool.false_and]
   split
   ·rename_i heq;injection heq with heq;exact absurd heq h
   ·rfl
theorem qJ(s:ByteArray)(w:World):Calls Tryz.prog 145 #[.string s,string ⟨#[45]⟩] w fun e w'=>e=.returned (.bool (eL s.data.toList))∧w=w':=
 (Tryz.strings_HasPrefix s ⟨#[45]⟩ w).mono fun e w' ⟨a,b⟩=>⟨by rw[a,←lY],b.symm⟩
def lB(t:ac):Bool:=t.kind==14&&eL t.text.data.toList
theorem rB(l:List ac):fS l=(l.all (fun t=>!lB t)&&cZ [13,14,15,16] l):=rfl
theorem pq{α:Type}(p:α→Bool)(l:List α)(k:Nat)(x:α)(a:l[k]?=some x)(h:(l.take k).all p=true)(b:p x=true):(l.take (k+1)).all p=true:=by rw[Fg,a,List.all_append,h];simpa using b
theorem Dx{α:Type}(p:α→Bool)(l:List α)(k:Nat)(x:α)(a:l[k]?=some x)(b:p x=false):l.all p=false:=by rw[List.all_eq_false];exact⟨x,EU a,by simp[b]⟩
def Ed(w:World) (p:ac→Bool) (b:List ac) (n:Nat) (i:Value) (W:World):Prop:=∃(a:World) (k:Nat),a=W∧k≤n∧i=int i64 k∧Ft w a∧(b.take k).all p=true
theorem Ay(w:World)(S:List Nat)(a:S.length≤100)(arr:Array Value)(b:arr=(S.map fun k:Nat=>int .u8 (k:Int)).toArray)(n:Nat)(c:S.length=n):ga (w.alloc (.cells arr 73)) S (slice (some ⟨w.heap.size,0,none⟩) n n):=by
 subst b;subst c;refine Or.inr ⟨w.heap.size,0,S.length,rfl,a,by simp,fun i k d=>?_⟩;rw[Fq _ _ _ _ _ _ (n7 w _)];simp[d]
theorem mG(S:List Nat)(h:S.length≤100)(arr:Array Value)(i:arr=(S.map fun k:Nat=>int .u8 (k:Int)).toArray)(n:Nat)(j:S.length=n)(c:List ac)(v:Value)(d B:Nat)(a:World)
  (l:aD a B d c v) (hB:B≤a.heap.size) (f:c.length≤20000) :
  Calls Tryz.prog 174 #[v,.pointer (some ⟨a.heap.size+1,0,none⟩)] ((a.alloc (.cells arr 73)).alloc (.cells #[slice (some ⟨a.heap.size,0,none⟩) n n] 227)) (ap (cZ S c) a):=by
 have b:=bz a (.cells arr 73) (.cells #[slice (some ⟨a.heap.size,0,none⟩) n n] 227);have g:=(Ay a S h arr i n j).below ((EB _ _).alloc (EA _) (.cells #[slice (some ⟨a.heap.size,0,none⟩) n n] 227));have m:=(am a (.cells arr 73) (.cells #[slice (some ⟨a.heap.size,0,none⟩) n n] 227)).2.1;have o:=Fq _ _ 0 _ _ _ m;refine (i8 S c v _ d B (a.heap.size+1) _ (l.below (b.mono hB)) (EG hB b.size) f g (by simp) o).mono ?_;rintro e W ⟨he,p⟩;exact⟨he,b.trans (p.mono b.size)⟩
theorem ic(f:List ac)(v:Value)(d B:Nat)(w:World)(A:aD w B d f v)(hB:B≤w.heap.size)(r:f.length≤20000) :
  Calls Tryz.prog 151 #[v] w (ap (fS f) w):=by
 have m:=A;obtain⟨p,c,rfl,_,g⟩:=A.rows;obtain⟨n,E⟩:=zzy (f.length);rw[E]at r m ⊢;have C:=Hd E;have s:=Hd g;have N:=Hd m;clear g A E m
 go_enter Tryz.func151,Tryz.ntmps151
 go_wp2_with fail
 go_loopw [7] (Ed w (fun t=>!lB t) f n) (fun i _=>n-(intOf i).toNat)
 case atStart=>exact⟨_,0,rfl,EM _,rfl,EB _ _,rfl⟩
 case round =>
  obtain⟨D,k,rfl,A,rfl,b,h⟩:=hrel;have F:=Hd h;have a:=Hd b;clear h
  by_cases u:k<n
  ·obtain⟨t,G⟩:∃t,f[k]?=some t:=⟨f[k]'(by rw[C.o];exact u),EE (by rw[C.o];exact u)⟩;obtain⟨_,b',off,rfl,H,j⟩:=s.o k t G;obtain⟨S,T,U,d0,d1,d2,d3,d4,_⟩:=j.node (b.mono hB) H;have I:=Hd G;have O:(0:Int)≤k:=by omega
   have P:(k:Int)<n:=by omega
   have x:∀o:Obj,Ft D (D.alloc o):=fun o=>(EB _ D).alloc (EA _) o
   have L:=Hd (fun W=>qJ t.text W);have q:=Hd x;clear j G b x
   cases y:((t.kind:Int)==14)
   ·have J:=Hd (show (!lB t)=true by unfold lB;rw[show (t.kind==14)=false by simp at y ⊢;omega];rfl);go_wp2_with fail
    exact⟨⟨_,k+1,rfl,by omega,by go_num,a.o.trans ((q.o _).mono a.o.size),pq _ f k t I.o F.o J.o⟩,by simp[intOf];omega⟩
   ·have l:(t.kind==14)=true:=by simp at y ⊢;omega
    have M:Hid (lB t=eL t.text.data.toList):=by
     show lB t=_
     unfold lB;rw[l];rfl
    clear l;generalize eL t.text.data.toList=Q at *
    cases Q
    ·go_wp2_with fail
     refine EJ (L.o _) ?_;rintro e W2 ⟨rfl,rfl⟩;go_wp2_with fail
     exact⟨⟨_,k+1,rfl,by omega,by go_num,a.o.trans ((q.o _).mono a.o.size),pq _ f k t I.o F.o (by show (!lB t)=true;rw[M.o];rfl)⟩,by simp[intOf];omega⟩
    ·go_wp2_with fail
     refine EJ (L.o _) ?_;rintro e W2 ⟨rfl,rfl⟩;go_wp2_with fail
     go_ret;refine⟨bN ?_,a.o.trans ((q.o _).mono a.o.size)⟩;rw[rB,Dx _ f k t I.o (by show (!lB t)=false;rw[M.o];rfl)];rfl
  ·obtain rfl:k=n:=by omega
   have R:=Hd (mG [13,14,15,16] (by decide) #[int .u8 13,int .u8 14,int .u8 15,int .u8 16] rfl 4 rfl f _ d B D (N.o.below (b.mono hB)) (EG hB b.size) (by rw[C.o];exact r));clear b;go_wp2_with (go_at_call 148;refine (aR _ _ _ _).mono ?_;rintro e W2 ⟨rfl,rfl⟩)
   refine EJ R.o ?_;rintro e W2 ⟨rfl,z⟩;have K:=Hd (a.o.trans (z.mono a.o.size));clear z;go_wp2_with fail
   go_ret;refine⟨bN ?_,K.o⟩;have:=F.o;rw[ER (by rw[C.o];exact EA _)]at this;rw[rB,this];rfl
def yr(l:List ac):Bool:=l.length==1&&fS l
def BP(l:List ac):Bool:=decide (0<l.length)&&fS l
theorem vM(b:List ac)(v:Value)(d B:Nat)(w:World)(g:aD w B d b v)(hB:B≤w.heap.size)(h:b.length≤20000) :
  Calls Tryz.prog 150 #[v] w (ap (yr b) w):=by
 have m:=Hd (ic b v d B w g hB h);have k:Hid (yr b=(b.length==1&&fS b)):=rfl;obtain⟨p,c,rfl,_,f⟩:=g.rows;generalize fS b=x at *;generalize yr b=y at *;generalize b.length=n at *;clear f g
 go_enter Tryz.func150,Tryz.ntmps150
 cases l:((n:Int)==1)
 ·have a:(n==1)=false:=by simp at l ⊢;omega
  have i:=Hd a;clear a;go_wp2_with fail
  go_ret;exact⟨bN (by rw[k.o,i.o];rfl),EB _ _⟩
 ·have a:(n==1)=true:=by simp at l ⊢;omega
  have i:=Hd a;clear a;go_wp2_with fail
  refine EJ m.o ?_;rintro e W2 ⟨rfl,j⟩;go_wp2_with fail
  go_ret;exact⟨bN (by rw[k.o,i.o];rfl),j⟩
theorem vz(a:List ac)(v:Value)(d B:Nat)(w:World)(f:aD w B d a v)(hB:B≤w.heap.size)(g:a.length≤20000) :
  Calls Tryz.prog 152 #[v] w (ap (BP a) w):=by
 have j:=Hd (ic a v d B w f hB g);have i:Hid (BP a=(decide (0<a.length)&&fS a)):=rfl;obtain⟨p,c,rfl,_,b⟩:=f.rows;generalize fS a=x at *;generalize BP a=y at *;generalize a.length=n at *;clear b f
 go_enter Tryz.func152,Tryz.ntmps152
 by_cases k:0<n
 ·have l:=Hd k;have m:(0:Int)<n:=by omega
  go_wp2_with fail
  refine EJ j.o ?_;rintro e W2 ⟨rfl,h⟩;go_wp2_with fail
  go_ret;exact⟨bN (by rw[i.o];simp[l.o]),h⟩
 ·obtain rfl:n=0:=by omega
  go_wp2_with fail
  go_ret;exact⟨bN (by rw[i.o];rfl),EB _ _⟩
theorem aD.part{w:World}{B d:Nat}{a:List ac}{b off c:Nat}(h:aD w B d a (slice (some ⟨b,off,none⟩) a.length c))(i m:Nat)(f:i+m≤a.length)(A:a.length≤c)(p:c≤maxLen) :
  aD w B d ((a.drop i).take m) (slice (some ⟨b,off+i*5,none⟩) m (c-i)):=by
 have hlen:((a.drop i).take m).length=m:=by simp;omega
 by_cases hm:m=0
 ·subst hm
  cases d with
  | zero=>exact⟨by simp,_,_,rfl⟩
  | succ d=>exact Or.inl ⟨by simp,_,_,rfl⟩
 ·rcases h.cases with ⟨q,_⟩|⟨d',b',o,cap,rfl,r,s,t,u,k,g⟩
  ·rw[q]at f;simp at f;omega
  ·injection k with l C v
   injection l with l
   injection l with x y
   subst x;subst y;subst v;refine Or.inr ⟨b,off+i*5,c-i,?_,s,by omega,by omega,by rw[hlen],fun j T n=>?_⟩
   ·intro e;rw[e]at hlen;simp at hlen;omega
   ·have z:j<m:=by have:=(EP.1 n).1;omega
    rw[List.getElem?_take,n9 z,List.getElem?_drop]at n;have:=g (i+j) T n;rw[Nat.add_mul]at this
    simpa only [Nat.add_assoc]using this
theorem aD.caps{w:World}{B d:Nat}{i:List ac}{p:Option Addr}{n c:Nat}(h:aD w B d i (.slice p n c)):n=i.length∧(0<n→∃b off,p=some ⟨b,off,none⟩∧b<B∧n≤c∧c≤maxLen):=by
 rcases h.cases with ⟨rfl,sp,cap,e⟩|⟨d',b',j,cap,rfl,l,m,a,f,g,k⟩
 ·injection e with _ e _
  subst e;exact⟨rfl,fun h=>absurd h (by omega)⟩
 ·injection g with o q r
  subst o;subst q;subst r;exact⟨rfl,fun _=>⟨_,_,rfl,m,a,f⟩⟩
theorem kE(W:World):(sizeOf (Tryz.prog.elem 74)).run Tryz.prog W=.ok 5 W:=by kernel_rfl
theorem vJ(b off n c l h:Nat)(W:World)(d:l<c)(e:l≤h)(f:h≤c) :
  (Instr.slice 74 (slice (some ⟨b,off,none⟩) n c) (some (int i64 l)) (some (int i64 h)) none).run Tryz.prog W=.ok (slice (some ⟨b,off+l*5,none⟩) (h-l) (c-l)) W:=by
 rw[run_slice_lh W 74 (some ⟨b,off,none⟩) n c (by kernel_rfl) i64 i64 l h (by omega) (by omega) (by omega),kE]
 show Result.ok (sliced _ _ _ _ _) W=_
 unfold sliced;rw[Int.toNat_natCast,Int.toNat_natCast,n8 (by omega)];simp only[Option.map_some,Addr.add]
 by_cases a:l*5=0
 ·rw[n9 a,a];rfl
 ·rw[n8 a]
theorem xJ(b off n c l:Nat)(e:l≤n)(f:n≤c):∃q:Option Addr,(∀W:World,(Instr.slice 74 (slice (some ⟨b,off,none⟩) n c) (some (int i64 l)) none none).run Tryz.prog W=.ok (.slice q (n-l) (c-l)) W)∧(l<n→q=some ⟨b,off+l*5,none⟩):=by
 refine⟨if c=l then some ⟨b,off,none⟩ else some ⟨b,off+l*5,none⟩,fun W=>?_,fun h=>by rw[n8 (by omega)]⟩;rw[run_slice_l W 74 (some ⟨b,off,none⟩) n c (by kernel_rfl) i64 l (by omega) (by omega),kE]
 show Result.ok (sliced _ _ _ _ _) W=_
 unfold sliced;rw[Int.toNat_natCast]
 by_cases a:c=l
 ·rw[n9 a,n9 a]
 ·rw[n8 a,n8 a];simp only[Option.map_some,Addr.add]
  by_cases d:l*5=0
  ·rw[n9 d,d];rfl
  ·rw[n8 d]
theorem A8(W:World)(c:Nat):(Instr.slice 74 (slice none 0 c) (some (int i64 ((0:Nat):Int))) none none).run Tryz.prog W=.ok (slice none 0 (c-0)) W:=by
 rw[run_slice_l W 74 none 0 c (by kernel_rfl) i64 ((0:Nat):Int) (by omega) (by omega),kE]
 show Result.ok (sliced _ _ _ _ _) W=_
 unfold sliced
 by_cases a:c=0
 ·subst a;rfl
 ·rw[n8 (by simpa using a)];rfl
theorem aD.tail{w:World}{B d:Nat}{i:List ac}{p:Option Addr}{n c:Nat}(h:aD w B d i (.slice p n c))(k:Nat)(r:k≤n) :
  ∃q:Option Addr,(∀W:World,(Instr.slice 74 (.slice p n c) (some (int i64 k)) none none).run Tryz.prog W=.ok (.slice q (n-k) (c-k)) W)∧aD w B d (i.drop k) (.slice q (n-k) (c-k)):=by
 obtain⟨m,f⟩:=h.caps
 by_cases s:0<n
 ·obtain⟨b,off,rfl,v,o,hm⟩:=f s;obtain⟨q,t,u⟩:=xJ b off n c k r o;refine⟨q,t,?_⟩
  by_cases j:k<n
  ·rw[u j];subst m;have:=h.part k (i.length-k) (by omega) o hm
   rwa [ER (by simp)]at this
  ·have e:n-k=0:=by omega
   rw[e]
   cases d with
   | zero=>exact⟨List.drop_eq_nil_of_le (by omega),_,_,rfl⟩
   | succ d=>exact Or.inl ⟨List.drop_eq_nil_of_le (by omega),_,_,rfl⟩
 ·obtain rfl:n=0:=by omega
  obtain rfl:k=0:=by omega
  have l:i=[]:=EX m.symm;subst l
  cases p with
  | none =>
   refine⟨none,fun W=>A8 W c,?_⟩
   cases d with
   | zero=>exact⟨rfl,_,_,rfl⟩
   | succ d=>exact Or.inl ⟨rfl,_,_,rfl⟩
  | some a =>
   refine⟨some a,fun W=>?_,?_⟩
   ·rw[run_slice_l W 74 (some a) 0 c (by kernel_rfl) i64 ((0:Nat):Int) (by omega) (by omega),kE]
    show Result.ok (sliced _ _ _ _ _) W=_
    unfold sliced
    by_cases g:c=0
    ·subst g;rfl
    ·rw[n8 (by simpa using g)];simp[Addr.add]
   ·cases d with
    | zero=>exact⟨rfl,_,_,rfl⟩
    | succ d=>exact Or.inl ⟨rfl,_,_,rfl⟩
def Ef(w:World) (b:List ac) (n:Nat) (i:Value) (W:World):Prop:=∃(a:World) (k:Nat),a=W∧k≤n∧i=int i64 k∧Ft w a∧(b.take k).all cK=true
theorem mj{α:Type}(p:α→Bool):∀(l:List α) (k:Nat),(l.take k).all p=true→(l.drop k).head?.all (fun x=>!p x)=true→l.dropWhile p=l.drop k:=by
 intro l
 induction l with
 | nil=>intro k _ _;simp
 | cons x l c =>
  intro k b a
  cases k with
  | zero =>
   rw[ES]at a ⊢;simp only[List.head?_cons,Option.all_some,Bool.not_eq_true']at a;rw[List.dropWhile_cons,n8 (by simp[a])]
  | succ k =>
   rw[EK,List.all_cons,EQ]at b;rw[List.dropWhile_cons,n9 b.1,EL];exact c k b.2 a
theorem pW{a:World}{p q:Option Addr}{n c k:Nat}{b:List ac}
  (h:∀W2,Ft a W2→∃q:Option Addr,(∀W:World,(Instr.slice 74 (.slice p n c) (some (int i64 k)) none none).run Tryz.prog W=.ok (.slice q (n-k) (c-k)) W)∧
    Calls Tryz.prog 174 #[.slice q (n-k) (c-k),.pointer (some ⟨W2.heap.size+1,0,none⟩)] ((W2.alloc (.cells #[int .u8 8,int .u8 9,int .u8 10,int .u8 11] 73)).alloc (.cells #[slice (some ⟨W2.heap.size,0,none⟩) 4 4] 227)) (ap (cZ [8,9,10,11] (b.drop k)) W2))
  {d:World} (e:Ft a d)
  (f:∀W:World,(Instr.slice 74 (.slice p n c) (some (int i64 k)) none none).run Tryz.prog W=.ok (.slice q (n-k) (c-k)) W) :
  ∀W2,Ft d W2→Calls Tryz.prog 174 #[.slice q (n-k) (c-k),.pointer (some ⟨W2.heap.size+1,0,none⟩)] ((W2.alloc (.cells #[int .u8 8,int .u8 9,int .u8 10,int .u8 11] 73)).alloc (.cells #[slice (some ⟨W2.heap.size,0,none⟩) 4 4] 227)) (ap (cZ [8,9,10,11] (b.drop k)) W2):=by
 intro W2 g;obtain⟨l,i,j⟩:=h W2 (e.trans (g.mono e.size));have:=(f a).symm.trans (i a);simp only[Result.ok.injEq,Value.slice.injEq,and_true]at this;rw[this];exact j
theorem vZ(a:List ac)(v:Value)(d B:Nat)(w:World)(M:aD w B d a v)(hB:B≤w.heap.size)(T:a.length≤20000) :
  Calls Tryz.prog 149 #[v] w (ap (rowB a) w):=by
 have H:=M;obtain⟨p,c,rfl,_,O⟩:=M.rows;obtain⟨n,U⟩:=zzy (a.length);have j:=(aD.caps M).2;rw[U]at T H j ⊢;have m:=Hd U;have V:=Hd H;have X:=Hd j;clear O M U H j
 go_enter Tryz.func149,Tryz.ntmps149
 go_wp2_with fail
 go_loopw [3] (Ef w a n) (fun i _=>n-(intOf i).toNat)
 case atStart=>exact⟨_,0,rfl,EM _,rfl,EB _ _,rfl⟩
 case round =>
  obtain⟨I,k,rfl,M,rfl,f,F⟩:=hrel;have Y:=Hd F;have D:=Hd f;clear F;have s:∀W2,Ft I W2→∃q:Option Addr,(∀W:World,(Instr.slice 74 (.slice p n c) (some (int i64 k)) none none).run Tryz.prog W=.ok (.slice q (n-k) (c-k)) W)∧
    Calls Tryz.prog 174 #[.slice q (n-k) (c-k),.pointer (some ⟨W2.heap.size+1,0,none⟩)] ((W2.alloc (.cells #[int .u8 8,int .u8 9,int .u8 10,int .u8 11] 73)).alloc (.cells #[slice (some ⟨W2.heap.size,0,none⟩) 4 4] 227)) (ap (cZ [8,9,10,11] (a.drop k)) W2):=by
   intro W2 g;have u:=f.trans (g.mono f.size);obtain⟨q,Z,h2⟩:=(V.o.below (u.mono hB)).tail k M;exact⟨q,Z,mG [8,9,10,11] (by decide) _ rfl 4 rfl (a.drop k) _ d B W2 h2 (EG hB u.size) (by rw[List.length_drop,m.o];omega)⟩
  have E:=Hd s;clear s
  by_cases h:k<n
  ·obtain⟨t,ht⟩:∃t,a[k]?=some t:=⟨a[k]'(by rw[m.o];exact h),EE (by rw[m.o];exact h)⟩;obtain⟨b,off,rfl,ar,ad,af⟩:=X.o (by omega);have ak:=V.o.below (f.mono hB)
   have x:=Hd (fun W2 (g:Ft I W2)=>(by
    have u:=f.trans (g.mono f.size);have P:=V.o.below (u.mono hB);rw[←m.o]at P;have Z:=P.part k 1 (by rw[m.o];omega) (by rw[m.o];exact ad) af;exact mG [5,6,7] (by decide) #[int .u8 5,int .u8 6,int .u8 7] rfl 3 rfl ((a.drop k).take 1) _ d B W2 Z (EG hB u.size) (by simp;omega) :
    Calls Tryz.prog 174 #[slice (some ⟨b,off+k*5,none⟩) 1 (c-k),.pointer (some ⟨W2.heap.size+1,0,none⟩)] ((W2.alloc (.cells #[int .u8 5,int .u8 6,int .u8 7] 73)).alloc (.cells #[slice (some ⟨W2.heap.size,0,none⟩) 3 3] 227)) (ap (cZ [5,6,7] ((a.drop k).take 1)) W2)))
   have G:∀W:World,(Instr.slice 74 (slice (some ⟨b,off,none⟩) n c) (some (int i64 k)) (some (int i64 ((k:Int)+1))) none).run Tryz.prog W=.ok (slice (some ⟨b,off+k*5,none⟩) 1 (c-k)) W:=by
    intro W;have:=vJ b off n c k (k+1) W (by omega) (by omega) (by omega);rw[Nat.add_sub_cancel_left]at this;exact this
   have HT:=Hd ht;have Q:cZ [5,6,7] ((a.drop k).take 1)=cK t:=by
    rw[List.drop_eq_getElem_cons (by rw[m.o];exact h)];have:a[k]'(by rw[m.o];exact h)=t:=by
     have:=HT.o;rw[EE (by rw[m.o];exact h)]at this;exact o1 this
    rw[this];simp[cZ,cK]
   rw[Q]at x;clear ak ht Q;have av:(0:Int)≤k:=by omega
   have a1:(k:Int)<n:=by omega
   have a6:IntKind.i64.wrap ((k:Int)+1)=(k:Int)+1:=IntWalk.i64_in _ (by omega)
   cases r:cK t
   ·rw[r]at x;have y:Hid (rowB a=cZ [8,9,10,11] (a.drop k)):=by
     show _=_
     unfold rowB;rw[mj cK a k Y.o];rw[List.drop_eq_getElem_cons (by rw[m.o];exact h)];have:a[k]'(by rw[m.o];exact h)=t:=by
      have:=HT.o;rw[EE (by rw[m.o];exact h)]at this;exact o1 this
     rw[this];simp[r]
    clear r;go_wp2_with fail
    go_region_held3 (fun w'=>True)
     (first|exact trivial)
     (first
      | (go_at_call 148;refine (aR _ _ _ _).mono ?_;rintro e N ⟨rfl,rfl⟩)
      | (go_at_call 174;refine EJ (x.o _ (EB _ I).drew) ?_;rintro e N ⟨rfl,z⟩))
    have A:=Hd ((EB _ I).drew.trans z);clear z G;obtain⟨q,l,_⟩:=E.o N A.o;have J:=Hd (pW E.o A.o l);have C:=Hd (D.o.trans (A.o.mono D.o.size));go_wp2_with fail
    go_region_held3 (fun w'=>True)
     (first|exact trivial)
     (first
      | (go_at_call 148;refine (aR _ _ _ _).mono ?_;rintro e w7 ⟨rfl,rfl⟩)
      | (go_at_call 174;refine EJ (J.o _ (EB _ N).drew) ?_;rintro e w7 ⟨rfl,K⟩))
    go_wp2_with fail
    go_ret;exact⟨bN y.o.symm,C.o.trans (((EB _ N).drew.trans K).mono C.o.size)⟩
   ·rw[r]at x;have an:=Hd r;clear r;go_wp2_with fail
    go_region_held3 (fun w'=>True)
     (first|exact trivial)
     (first
      | (go_at_call 148;refine (aR _ _ _ _).mono ?_;rintro e N ⟨rfl,rfl⟩)
      | (go_at_call 174;refine EJ (x.o _ (EB _ I).drew) ?_;rintro e N ⟨rfl,z⟩))
    have A:=Hd ((EB _ I).drew.trans z);clear z G;go_wp2_with fail
    exact⟨⟨_,k+1,rfl,by omega,by go_num,D.o.trans (A.o.mono D.o.size),pq cK a k t HT.o Y.o an.o⟩,by simp[intOf];omega⟩
  ·obtain rfl:k=n:=by omega
   have y:Hid (rowB a=cZ [8,9,10,11] (a.drop k)):=by
    show _=_
    unfold rowB;rw[mj cK a k Y.o];rw[List.drop_eq_nil_of_le (by rw[m.o];exact EA _)];rfl
   obtain⟨q,l,_⟩:=E.o I (EB _ _);have L:=pW E.o (EB _ _) l;rw[Nat.sub_self]at l L;have J:=Hd L;clear L;have C:=Hd f;clear f;go_wp2_with fail
   refine ae (by kernel_rfl) (by kernel_rfl) ?_
   repeat (go_big_quiet_step (fail))
   refine wpQuiet_nil ?_;intro W2 R;have g:=az R;clear R;have aq:=Hd (fun W3 (h3:Ft W2 W3)=>J.o W3 (g.trans (h3.mono g.size)));have S:=Hd (C.o.trans (g.mono C.o.size));clear g;go_wp2_with fail
   go_region_held3 (fun w'=>True)
    (first|exact trivial)
    (first
     | (go_at_call 148;refine (aR _ _ _ _).mono ?_;rintro e w7 ⟨rfl,rfl⟩)
     | (go_at_call 174;refine EJ (aq.o _ (EB _ W2).drew) ?_;rintro e w7 ⟨rfl,K⟩))
   go_wp2_with fail
   go_ret;exact⟨bN y.o.symm,S.o.trans (((EB _ W2).drew.trans K).mono S.o.size)⟩
