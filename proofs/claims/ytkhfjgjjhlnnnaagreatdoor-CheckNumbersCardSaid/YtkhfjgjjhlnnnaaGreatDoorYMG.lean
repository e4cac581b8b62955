/- Parts of one proof, joined; conditions stand in each theorem. -/
import Derived.Test.YtkhfjgjjhlnnnaaGreatDoorYMD
import Derived.Deep.RegionHeld3
open Go renaming World→wD,Value→wF,Calls→xL,Addr→Bs
open Go.Value renaming slice→A,int→I,bool→AJ,pointer→xV,string→J
open Option renaming none→U,some→Y
open Go.IntKind renaming u8→O,i64→Z
open Bool renaming false→xj,true→wP
open Go.Proofs.Tryz renaming prog→xD
open Go.Ending renaming returned→z8
open Go.Obj renaming cells→wq
namespace Go.Proofs.YtkhfjgjjhlnnnaaGreatDoor
set_option maxHeartbeats 2000000
set_option maxRecDepth 100000
open Go.RowKit
def gy(w:wD) (S:List Nat) (v:wF):Prop:=
 (S=[]∧v=A U 0 0)∨∃b off cap,v=A (Y ⟨b,off,U⟩) S.length cap∧S.length≤100∧b<w.heap.size∧∀(i k:Nat),S[i]?=Y k→w.cell? ⟨b,off+i,U⟩=Y (I O (k:Int))
theorem gy.z{w w':wD}{S:List Nat}{v:wF}(h:gy w S v)(c:FK w w'):gy w' S v:=by
 rcases h with h|⟨b,off,cap,d,e,a,f⟩
 ·exact Or.inl h
 ·exact Or.inr ⟨b,off,cap,d,e,ET a c.size,fun i k g=>(c.cell (p:=⟨b,off+i,U⟩) a).trans (f i k g)⟩
theorem gy.b{w:wD}{S:List Nat}{v:wF}(h:gy w S v):∃p c,v=A p S.length c∧S.length≤100∧∀(i k:Nat),S[i]?=Y k→∃b off,p=Y ⟨b,off,U⟩∧w.cell? ⟨b,off+i,U⟩=Y (I O (k:Int)):=by
 rcases h with ⟨rfl,rfl⟩|⟨b,off,cap,rfl,d,_,e⟩
 ·exact⟨U,0,V,by simp,fun i k a=>by simp at a⟩
 ·exact⟨_,cap,V,d,fun i k a=>⟨b,off,V,e i k a⟩⟩
theorem v9{α:Type}(p:α→Bool)(l:List α)(k:Nat)(x:α)(a:l[k]?=Y x)(h:(l.take k).any p=xj)(b:p x=xj):(l.take (k+1)).any p=false:=by rw[Fz,a,List.any_append,h];simp[b]
theorem DY{α:Type}(p:α→Bool)(l:List α)(k:Nat)(x:α)(a:l[k]?=Y x)(h:p x=wP):l.any p=true:=
 List.any_eq_true.2 ⟨x,Fj a,h⟩
theorem yv(S:List Nat)(v:wF)(x:Nat)(w:wD)(h:gy w S v) :
  xL xD 251 #[v,I O (x:Int)] w fun e w'=>(∃i:Int,e=z8 (I Z i)∧decide (0≤i)=S.any (· == x))∧w=w':=by
 obtain⟨p,c,rfl,u,q⟩:=h.b;obtain⟨n,f⟩:=zzy (S.length);rw[f]at u ⊢;obtain⟨z,g⟩:=zz2 q f;clear q f h
 go_enter Tryz.func251,Tryz.ntmps251
 go_wp2_with fail
 go_loop [8,5] (fun i _=>∃k:Nat,k≤n∧i=I Z k∧(S.take k).any (· == x)=xj) (fun i _=>n-(intOf i).toNat)
 case atStart=>exact⟨0,Fa _,V,V⟩
 case round =>
  obtain⟨k,B,rfl,a⟩:=hrel;have r:=Hd a;clear a
  by_cases d:k<n
  ·obtain⟨y,j⟩:∃y,S[k]?=Y y:=⟨S[k]'(by rw[g.o];exact d),ES (by rw[g.o];exact d)⟩;obtain⟨b,off,rfl,l⟩:=z.o k y j;have s:=Hd j;clear j
   cases t:((x:Int)==(y:Int))
   ·have m:=Hd t;go_wp2_with fail
    go_round
    case rel =>
     refine⟨k+1,by omega,by go_num,v9 (· == x) _ _ _ s.o r.o ?_⟩;have:=m.o;simp at this ⊢;omega
    case measure=>simp[intOf];omega
   ·have m:=Hd t;go_wp2_with fail
    go_ret;refine⟨⟨k,V,?_⟩,V⟩;rw[DY (· == x) _ _ _ s.o (by have:=m.o;simp at this ⊢;omega)];simp
  ·go_wp2_with fail
   go_ret;refine⟨⟨-1,V,?_⟩,V⟩;have e:S.take k=S:=Fg (by rw[g.o];omega);have:=r.o;rw[e]at this;rw[this];rfl
theorem tm(S:List Nat)(v:wF)(x:Nat)(w:wD)(h:gy w S v) :
  xL xD 211 #[v,I O (x:Int)] w fun e w'=>e=z8 (AJ (S.contains x))∧w=w':=by
 have a:=Hd (yv S v x w h);have he:S.any (· == x)=S.contains x:=by rw[List.contains_eq_any_beq];congr 1;funext y;rw[Bool.beq_comm]
 rw[he]at a;clear he h
 go_enter Tryz.func211,Tryz.ntmps211
 go_wp2_with (go_at_call 251;refine EX a.o ?_;rintro e w' ⟨⟨i,rfl,b⟩,rfl⟩;have c:=Hd b;clear b)
 go_ret;exact⟨by rw[←c.o];rfl,V⟩
theorem aY(p:Option Bs)(n c:Nat)(w:wD) :
  xL xD 131 #[A p n c] w fun e w'=>e=z8 (Value.func (.func 210) #[] #[xV (Y ⟨w.heap.size,0,U⟩)])∧w'=w.alloc (wq #[A p n c] 179):=by
 go_enter Tryz.func131,Tryz.ntmps131
 go_wp2_with fail
 go_ret;exact⟨V,V⟩
def Dc(w:wD) (S:List Nat) (b:List ab) (n:Nat) (i:wF) (W:wD):Prop:=∃(a:wD) (k:Nat),a=W∧k≤n∧i=I Z k∧FK w a∧bG S (b.take k)=wP
theorem yp(S:List Nat)(a:List ab)(k:Nat)(t:ab)(h:a[k]?=Y t)(b:bG S (a.take k)=wP)(c:S.contains t.b=wP):bG S (a.take (k+1))=true:=by
 unfold bG at *;rw[Fz,h,List.all_append,b]
 simpa using c
theorem BZ(S:List Nat)(a:List ab)(k:Nat)(t:ab)(h:a[k]?=Y t)(b:S.contains t.b=xj):bG S a=false:=by
 unfold bG;rw[List.all_eq_false];exact⟨t,Fj h,by simpa using b⟩
theorem jP(S:List Nat)(h:List ab)(v N:wF)(d B b:Nat)(w:wD)(D:ao w B d h v)(hB:B≤w.heap.size)(E:h.length≤20000)(F:gy w S N)(P:b<w.heap.size)(Q:w.cell? ⟨b,0,U⟩=Y N) :
  xL xD 210 #[v,xV (Y ⟨b,0,U⟩)] w (am (bG S h) w):=by
 obtain⟨p,c,rfl,_,m⟩:=D.rows;obtain⟨q,cq,rfl,_,_⟩:=F.b;obtain⟨n,G⟩:=zzy (h.length);rw[G]at E ⊢;obtain⟨H,x,X,HC⟩:=zz4 G m F Q;clear m F D G Q
 go_enter Tryz.func210,Tryz.ntmps210
 go_wp2_with fail
 go_loopw [8] (Dc w S h n) (fun i _=>n-(intOf i).toNat)
 case atStart=>exact⟨_,0,V,Fa _,V,EP _ _,V⟩
 case round =>
  obtain⟨C,k,rfl,D,rfl,a,r⟩:=hrel;obtain⟨R,g⟩:=zz2 r a;clear r
  by_cases y:k<n
  ·obtain⟨t,K⟩:∃t,h[k]?=Y t:=⟨h[k]'(by rw[H.o];exact y),ES (by rw[H.o];exact y)⟩;obtain⟨_,b',off,rfl,L,s⟩:=x.o k t K;obtain⟨p',l',c',d0,d1,d2,d3,d4,_⟩:=s.node (a.mono hB) L;have ad:=(a.cell (p:=⟨b,0,U⟩) P).trans HC.o;have af:=ET P a.size;obtain⟨M,T⟩:=zz2 (X.o.z a) K;have ak:(0:Int)≤k:=by omega
   have al:(k:Int)<n:=by omega
   have z:∀o:Obj,FK C (C.alloc o):=fun o=>(EP _ C).alloc (EO _) o
   have j:=Hd (fun W (hW:FK C W)=>tm S _ t.b W (M.o.z hW));have l:=Hd z;clear s K a z
   cases f:S.contains t.b
   ·rw[f]at j;have u:=Hd f;clear f;go_wp2_with fail
    refine EX (j.o _ (l.o _)) ?_;rintro e W2 ⟨rfl,rfl⟩;go_wp2_with fail
    go_ret;exact⟨ah (BZ S h k t T.o u.o).symm,g.o.trans ((l.o _).mono g.o.size)⟩
   ·rw[f]at j;have u:=Hd f;clear f;go_wp2_with fail
    refine EX (j.o _ (l.o _)) ?_;rintro e W2 ⟨rfl,rfl⟩;go_wp2_with fail
    exact⟨⟨_,k+1,V,by omega,by go_num,g.o.trans ((l.o _).mono g.o.size),yp S h k t T.o R.o u.o⟩,by simp[intOf];omega⟩
  ·obtain rfl:k=n:=by omega
   go_wp2_with fail
   go_ret;refine⟨ah ?_,g.o⟩;have:=R.o;rw[Fg (by rw[H.o];exact EO _)]at this;exact this.symm
theorem mO(l:List UInt8):Lib.hasPrefix l [45]=dN l:=by
 unfold Lib.hasPrefix dN
 cases l with
 | nil=>rfl
 | cons c r =>
  by_cases h:c=45
  ·subst h;rfl
  ·have:(45==c)=false:=by simpa using fun e:(45:UInt8)=c=>h e.symm
   simp only[List.isPrefixOf,this,Bool.false_and]
   split
   ·rename_i heq;injection heq with heq;exact absurd heq h
   ·rfl
theorem rz(s:ByteArray)(w:wD):xL xD 212 #[J s,J ⟨#[45]⟩] w fun e w'=>e=z8 (AJ (dN s.data.toList))∧w=w':=
 (Tryz.strings_HasPrefix s ⟨#[45]⟩ w).mono fun e w' ⟨a,b⟩=>⟨by rw[a,←mO],b.symm⟩
def hZ(t:ab):Bool:=t.b==14&&dN t.f.data.toList
theorem lm(l:List ab):cI l=(l.all (fun t=>!hZ t)&&bG [13,14,15,16] l):=rfl
theorem jd{α:Type}(p:α→Bool)(l:List α)(k:Nat)(x:α)(a:l[k]?=Y x)(h:(l.take k).all p=wP)(b:p x=wP):(l.take (k+1)).all p=true:=by rw[Fz,a,List.all_append,h];simpa using b
theorem xn{α:Type}(p:α→Bool)(l:List α)(k:Nat)(x:α)(a:l[k]?=Y x)(b:p x=xj):l.all p=false:=by rw[List.all_eq_false];exact⟨x,Fj a,by simp[b]⟩
def ui(w:wD) (p:ab→Bool) (b:List ab) (n:Nat) (i:wF) (W:wD):Prop:=∃(a:wD) (k:Nat),a=W∧k≤n∧i=I Z k∧FK w a∧(b.take k).all p=wP
theorem sN(w:wD)(S:List Nat)(a:S.length≤100)(arr:Array wF)(b:arr=(S.map fun k:Nat=>I O (k:Int)).toArray)(n:Nat)(c:S.length=n):gy (w.alloc (wq arr 22)) S (A (Y ⟨w.heap.size,0,U⟩) n n):=by
 subst b;subst c;refine Or.inr ⟨w.heap.size,0,S.length,V,a,by simp,fun i k d=>?_⟩;rw[FI _ _ _ _ _ _ (p9 w _)];simp[d]
theorem nz(S:List Nat)(h:S.length≤100)(arr:Array wF)(i:arr=(S.map fun k:Nat=>I O (k:Int)).toArray)(n:Nat)(j:S.length=n)(c:List ab)(v:wF)(d B:Nat)(a:wD)
  (l:ao a B d c v) (hB:B≤a.heap.size) (f:c.length≤20000) :
  xL xD 210 #[v,xV (Y ⟨a.heap.size+1,0,U⟩)] ((a.alloc (wq arr 22)).alloc (wq #[A (Y ⟨a.heap.size,0,U⟩) n n] 179)) (am (bG S c) a):=by
 have b:=fU a (wq arr 22) (wq #[A (Y ⟨a.heap.size,0,U⟩) n n] 179);have g:=(sN a S h arr i n j).z ((EP _ _).alloc (EO _) (wq #[A (Y ⟨a.heap.size,0,U⟩) n n] 179));have m:=(ap a (wq arr 22) (wq #[A (Y ⟨a.heap.size,0,U⟩) n n] 179)).2.1;have o:=FI _ _ 0 _ _ _ m;refine (jP S c v _ d B (a.heap.size+1) _ (l.z (b.mono hB)) (EU hB b.size) f g (by simp) o).mono ?_;rintro e W ⟨he,p⟩;exact⟨he,b.trans (p.mono b.size)⟩
theorem iZ(f:List ab)(v:wF)(d B:Nat)(w:wD)(C:ao w B d f v)(hB:B≤w.heap.size)(r:f.length≤20000) :
  xL xD 134 #[v] w (am (cI f) w):=by
 have m:=C;obtain⟨p,c,rfl,_,g⟩:=C.rows;obtain⟨n,F⟩:=zzy (f.length);rw[F]at r m ⊢;obtain⟨D,s,R⟩:=zz3 F g m;clear g C F m
 go_enter Tryz.func134,Tryz.ntmps134
 go_wp2_with fail
 go_loopw [7] (ui w (fun t=>!hZ t) f n) (fun i _=>n-(intOf i).toNat)
 case atStart=>exact⟨_,0,V,Fa _,V,EP _ _,V⟩
 case round =>
  obtain⟨E,k,rfl,C,rfl,b,h⟩:=hrel;obtain⟨G,a⟩:=zz2 h b;clear h
  by_cases u:k<n
  ·obtain⟨t,H⟩:∃t,f[k]?=Y t:=⟨f[k]'(by rw[D.o];exact u),ES (by rw[D.o];exact u)⟩;obtain⟨_,b',off,rfl,K,j⟩:=s.o k t H;obtain⟨p',l',c',d0,d1,d2,d3,d4,_⟩:=j.node (b.mono hB) K;have L:=Hd H;have S:(0:Int)≤k:=by omega
   have T:(k:Int)<n:=by omega
   have x:∀o:Obj,FK E (E.alloc o):=fun o=>(EP _ E).alloc (EO _) o
   obtain⟨P,q⟩:=zz2 (fun W=>rz t.f W) x;clear j H b x
   cases y:((t.b:Int)==14)
   ·have M:=Hd (show (!hZ t)=wP by unfold hZ;rw[show (t.b==14)=xj by simp at y ⊢;omega];rfl);go_wp2_with fail
    exact⟨⟨_,k+1,V,by omega,by go_num,a.o.trans ((q.o _).mono a.o.size),jd _ f k t L.o G.o M.o⟩,by simp[intOf];omega⟩
   ·have l:(t.b==14)=true:=by simp at y ⊢;omega
    have Q:Hid (hZ t=dN t.f.data.toList):=by
     show hZ t=_
     unfold hZ;rw[l];rfl
    clear l;generalize dN t.f.data.toList=X at *
    cases X
    ·go_wp2_with fail
     refine EX (P.o _) ?_;rintro e W2 ⟨rfl,rfl⟩;go_wp2_with fail
     exact⟨⟨_,k+1,V,by omega,by go_num,a.o.trans ((q.o _).mono a.o.size),jd _ f k t L.o G.o (by show (!hZ t)=wP;rw[Q.o];rfl)⟩,by simp[intOf];omega⟩
    ·go_wp2_with fail
     refine EX (P.o _) ?_;rintro e W2 ⟨rfl,rfl⟩;go_wp2_with fail
     go_ret;refine⟨ah ?_,a.o.trans ((q.o _).mono a.o.size)⟩;rw[lm,xn _ f k t L.o (by show (!hZ t)=xj;rw[Q.o];rfl)];rfl
  ·obtain rfl:k=n:=by omega
   have HC:=Hd (nz [13,14,15,16] (by decide) #[I O 13,I O 14,I O 15,I O 16] V 4 V f _ d B E (R.o.z (b.mono hB)) (EU hB b.size) (by rw[D.o];exact r));clear b;go_wp2_with (go_at_call 131;refine (aY _ _ _ _).mono ?_;rintro e W2 ⟨rfl,rfl⟩)
   refine EX HC.o ?_;rintro e W2 ⟨rfl,z⟩;have N:=Hd (a.o.trans (z.mono a.o.size));clear z;go_wp2_with fail
   go_ret;refine⟨ah ?_,N.o⟩;have:=G.o;rw[Fg (by rw[D.o];exact EO _)]at this;rw[lm,this];rfl
def yu(l:List ab):Bool:=l.length==1&&cI l
def B8(l:List ab):Bool:=decide (0<l.length)&&cI l
theorem v6(b:List ab)(v:wF)(d B:Nat)(w:wD)(g:ao w B d b v)(hB:B≤w.heap.size)(h:b.length≤20000) :
  xL xD 133 #[v] w (am (yu b) w):=by
 have m:=Hd (iZ b v d B w g hB h);have k:Hid (yu b=(b.length==1&&cI b)):=rfl;obtain⟨p,c,rfl,_,f⟩:=g.rows;generalize cI b=x at *;generalize yu b=y at *;generalize b.length=n at *;clear f g
 go_enter Tryz.func133,Tryz.ntmps133
 cases l:((n:Int)==1)
 ·have a:(n==1)=false:=by simp at l ⊢;omega
  have i:=Hd a;clear a;go_wp2_with fail
  go_ret;exact⟨ah (by rw[k.o,i.o];rfl),EP _ _⟩
 ·have a:(n==1)=true:=by simp at l ⊢;omega
  have i:=Hd a;clear a;go_wp2_with fail
  refine EX m.o ?_;rintro e W2 ⟨rfl,j⟩;go_wp2_with fail
  go_ret;exact⟨ah (by rw[k.o,i.o];rfl),j⟩
theorem vO(a:List ab)(v:wF)(d B:Nat)(w:wD)(f:ao w B d a v)(hB:B≤w.heap.size)(g:a.length≤20000) :
  xL xD 135 #[v] w (am (B8 a) w):=by
 have j:=Hd (iZ a v d B w f hB g);have i:Hid (B8 a=(decide (0<a.length)&&cI a)):=rfl;obtain⟨p,c,rfl,_,b⟩:=f.rows;generalize cI a=x at *;generalize B8 a=y at *;generalize a.length=n at *;clear b f
 go_enter Tryz.func135,Tryz.ntmps135
 by_cases k:0<n
 ·have l:=Hd k;have m:(0:Int)<n:=by omega
  go_wp2_with fail
  refine EX j.o ?_;rintro e W2 ⟨rfl,h⟩;go_wp2_with fail
  go_ret;exact⟨ah (by rw[i.o];simp[l.o]),h⟩
 ·obtain rfl:n=0:=by omega
  go_wp2_with fail
  go_ret;exact⟨ah (by rw[i.o];rfl),EP _ _⟩
theorem ao.part{w:wD}{B d:Nat}{a:List ab}{b off c:Nat}(h:ao w B d a (A (Y ⟨b,off,U⟩) a.length c))(i m:Nat)(f:i+m≤a.length)(C:a.length≤c)(p:c≤maxLen) :
  ao w B d ((a.drop i).take m) (A (Y ⟨b,off+i*5,U⟩) m (c-i)):=by
 have hlen:((a.drop i).take m).length=m:=by simp;omega
 by_cases hm:m=0
 ·subst hm
  cases d with
  | zero=>exact⟨by simp,_,_,V⟩
  | succ d=>exact Or.inl ⟨by simp,_,_,V⟩
 ·rcases h.cases with ⟨q,_⟩|⟨d',b',o,cap,rfl,r,s,t,u,k,g⟩
  ·rw[q]at f;simp at f;omega
  ·injection k with l D v
   injection l with l
   injection l with x y
   subst x;subst y;subst v;refine Or.inr ⟨b,off+i*5,c-i,?_,s,by omega,by omega,by rw[hlen],fun j T n=>?_⟩
   ·intro e;rw[e]at hlen;simp at hlen;omega
   ·have z:j<m:=by have:=(Fe.1 n).1;omega
    rw[List.getElem?_take,rv z,List.getElem?_drop]at n;have:=g (i+j) T n;rw[Nat.add_mul]at this
    simpa only [Nat.add_assoc]using this
theorem ao.caps{w:wD}{B d:Nat}{i:List ab}{p:Option Bs}{n c:Nat}(h:ao w B d i (A p n c)):n=i.length∧(0<n→∃b off,p=Y ⟨b,off,U⟩∧b<B∧n≤c∧c≤maxLen):=by
 rcases h.cases with ⟨rfl,sp,cap,e⟩|⟨d',b',j,cap,rfl,l,m,a,f,g,k⟩
 ·injection e with _ e _
  subst e;exact⟨V,fun h=>absurd h (by omega)⟩
 ·injection g with o q r
  subst o;subst q;subst r;exact⟨V,fun _=>⟨_,_,V,m,a,f⟩⟩
theorem lC(W:wD):(sizeOf (Tryz.prog.elem 23)).run xD W=.ok 5 W:=by kernel_rfl
theorem vX(b off n c l h:Nat)(W:wD)(d:l<c)(e:l≤h)(f:h≤c) :
  (Instr.slice 23 (A (Y ⟨b,off,U⟩) n c) (Y (I Z l)) (Y (I Z h)) U).run xD W=.ok (A (Y ⟨b,off+l*5,U⟩) (h-l) (c-l)) W:=by
 rw[run_slice_lh W 23 (Y ⟨b,off,U⟩) n c (by kernel_rfl) Z Z l h (by omega) (by omega) (by omega),lC]
 show Result.ok (sliced _ _ _ _ _) W=_
 unfold sliced;rw[Int.toNat_natCast,Int.toNat_natCast,qv (by omega)];simp only[Option.map_some,Addr.add]
 by_cases a:l*5=0
 ·rw[rv a,a];rfl
 ·rw[qv a]
theorem xQ(b off n c l:Nat)(e:l≤n)(f:n≤c):∃q:Option Bs,(∀W:wD,(Instr.slice 23 (A (Y ⟨b,off,U⟩) n c) (Y (I Z l)) U U).run xD W=.ok (A q (n-l) (c-l)) W)∧(l<n→q=Y ⟨b,off+l*5,U⟩):=by
 refine⟨if c=l then Y ⟨b,off,U⟩ else Y ⟨b,off+l*5,U⟩,fun W=>?_,fun h=>by rw[qv (by omega)]⟩;rw[run_slice_l W 23 (Y ⟨b,off,U⟩) n c (by kernel_rfl) Z l (by omega) (by omega),lC]
 show Result.ok (sliced _ _ _ _ _) W=_
 unfold sliced;rw[Int.toNat_natCast]
 by_cases a:c=l
 ·rw[rv a,rv a]
 ·rw[qv a,qv a];simp only[Option.map_some,Addr.add]
  by_cases d:l*5=0
  ·rw[rv d,d];rfl
  ·rw[qv d]
theorem Bh(W:wD)(c:Nat):(Instr.slice 23 (A U 0 c) (Y (I Z ((0:Nat):Int))) U U).run xD W=.ok (A U 0 (c-0)) W:=by
 rw[run_slice_l W 23 U 0 c (by kernel_rfl) Z ((0:Nat):Int) (by omega) (by omega),lC]
 show Result.ok (sliced _ _ _ _ _) W=_
 unfold sliced
 by_cases a:c=0
 ·subst a;rfl
 ·rw[qv (by simpa using a)];rfl
theorem ao.tail{w:wD}{B d:Nat}{i:List ab}{p:Option Bs}{n c:Nat}(h:ao w B d i (A p n c))(k:Nat)(r:k≤n) :
  ∃q:Option Bs,(∀W:wD,(Instr.slice 23 (A p n c) (Y (I Z k)) U U).run xD W=.ok (A q (n-k) (c-k)) W)∧ao w B d (i.drop k) (A q (n-k) (c-k)):=by
 obtain⟨m,f⟩:=h.caps
 by_cases s:0<n
 ·obtain⟨b,off,rfl,v,o,hm⟩:=f s;obtain⟨q,t,u⟩:=xQ b off n c k r o;refine⟨q,t,?_⟩
  by_cases j:k<n
  ·rw[u j];subst m;have:=h.part k (i.length-k) (by omega) o hm
   rwa [Fg (by simp)]at this
  ·have e:n-k=0:=by omega
   rw[e]
   cases d with
   | zero=>exact⟨List.drop_eq_nil_of_le (by omega),_,_,V⟩
   | succ d=>exact Or.inl ⟨List.drop_eq_nil_of_le (by omega),_,_,V⟩
 ·obtain rfl:n=0:=by omega
  obtain rfl:k=0:=by omega
  have l:i=[]:=Fp m.symm;subst l
  cases p with
  | none =>
   refine⟨U,fun W=>Bh W c,?_⟩
   cases d with
   | zero=>exact⟨V,_,_,V⟩
   | succ d=>exact Or.inl ⟨V,_,_,V⟩
  | some a =>
   refine⟨Y a,fun W=>?_,?_⟩
   ·rw[run_slice_l W 23 (Y a) 0 c (by kernel_rfl) Z ((0:Nat):Int) (by omega) (by omega),lC]
    show Result.ok (sliced _ _ _ _ _) W=_
    unfold sliced
    by_cases g:c=0
    ·subst g;rfl
    ·rw[qv (by simpa using g)];simp[Addr.add]
   ·cases d with
    | zero=>exact⟨V,_,_,V⟩
    | succ d=>exact Or.inl ⟨V,_,_,V⟩
def Ex(w:wD) (b:List ab) (n:Nat) (i:wF) (W:wD):Prop:=∃(a:wD) (k:Nat),a=W∧k≤n∧i=I Z k∧FK w a∧(b.take k).all aO=wP
theorem kQ{α:Type}(p:α→Bool):∀(l:List α) (k:Nat),(l.take k).all p=wP→(l.drop k).head?.all (fun x=>!p x)=wP→l.dropWhile p=l.drop k:=by
 intro l
 induction l with
 | nil=>intro k _ _;simp
 | cons x l c =>
  intro k b a
  cases k with
  | zero =>
   rw[Fh]at a ⊢;simp only[List.head?_cons,Option.all_some,Bool.not_eq_true']at a;rw[List.dropWhile_cons,qv (by simp[a])]
  | succ k =>
   rw[EY,List.all_cons,Ff]at b;rw[List.dropWhile_cons,rv b.1,EZ];exact c k b.2 a
theorem qP{a:wD}{p q:Option Bs}{n c k:Nat}{b:List ab}
  (h:∀W2,FK a W2→∃q:Option Bs,(∀W:wD,(Instr.slice 23 (A p n c) (Y (I Z k)) U U).run xD W=.ok (A q (n-k) (c-k)) W)∧
    xL xD 210 #[A q (n-k) (c-k),xV (Y ⟨W2.heap.size+1,0,U⟩)] ((W2.alloc (wq #[I O 8,I O 9,I O 10,I O 11] 22)).alloc (wq #[A (Y ⟨W2.heap.size,0,U⟩) 4 4] 179)) (am (bG [8,9,10,11] (b.drop k)) W2))
  {d:wD} (e:FK a d)
  (f:∀W:wD,(Instr.slice 23 (A p n c) (Y (I Z k)) U U).run xD W=.ok (A q (n-k) (c-k)) W) :
  ∀W2,FK d W2→xL xD 210 #[A q (n-k) (c-k),xV (Y ⟨W2.heap.size+1,0,U⟩)] ((W2.alloc (wq #[I O 8,I O 9,I O 10,I O 11] 22)).alloc (wq #[A (Y ⟨W2.heap.size,0,U⟩) 4 4] 179)) (am (bG [8,9,10,11] (b.drop k)) W2):=by
 intro W2 g;obtain⟨l,i,j⟩:=h W2 (e.trans (g.mono e.size));have:=(f a).symm.trans (i a);simp only[Result.ok.injEq,Value.slice.injEq,and_true]at this;rw[this];exact j
theorem wk(a:List ab)(v:wF)(d B:Nat)(w:wD)(Q:ao w B d a v)(hB:B≤w.heap.size)(ak:a.length≤20000) :
  xL xD 132 #[v] w (am (rowB a) w):=by
 have K:=Q;obtain⟨p,c,rfl,_,S⟩:=Q.rows;obtain⟨n,hn⟩:=zzy (a.length);have j:=(ao.caps Q).2;rw[hn]at ak K j ⊢;obtain⟨m,HK,al⟩:=zz3 hn K j;clear S Q hn K j
 go_enter Tryz.func132,Tryz.ntmps132
 go_wp2_with fail
 go_loopw [3] (Ex w a n) (fun i _=>n-(intOf i).toNat)
 case atStart=>exact⟨_,0,V,Fa _,V,EP _ _,V⟩
 case round =>
  obtain⟨L,k,rfl,Q,rfl,f,G⟩:=hrel;obtain⟨HA,E⟩:=zz2 G f;clear G;have s:∀W2,FK L W2→∃q:Option Bs,(∀W:wD,(Instr.slice 23 (A p n c) (Y (I Z k)) U U).run xD W=.ok (A q (n-k) (c-k)) W)∧
    xL xD 210 #[A q (n-k) (c-k),xV (Y ⟨W2.heap.size+1,0,U⟩)] ((W2.alloc (wq #[I O 8,I O 9,I O 10,I O 11] 22)).alloc (wq #[A (Y ⟨W2.heap.size,0,U⟩) 4 4] 179)) (am (bG [8,9,10,11] (a.drop k)) W2):=by
   intro W2 g;have u:=f.trans (g.mono f.size);obtain⟨q,h1,h2⟩:=(HK.o.z (u.mono hB)).tail k Q;exact⟨q,h1,nz [8,9,10,11] (by decide) _ V 4 V (a.drop k) _ d B W2 h2 (EU hB u.size) (by rw[List.length_drop,m.o];omega)⟩
  have F:=Hd s;clear s
  by_cases h:k<n
  ·obtain⟨t,ht⟩:∃t,a[k]?=Y t:=⟨a[k]'(by rw[m.o];exact h),ES (by rw[m.o];exact h)⟩;obtain⟨b,off,rfl,ba,aq,ar⟩:=al.o (by omega);have av:=HK.o.z (f.mono hB)
   have x:=Hd (fun W2 (g:FK L W2)=>(by
    have u:=f.trans (g.mono f.size);have T:=HK.o.z (u.mono hB);rw[←m.o]at T;have h1:=T.part k 1 (by rw[m.o];omega) (by rw[m.o];exact aq) ar;exact nz [5,6,7] (by decide) #[I O 5,I O 6,I O 7] V 3 V ((a.drop k).take 1) _ d B W2 h1 (EU hB u.size) (by simp;omega) :
    Calls Tryz.prog 210 #[.slice (some ⟨b,off+k*5,none⟩) 1 (c-k),.pointer (some ⟨W2.heap.size+1,0,none⟩)] ((W2.alloc (.cells #[.int .u8 5,.int .u8 6,.int .u8 7] 22)).alloc (.cells #[.slice (some ⟨W2.heap.size,0,none⟩) 3 3] 179)) (am (bG [5,6,7] ((a.drop k).take 1)) W2)))
   have H:∀W:wD,(Instr.slice 23 (A (Y ⟨b,off,U⟩) n c) (Y (I Z k)) (Y (I Z ((k:Int)+1))) U).run xD W=.ok (A (Y ⟨b,off+k*5,U⟩) 1 (c-k)) W:=by
    intro W;have:=vX b off n c k (k+1) W (by omega) (by omega) (by omega);rw[Nat.add_sub_cancel_left]at this;exact this
   have HT:=Hd ht;have X:bG [5,6,7] ((a.drop k).take 1)=aO t:=by
    rw[List.drop_eq_getElem_cons (by rw[m.o];exact h)];have:a[k]'(by rw[m.o];exact h)=t:=by
     have:=HT.o;rw[ES (by rw[m.o];exact h)]at this;exact tE this
    rw[this];simp[bG,aO]
   rw[X]at x;clear av ht X;have bb:(0:Int)≤k:=by omega
   have bc:(k:Int)<n:=by omega
   have bd:IntKind.i64.wrap ((k:Int)+1)=(k:Int)+1:=IntWalk.i64_in _ (by omega)
   cases r:aO t
   ·rw[r]at x;have y:Hid (rowB a=bG [8,9,10,11] (a.drop k)):=by
     show _=_
     unfold rowB;rw[kQ aO a k HA.o];rw[List.drop_eq_getElem_cons (by rw[m.o];exact h)];have:a[k]'(by rw[m.o];exact h)=t:=by
      have:=HT.o;rw[ES (by rw[m.o];exact h)]at this;exact tE this
     rw[this];simp[r]
    clear r;go_wp2_with fail
    go_region_held3 (fun w'=>True)
     (first|exact trivial)
     (first
      | (go_at_call 131;refine (aY _ _ _ _).mono ?_;rintro e R ⟨rfl,rfl⟩)
      | (go_at_call 210;refine EX (x.o _ (EP _ L).drew) ?_;rintro e R ⟨rfl,z⟩))
    have C:=Hd ((EP _ L).drew.trans z);clear z H;obtain⟨q,l,_⟩:=F.o R C.o;obtain⟨M,D⟩:=zz2 (qP F.o C.o l) (E.o.trans (C.o.mono E.o.size));go_wp2_with fail
    go_region_held3 (fun w'=>True)
     (first|exact trivial)
     (first
      | (go_at_call 131;refine (aY _ _ _ _).mono ?_;rintro e w7 ⟨rfl,rfl⟩)
      | (go_at_call 210;refine EX (M.o _ (EP _ R).drew) ?_;rintro e w7 ⟨rfl,N⟩))
    go_wp2_with fail
    go_ret;exact⟨ah y.o.symm,D.o.trans (((EP _ R).drew.trans N).mono D.o.size)⟩
   ·rw[r]at x;have a1:=Hd r;clear r;go_wp2_with fail
    go_region_held3 (fun w'=>True)
     (first|exact trivial)
     (first
      | (go_at_call 131;refine (aY _ _ _ _).mono ?_;rintro e R ⟨rfl,rfl⟩)
      | (go_at_call 210;refine EX (x.o _ (EP _ L).drew) ?_;rintro e R ⟨rfl,z⟩))
    have C:=Hd ((EP _ L).drew.trans z);clear z H;go_wp2_with fail
    exact⟨⟨_,k+1,V,by omega,by go_num,E.o.trans (C.o.mono E.o.size),jd aO a k t HT.o HA.o a1.o⟩,by simp[intOf];omega⟩
  ·obtain rfl:k=n:=by omega
   have y:Hid (rowB a=bG [8,9,10,11] (a.drop k)):=by
    show _=_
    unfold rowB;rw[kQ aO a k HA.o];rw[List.drop_eq_nil_of_le (by rw[m.o];exact EO _)];rfl
   obtain⟨q,l,_⟩:=F.o L (EP _ _);have P:=qP F.o (EP _ _) l;rw[Nat.sub_self]at l P;have M:=Hd P;clear P;have D:=Hd f;clear f;go_wp2_with fail
   refine au (by kernel_rfl) (by kernel_rfl) ?_
   repeat (go_big_quiet_step (fail))
   refine wpQuiet_nil ?_;intro W2 ad;have g:=a7 ad;clear ad;have a6:=Hd (fun W3 (h3:FK W2 W3)=>M.o W3 (g.trans (h3.mono g.size)));have af:=Hd (D.o.trans (g.mono D.o.size));clear g;go_wp2_with fail
   go_region_held3 (fun w'=>True)
    (first|exact trivial)
    (first
     | (go_at_call 131;refine (aY _ _ _ _).mono ?_;rintro e w7 ⟨rfl,rfl⟩)
     | (go_at_call 210;refine EX (a6.o _ (EP _ W2).drew) ?_;rintro e w7 ⟨rfl,N⟩))
   go_wp2_with fail
   go_ret;exact⟨ah y.o.symm,af.o.trans (((EP _ W2).drew.trans N).mono af.o.size)⟩
