/- Parts of one proof, joined; conditions stand in each theorem. -/
import Derived.Test.YtmpekinjoeibbaaGreatDoorMD
import Derived.Deep.RegionHeld3
open Go renaming World→p7,Value→r3,Calls→r9,Addr→vv
open Go.Value renaming slice→O,int→I,bool→ur,pointer→tv,string→p9
open Option renaming none→V,some→A
open Go.IntKind renaming u8→J,i64→Y
open Bool renaming false→r7,true→r5
open Go.Proofs.Tryz renaming prog→r6
open Go.Ending renaming returned→tF
open Go.Obj renaming cells→p8
namespace Go.Proofs.YtmpekinjoeibbaaGreatDoor
set_option maxHeartbeats 2000000
set_option maxRecDepth 100000
open Go.RowKit
def gC(w:p7) (S:List Nat) (v:r3):Prop:=
 (S=[]∧v=O V 0 0)∨∃b off cap,v=O (A ⟨b,off,V⟩) S.length cap∧S.length≤100∧b<w.heap.size∧∀(i k:Nat),S[i]?=A k→w.cell? ⟨b,off+i,V⟩=A (I J (k:Int))
theorem gC.C{w w':p7}{S:List Nat}{v:r3}(h:gC w S v)(c:FS w w'):gC w' S v:=by
 rcases h with h|⟨b,off,cap,hv,d,a,e⟩
 ·exact Or.inl h
 ·exact Or.inr ⟨b,off,cap,hv,d,EY a c.size,fun i k f=>(c.cell (p:=⟨b,off+i,V⟩) a).trans (e i k f)⟩
theorem gC.b{w:p7}{S:List Nat}{v:r3}(h:gC w S v):∃p c,v=O p S.length c∧S.length≤100∧∀(i k:Nat),S[i]?=A k→∃b off,p=A ⟨b,off,V⟩∧w.cell? ⟨b,off+i,V⟩=A (I J (k:Int)):=by
 rcases h with ⟨rfl,rfl⟩|⟨b,off,cap,rfl,d,_,e⟩
 ·exact⟨V,0,Z,by simp,fun i k a=>by simp at a⟩
 ·exact⟨_,cap,Z,d,fun i k a=>⟨b,off,Z,e i k a⟩⟩
theorem wM{α:Type}(p:α→Bool)(l:List α)(k:Nat)(x:α)(a:l[k]?=A x)(h:(l.take k).any p=r7)(b:p x=r7):(l.take (k+1)).any p=false:=by rw[FI,a,List.any_append,h];simp[b]
theorem DV{α:Type}(p:α→Bool)(l:List α)(k:Nat)(x:α)(a:l[k]?=A x)(h:p x=r5):l.any p=true:=
 List.any_eq_true.2 ⟨x,Fv a,h⟩
theorem yR(S:List Nat)(v:r3)(x:Nat)(w:p7)(h:gC w S v) :
  r9 r6 230 #[v,I J (x:Int)] w fun e w'=>(∃i:Int,e=tF (I Y i)∧decide (0≤i)=S.any (· == x))∧w=w':=by
 obtain⟨p,c,rfl,u,q⟩:=h.b;obtain⟨n,f⟩:=zzy (S.length);rw[f]at u ⊢;obtain⟨z,g⟩:=zz2 q f;clear q f h
 go_enter Tryz.func230,Tryz.ntmps230
 go_wp2_with fail
 go_loop [8,5] (fun i _=>∃k:Nat,k≤n∧i=I Y k∧(S.take k).any (· == x)=r7) (fun i _=>n-(intOf i).toNat)
 case atStart=>exact⟨0,Fi _,Z,Z⟩
 case round =>
  obtain⟨k,B,rfl,a⟩:=hrel;have r:=Hd a;clear a
  by_cases d:k<n
  ·obtain⟨y,j⟩:∃y,S[k]?=A y:=⟨S[k]'(by rw[g.o];exact d),EX (by rw[g.o];exact d)⟩;obtain⟨b,off,rfl,l⟩:=z.o k y j;have s:=Hd j;clear j
   cases t:((x:Int)==(y:Int))
   ·have m:=Hd t;go_wp2_with fail
    go_round
    case rel =>
     refine⟨k+1,by omega,by go_num,wM (· == x) _ _ _ s.o r.o ?_⟩;have:=m.o;simp at this ⊢;omega
    case measure=>simp[intOf];omega
   ·have m:=Hd t;go_wp2_with fail
    go_ret;refine⟨⟨k,Z,?_⟩,Z⟩;rw[DV (· == x) _ _ _ s.o (by have:=m.o;simp at this ⊢;omega)];simp
  ·go_wp2_with fail
   go_ret;refine⟨⟨-1,Z,?_⟩,Z⟩;have e:S.take k=S:=Fq (by rw[g.o];omega);have:=r.o;rw[e]at this;rw[this];rfl
theorem ta(S:List Nat)(v:r3)(x:Nat)(w:p7)(h:gC w S v) :
  r9 r6 215 #[v,I J (x:Int)] w fun e w'=>e=tF (ur (S.contains x))∧w=w':=by
 have a:=Hd (yR S v x w h);have he:S.any (· == x)=S.contains x:=by rw[List.contains_eq_any_beq];congr 1;funext y;rw[Bool.beq_comm]
 rw[he]at a;clear he h
 go_enter Tryz.func215,Tryz.ntmps215
 go_wp2_with (go_at_call 230;refine Ff a.o ?_;rintro e w' ⟨⟨i,rfl,b⟩,rfl⟩;have c:=Hd b;clear b)
 go_ret;exact⟨by rw[←c.o];rfl,Z⟩
theorem aT(p:Option vv)(n c:Nat)(w:p7) :
  r9 r6 175 #[O p n c] w fun e w'=>e=tF (Value.func (.func 214) #[] #[tv (A ⟨w.heap.size,0,V⟩)])∧w'=w.alloc (p8 #[O p n c] 367):=by
 go_enter Tryz.func175,Tryz.ntmps175
 go_wp2_with fail
 go_ret;exact⟨Z,Z⟩
def Dh(w:p7) (S:List Nat) (b:List ah) (n:Nat) (i:r3) (W:p7):Prop:=∃(a:p7) (k:Nat),a=W∧k≤n∧i=I Y k∧FS w a∧du S (b.take k)=r5
theorem yM(S:List Nat)(a:List ah)(k:Nat)(t:ah)(h:a[k]?=A t)(b:du S (a.take k)=r5)(c:S.contains t.b=r5):du S (a.take (k+1))=true:=by
 unfold du at *;rw[FI,h,List.all_append,b]
 simpa using c
theorem Cb(S:List Nat)(a:List ah)(k:Nat)(t:ah)(h:a[k]?=A t)(b:S.contains t.b=r7):du S a=false:=by
 unfold du;rw[List.all_eq_false];exact⟨t,Fv h,by simpa using b⟩
theorem jF(S:List Nat)(h:List ah)(v N:r3)(d B b:Nat)(w:p7)(D:aF w B d h v)(hB:B≤w.heap.size)(E:h.length≤20000)(F:gC w S N)(P:b<w.heap.size)(Q:w.cell? ⟨b,0,V⟩=A N) :
  r9 r6 214 #[v,tv (A ⟨b,0,V⟩)] w (ao (du S h) w):=by
 obtain⟨p,c,rfl,_,m⟩:=D.h;obtain⟨q,cq,rfl,_,_⟩:=F.b;obtain⟨n,G⟩:=zzy (h.length);rw[G]at E ⊢;obtain⟨H,x,U,X⟩:=zz4 G m F Q;clear m F D G Q
 go_enter Tryz.func214,Tryz.ntmps214
 go_wp2_with fail
 go_loopw [8] (Dh w S h n) (fun i _=>n-(intOf i).toNat)
 case atStart=>exact⟨_,0,Z,Fi _,Z,EU _ _,Z⟩
 case round =>
  obtain⟨C,k,rfl,D,rfl,a,r⟩:=hrel;obtain⟨R,g⟩:=zz2 r a;clear r
  by_cases y:k<n
  ·obtain⟨t,K⟩:∃t,h[k]?=A t:=⟨h[k]'(by rw[H.o];exact y),EX (by rw[H.o];exact y)⟩;obtain⟨_,b',off,rfl,L,s⟩:=x.o k t K;obtain⟨p',l',c',d0,d1,d2,d3,d4,_⟩:=s.node (a.mono hB) L;have ad:=(a.cell (p:=⟨b,0,V⟩) P).trans X.o;have af:=EY P a.size;obtain⟨M,T⟩:=zz2 (U.o.C a) K;have ak:(0:Int)≤k:=by omega
   have aq:(k:Int)<n:=by omega
   have z:∀o:Obj,FS C (C.alloc o):=fun o=>(EU _ C).alloc (ET _) o
   have j:=Hd (fun W (hW:FS C W)=>ta S _ t.b W (M.o.C hW));have l:=Hd z;clear s K a z
   cases f:S.contains t.b
   ·rw[f]at j;have u:=Hd f;clear f;go_wp2_with fail
    refine Ff (j.o _ (l.o _)) ?_;rintro e W2 ⟨rfl,rfl⟩;go_wp2_with fail
    go_ret;exact⟨bI (Cb S h k t T.o u.o).symm,g.o.trans ((l.o _).mono g.o.size)⟩
   ·rw[f]at j;have u:=Hd f;clear f;go_wp2_with fail
    refine Ff (j.o _ (l.o _)) ?_;rintro e W2 ⟨rfl,rfl⟩;go_wp2_with fail
    exact⟨⟨_,k+1,Z,by omega,by go_num,g.o.trans ((l.o _).mono g.o.size),yM S h k t T.o R.o u.o⟩,by simp[intOf];omega⟩
  ·obtain rfl:k=n:=by omega
   go_wp2_with fail
   go_ret;refine⟨bI ?_,g.o⟩;have:=R.o;rw[Fq (by rw[H.o];exact ET _)]at this;exact this.symm
theorem mp(l:List UInt8):Lib.hasPrefix l [45]=fh l:=by
 unfold Lib.hasPrefix fh
 cases l with
 | nil=>rfl
 | cons c r =>
  by_cases h:c=45
  ·subst h;rfl
  ·have:(45==c)=false:=by simpa using fun e:(45:UInt8)=c=>h e.symm
   simp only[List.isPrefixOf,this,Bool.false_and]
   split
   ·rename_i heq;injection heq with heq;exact absurd heq h
   ·rfl
theorem rf(s:ByteArray)(w:p7):r9 r6 172 #[p9 s,p9 ⟨#[45]⟩] w fun e w'=>e=tF (ur (fh s.data.toList))∧w=w':=
 (Tryz.strings_HasPrefix s ⟨#[45]⟩ w).mono fun e w' ⟨a,b⟩=>⟨by rw[a,←mp],b.symm⟩
def lU(t:ah):Bool:=t.b==14&&fh t.h.data.toList
theorem rU(l:List ah):gw l=(l.all (fun t=>!lU t)&&du [13,14,15,16] l):=rfl
theorem pO{α:Type}(p:α→Bool)(l:List α)(k:Nat)(x:α)(a:l[k]?=A x)(h:(l.take k).all p=r5)(b:p x=r5):(l.take (k+1)).all p=true:=by rw[FI,a,List.all_append,h];simpa using b
theorem D3{α:Type}(p:α→Bool)(l:List α)(k:Nat)(x:α)(a:l[k]?=A x)(b:p x=r7):l.all p=false:=by rw[List.all_eq_false];exact⟨x,Fv a,by simp[b]⟩
def Es(w:p7) (p:ah→Bool) (b:List ah) (n:Nat) (i:r3) (W:p7):Prop:=∃(a:p7) (k:Nat),a=W∧k≤n∧i=I Y k∧FS w a∧(b.take k).all p=r5
theorem AO(w:p7)(S:List Nat)(a:S.length≤100)(arr:Array r3)(b:arr=(S.map fun k:Nat=>I J (k:Int)).toArray)(n:Nat)(c:S.length=n):gC (w.alloc (p8 arr 61)) S (O (A ⟨w.heap.size,0,V⟩) n n):=by
 subst b;subst c;refine Or.inr ⟨w.heap.size,0,S.length,Z,a,by simp,fun i k d=>?_⟩;rw[FR _ _ _ _ _ _ (ot w _)];simp[d]
theorem mO(S:List Nat)(h:S.length≤100)(arr:Array r3)(i:arr=(S.map fun k:Nat=>I J (k:Int)).toArray)(n:Nat)(j:S.length=n)(c:List ah)(v:r3)(d B:Nat)(a:p7)
  (l:aF a B d c v) (hB:B≤a.heap.size) (f:c.length≤20000) :
  r9 r6 214 #[v,tv (A ⟨a.heap.size+1,0,V⟩)] ((a.alloc (p8 arr 61)).alloc (p8 #[O (A ⟨a.heap.size,0,V⟩) n n] 367)) (ao (du S c) a):=by
 have b:=gi a (p8 arr 61) (p8 #[O (A ⟨a.heap.size,0,V⟩) n n] 367);have g:=(AO a S h arr i n j).C ((EU _ _).alloc (ET _) (p8 #[O (A ⟨a.heap.size,0,V⟩) n n] 367));have m:=(ay a (p8 arr 61) (p8 #[O (A ⟨a.heap.size,0,V⟩) n n] 367)).2.1;have o:=FR _ _ 0 _ _ _ m;refine (jF S c v _ d B (a.heap.size+1) _ (l.C (b.mono hB)) (EZ hB b.size) f g (by simp) o).mono ?_;rintro e W ⟨he,p⟩;exact⟨he,b.trans (p.mono b.size)⟩
theorem iT(f:List ah)(v:r3)(d B:Nat)(w:p7)(C:aF w B d f v)(hB:B≤w.heap.size)(r:f.length≤20000) :
  r9 r6 178 #[v] w (ao (gw f) w):=by
 have m:=C;obtain⟨p,c,rfl,_,g⟩:=C.h;obtain⟨n,F⟩:=zzy (f.length);rw[F]at r m ⊢;obtain⟨D,s,R⟩:=zz3 F g m;clear g C F m
 go_enter Tryz.func178,Tryz.ntmps178
 go_wp2_with fail
 go_loopw [7] (Es w (fun t=>!lU t) f n) (fun i _=>n-(intOf i).toNat)
 case atStart=>exact⟨_,0,Z,Fi _,Z,EU _ _,Z⟩
 case round =>
  obtain⟨E,k,rfl,C,rfl,b,h⟩:=hrel;obtain⟨G,a⟩:=zz2 h b;clear h
  by_cases u:k<n
  ·obtain⟨t,H⟩:∃t,f[k]?=A t:=⟨f[k]'(by rw[D.o];exact u),EX (by rw[D.o];exact u)⟩;obtain⟨_,b',off,rfl,K,j⟩:=s.o k t H;obtain⟨p',l',c',d0,d1,d2,d3,d4,_⟩:=j.node (b.mono hB) K;have L:=Hd H;have S:(0:Int)≤k:=by omega
   have T:(k:Int)<n:=by omega
   have x:∀o:Obj,FS E (E.alloc o):=fun o=>(EU _ E).alloc (ET _) o
   obtain⟨P,q⟩:=zz2 (fun W=>rf t.h W) x;clear j H b x
   cases y:((t.b:Int)==14)
   ·have M:=Hd (show (!lU t)=r5 by unfold lU;rw[show (t.b==14)=r7 by simp at y ⊢;omega];rfl);go_wp2_with fail
    exact⟨⟨_,k+1,Z,by omega,by go_num,a.o.trans ((q.o _).mono a.o.size),pO _ f k t L.o G.o M.o⟩,by simp[intOf];omega⟩
   ·have l:(t.b==14)=true:=by simp at y ⊢;omega
    have Q:Hid (lU t=fh t.h.data.toList):=by
     show lU t=_
     unfold lU;rw[l];rfl
    clear l;generalize fh t.h.data.toList=U at *
    cases U
    ·go_wp2_with fail
     refine Ff (P.o _) ?_;rintro e W2 ⟨rfl,rfl⟩;go_wp2_with fail
     exact⟨⟨_,k+1,Z,by omega,by go_num,a.o.trans ((q.o _).mono a.o.size),pO _ f k t L.o G.o (by show (!lU t)=r5;rw[Q.o];rfl)⟩,by simp[intOf];omega⟩
    ·go_wp2_with fail
     refine Ff (P.o _) ?_;rintro e W2 ⟨rfl,rfl⟩;go_wp2_with fail
     go_ret;refine⟨bI ?_,a.o.trans ((q.o _).mono a.o.size)⟩;rw[rU,D3 _ f k t L.o (by show (!lU t)=r7;rw[Q.o];rfl)];rfl
  ·obtain rfl:k=n:=by omega
   have X:=Hd (mO [13,14,15,16] (by decide) #[I J 13,I J 14,I J 15,I J 16] Z 4 Z f _ d B E (R.o.C (b.mono hB)) (EZ hB b.size) (by rw[D.o];exact r));clear b;go_wp2_with (go_at_call 175;refine (aT _ _ _ _).mono ?_;rintro e W2 ⟨rfl,rfl⟩)
   refine Ff X.o ?_;rintro e W2 ⟨rfl,z⟩;have N:=Hd (a.o.trans (z.mono a.o.size));clear z;go_wp2_with fail
   go_ret;refine⟨bI ?_,N.o⟩;have:=G.o;rw[Fq (by rw[D.o];exact ET _)]at this;rw[rU,this];rfl
def yQ(l:List ah):Bool:=l.length==1&&gw l
def Cf(l:List ah):Bool:=decide (0<l.length)&&gw l
theorem wI(b:List ah)(v:r3)(d B:Nat)(w:p7)(g:aF w B d b v)(hB:B≤w.heap.size)(h:b.length≤20000) :
  r9 r6 177 #[v] w (ao (yQ b) w):=by
 have m:=Hd (iT b v d B w g hB h);have k:Hid (yQ b=(b.length==1&&gw b)):=rfl;obtain⟨p,c,rfl,_,f⟩:=g.h;generalize gw b=x at *;generalize yQ b=y at *;generalize b.length=n at *;clear f g
 go_enter Tryz.func177,Tryz.ntmps177
 cases l:((n:Int)==1)
 ·have a:(n==1)=false:=by simp at l ⊢;omega
  have i:=Hd a;clear a;go_wp2_with fail
  go_ret;exact⟨bI (by rw[k.o,i.o];rfl),EU _ _⟩
 ·have a:(n==1)=true:=by simp at l ⊢;omega
  have i:=Hd a;clear a;go_wp2_with fail
  refine Ff m.o ?_;rintro e W2 ⟨rfl,j⟩;go_wp2_with fail
  go_ret;exact⟨bI (by rw[k.o,i.o];rfl),j⟩
theorem wk(a:List ah)(v:r3)(d B:Nat)(w:p7)(f:aF w B d a v)(hB:B≤w.heap.size)(g:a.length≤20000) :
  r9 r6 179 #[v] w (ao (Cf a) w):=by
 have j:=Hd (iT a v d B w f hB g);have i:Hid (Cf a=(decide (0<a.length)&&gw a)):=rfl;obtain⟨p,c,rfl,_,b⟩:=f.h;generalize gw a=x at *;generalize Cf a=y at *;generalize a.length=n at *;clear b f
 go_enter Tryz.func179,Tryz.ntmps179
 by_cases k:0<n
 ·have l:=Hd k;have m:(0:Int)<n:=by omega
  go_wp2_with fail
  refine Ff j.o ?_;rintro e W2 ⟨rfl,h⟩;go_wp2_with fail
  go_ret;exact⟨bI (by rw[i.o];simp[l.o]),h⟩
 ·obtain rfl:n=0:=by omega
  go_wp2_with fail
  go_ret;exact⟨bI (by rw[i.o];rfl),EU _ _⟩
theorem aF.part{w:p7}{B d:Nat}{a:List ah}{b off c:Nat}(h:aF w B d a (O (A ⟨b,off,V⟩) a.length c))(i m:Nat)(f:i+m≤a.length)(C:a.length≤c)(p:c≤maxLen) :
  aF w B d ((a.drop i).take m) (O (A ⟨b,off+i*5,V⟩) m (c-i)):=by
 have hlen:((a.drop i).take m).length=m:=by simp;omega
 by_cases hm:m=0
 ·subst hm
  cases d with
  | zero=>exact⟨by simp,_,_,Z⟩
  | succ d=>exact Or.inl ⟨by simp,_,_,Z⟩
 ·rcases h.cases with ⟨q,_⟩|⟨D,b',o,cap,rfl,r,s,t,u,k,g⟩
  ·rw[q]at f;simp at f;omega
  ·injection k with l E v
   injection l with l
   injection l with x y
   subst x;subst y;subst v;refine Or.inr ⟨b,off+i*5,c-i,?_,s,by omega,by omega,by rw[hlen],fun j T n=>?_⟩
   ·intro e;rw[e]at hlen;simp at hlen;omega
   ·have z:j<m:=by have:=(Fo.1 n).1;omega
    rw[List.getElem?_take,oA z,List.getElem?_drop]at n;have:=g (i+j) T n;rw[Nat.add_mul]at this
    simpa only [Nat.add_assoc]using this
theorem aF.caps{w:p7}{B d:Nat}{i:List ah}{p:Option vv}{n c:Nat}(h:aF w B d i (O p n c)):n=i.length∧(0<n→∃b off,p=A ⟨b,off,V⟩∧b<B∧n≤c∧c≤maxLen):=by
 rcases h.cases with ⟨rfl,sp,cap,e⟩|⟨s,b',j,cap,rfl,l,m,a,f,g,k⟩
 ·injection e with _ e _
  subst e;exact⟨Z,fun h=>absurd h (by omega)⟩
 ·injection g with o q r
  subst o;subst q;subst r;exact⟨Z,fun _=>⟨_,_,Z,m,a,f⟩⟩
theorem kY(W:p7):(sizeOf (Tryz.prog.elem 62)).run r6 W=.ok 5 W:=by kernel_rfl
theorem wE(b off n c l h:Nat)(W:p7)(d:l<c)(e:l≤h)(f:h≤c) :
  (Instr.slice 62 (O (A ⟨b,off,V⟩) n c) (A (I Y l)) (A (I Y h)) V).run r6 W=.ok (O (A ⟨b,off+l*5,V⟩) (h-l) (c-l)) W:=by
 rw[run_slice_lh W 62 (A ⟨b,off,V⟩) n c (by kernel_rfl) Y Y l h (by omega) (by omega) (by omega),kY]
 show Result.ok (sliced _ _ _ _ _) W=_
 unfold sliced;rw[Int.toNat_natCast,Int.toNat_natCast,ox (by omega)];simp only[Option.map_some,Addr.add]
 by_cases a:l*5=0
 ·rw[oA a,a];rfl
 ·rw[ox a]
theorem yp(b off n c l:Nat)(e:l≤n)(f:n≤c):∃q:Option vv,(∀W:p7,(Instr.slice 62 (O (A ⟨b,off,V⟩) n c) (A (I Y l)) V V).run r6 W=.ok (O q (n-l) (c-l)) W)∧(l<n→q=A ⟨b,off+l*5,V⟩):=by
 refine⟨if c=l then A ⟨b,off,V⟩ else A ⟨b,off+l*5,V⟩,fun W=>?_,fun h=>by rw[ox (by omega)]⟩;rw[run_slice_l W 62 (A ⟨b,off,V⟩) n c (by kernel_rfl) Y l (by omega) (by omega),kY]
 show Result.ok (sliced _ _ _ _ _) W=_
 unfold sliced;rw[Int.toNat_natCast]
 by_cases a:c=l
 ·rw[oA a,oA a]
 ·rw[ox a,ox a];simp only[Option.map_some,Addr.add]
  by_cases d:l*5=0
  ·rw[oA d,d];rfl
  ·rw[ox d]
theorem Bp(W:p7)(c:Nat):(Instr.slice 62 (O V 0 c) (A (I Y ((0:Nat):Int))) V V).run r6 W=.ok (O V 0 (c-0)) W:=by
 rw[run_slice_l W 62 V 0 c (by kernel_rfl) Y ((0:Nat):Int) (by omega) (by omega),kY]
 show Result.ok (sliced _ _ _ _ _) W=_
 unfold sliced
 by_cases a:c=0
 ·subst a;rfl
 ·rw[ox (by simpa using a)];rfl
theorem aF.tail{w:p7}{B d:Nat}{i:List ah}{p:Option vv}{n c:Nat}(h:aF w B d i (O p n c))(k:Nat)(r:k≤n) :
  ∃q:Option vv,(∀W:p7,(Instr.slice 62 (O p n c) (A (I Y k)) V V).run r6 W=.ok (O q (n-k) (c-k)) W)∧aF w B d (i.drop k) (O q (n-k) (c-k)):=by
 obtain⟨m,f⟩:=h.caps
 by_cases s:0<n
 ·obtain⟨b,off,rfl,v,o,hm⟩:=f s;obtain⟨q,t,u⟩:=yp b off n c k r o;refine⟨q,t,?_⟩
  by_cases j:k<n
  ·rw[u j];subst m;have:=h.part k (i.length-k) (by omega) o hm
   rwa [Fq (by simp)]at this
  ·have e:n-k=0:=by omega
   rw[e]
   cases d with
   | zero=>exact⟨List.drop_eq_nil_of_le (by omega),_,_,Z⟩
   | succ d=>exact Or.inl ⟨List.drop_eq_nil_of_le (by omega),_,_,Z⟩
 ·obtain rfl:n=0:=by omega
  obtain rfl:k=0:=by omega
  have l:i=[]:=Fy m.symm;subst l
  cases p with
  | none =>
   refine⟨V,fun W=>Bp W c,?_⟩
   cases d with
   | zero=>exact⟨Z,_,_,Z⟩
   | succ d=>exact Or.inl ⟨Z,_,_,Z⟩
  | some a =>
   refine⟨A a,fun W=>?_,?_⟩
   ·rw[run_slice_l W 62 (A a) 0 c (by kernel_rfl) Y ((0:Nat):Int) (by omega) (by omega),kY]
    show Result.ok (sliced _ _ _ _ _) W=_
    unfold sliced
    by_cases g:c=0
    ·subst g;rfl
    ·rw[ox (by simpa using g)];simp[Addr.add]
   ·cases d with
    | zero=>exact⟨Z,_,_,Z⟩
    | succ d=>exact Or.inl ⟨Z,_,_,Z⟩
def Ew(w:p7) (b:List ah) (n:Nat) (i:r3) (W:p7):Prop:=∃(a:p7) (k:Nat),a=W∧k≤n∧i=I Y k∧FS w a∧(b.take k).all de=r5
theorem mD{α:Type}(p:α→Bool):∀(l:List α) (k:Nat),(l.take k).all p=r5→(l.drop k).head?.all (fun x=>!p x)=r5→l.dropWhile p=l.drop k:=by
 intro l
 induction l with
 | nil=>intro k _ _;simp
 | cons x l c =>
  intro k b a
  cases k with
  | zero =>
   rw[Ft]at a ⊢;simp only[List.head?_cons,Option.all_some,Bool.not_eq_true']at a;rw[List.dropWhile_cons,ox (by simp[a])]
  | succ k =>
   rw[Fg,List.all_cons,Fp]at b;rw[List.dropWhile_cons,oA b.1,Fh];exact c k b.2 a
theorem qz{a:p7}{p q:Option vv}{n c k:Nat}{b:List ah}
  (h:∀W2,FS a W2→∃q:Option vv,(∀W:p7,(Instr.slice 62 (O p n c) (A (I Y k)) V V).run r6 W=.ok (O q (n-k) (c-k)) W)∧
    r9 r6 214 #[O q (n-k) (c-k),tv (A ⟨W2.heap.size+1,0,V⟩)] ((W2.alloc (p8 #[I J 8,I J 9,I J 10,I J 11] 61)).alloc (p8 #[O (A ⟨W2.heap.size,0,V⟩) 4 4] 367)) (ao (du [8,9,10,11] (b.drop k)) W2))
  {d:p7} (e:FS a d)
  (f:∀W:p7,(Instr.slice 62 (O p n c) (A (I Y k)) V V).run r6 W=.ok (O q (n-k) (c-k)) W) :
  ∀W2,FS d W2→r9 r6 214 #[O q (n-k) (c-k),tv (A ⟨W2.heap.size+1,0,V⟩)] ((W2.alloc (p8 #[I J 8,I J 9,I J 10,I J 11] 61)).alloc (p8 #[O (A ⟨W2.heap.size,0,V⟩) 4 4] 367)) (ao (du [8,9,10,11] (b.drop k)) W2):=by
 intro W2 g;obtain⟨l,i,j⟩:=h W2 (e.trans (g.mono e.size));have:=(f a).symm.trans (i a);simp only[Result.ok.injEq,Value.slice.injEq,and_true]at this;rw[this];exact j
theorem wO(a:List ah)(v:r3)(d B:Nat)(w:p7)(Q:aF w B d a v)(hB:B≤w.heap.size)(af:a.length≤20000) :
  r9 r6 176 #[v] w (ao (rowB a) w):=by
 have K:=Q;obtain⟨p,c,rfl,_,S⟩:=Q.h;obtain⟨n,hn⟩:=zzy (a.length);have j:=(aF.caps Q).2;rw[hn]at af K j ⊢;obtain⟨m,HK,ak⟩:=zz3 hn K j;clear S Q hn K j
 go_enter Tryz.func176,Tryz.ntmps176
 go_wp2_with fail
 go_loopw [3] (Ew w a n) (fun i _=>n-(intOf i).toNat)
 case atStart=>exact⟨_,0,Z,Fi _,Z,EU _ _,Z⟩
 case round =>
  obtain⟨L,k,rfl,Q,rfl,f,G⟩:=hrel;obtain⟨HA,E⟩:=zz2 G f;clear G;have s:∀W2,FS L W2→∃q:Option vv,(∀W:p7,(Instr.slice 62 (O p n c) (A (I Y k)) V V).run r6 W=.ok (O q (n-k) (c-k)) W)∧
    r9 r6 214 #[O q (n-k) (c-k),tv (A ⟨W2.heap.size+1,0,V⟩)] ((W2.alloc (p8 #[I J 8,I J 9,I J 10,I J 11] 61)).alloc (p8 #[O (A ⟨W2.heap.size,0,V⟩) 4 4] 367)) (ao (du [8,9,10,11] (a.drop k)) W2):=by
   intro W2 g;have u:=f.trans (g.mono f.size);obtain⟨q,h1,h2⟩:=(HK.o.C (u.mono hB)).tail k Q;exact⟨q,h1,mO [8,9,10,11] (by decide) _ Z 4 Z (a.drop k) _ d B W2 h2 (EZ hB u.size) (by rw[List.length_drop,m.o];omega)⟩
  have F:=Hd s;clear s
  by_cases h:k<n
  ·obtain⟨t,ht⟩:∃t,a[k]?=A t:=⟨a[k]'(by rw[m.o];exact h),EX (by rw[m.o];exact h)⟩;obtain⟨b,off,rfl,a7,aq,ar⟩:=ak.o (by omega);have av:=HK.o.C (f.mono hB)
   have x:=Hd (fun W2 (g:FS L W2)=>(by
    have u:=f.trans (g.mono f.size);have T:=HK.o.C (u.mono hB);rw[←m.o]at T;have h1:=T.part k 1 (by rw[m.o];omega) (by rw[m.o];exact aq) ar;exact mO [5,6,7] (by decide) #[I J 5,I J 6,I J 7] Z 3 Z ((a.drop k).take 1) _ d B W2 h1 (EZ hB u.size) (by simp;omega) :
    Calls Tryz.prog 214 #[.slice (some ⟨b,off+k*5,none⟩) 1 (c-k),.pointer (some ⟨W2.heap.size+1,0,none⟩)] ((W2.alloc (.cells #[.int .u8 5,.int .u8 6,.int .u8 7] 61)).alloc (.cells #[.slice (some ⟨W2.heap.size,0,none⟩) 3 3] 367)) (ao (du [5,6,7] ((a.drop k).take 1)) W2)))
   have H:∀W:p7,(Instr.slice 62 (O (A ⟨b,off,V⟩) n c) (A (I Y k)) (A (I Y ((k:Int)+1))) V).run r6 W=.ok (O (A ⟨b,off+k*5,V⟩) 1 (c-k)) W:=by
    intro W;have:=wE b off n c k (k+1) W (by omega) (by omega) (by omega);rw[Nat.add_sub_cancel_left]at this;exact this
   have HT:=Hd ht;have U:du [5,6,7] ((a.drop k).take 1)=de t:=by
    rw[List.drop_eq_getElem_cons (by rw[m.o];exact h)];have:a[k]'(by rw[m.o];exact h)=t:=by
     have:=HT.o;rw[EX (by rw[m.o];exact h)]at this;exact pt this
    rw[this];simp[du,de]
   rw[U]at x;clear av ht U;have a8:(0:Int)≤k:=by omega
   have ba:(k:Int)<n:=by omega
   have bb:IntKind.i64.wrap ((k:Int)+1)=(k:Int)+1:=IntWalk.i64_in _ (by omega)
   cases r:de t
   ·rw[r]at x;have y:Hid (rowB a=du [8,9,10,11] (a.drop k)):=by
     show _=_
     unfold rowB;rw[mD de a k HA.o];rw[List.drop_eq_getElem_cons (by rw[m.o];exact h)];have:a[k]'(by rw[m.o];exact h)=t:=by
      have:=HT.o;rw[EX (by rw[m.o];exact h)]at this;exact pt this
     rw[this];simp[r]
    clear r;go_wp2_with fail
    go_region_held3 (fun w'=>True)
     (first|exact trivial)
     (first
      | (go_at_call 175;refine (aT _ _ _ _).mono ?_;rintro e R ⟨rfl,rfl⟩)
      | (go_at_call 214;refine Ff (x.o _ (EU _ L).drew) ?_;rintro e R ⟨rfl,z⟩))
    have C:=Hd ((EU _ L).drew.trans z);clear z H;obtain⟨q,l,_⟩:=F.o R C.o;obtain⟨M,D⟩:=zz2 (qz F.o C.o l) (E.o.trans (C.o.mono E.o.size));go_wp2_with fail
    go_region_held3 (fun w'=>True)
     (first|exact trivial)
     (first
      | (go_at_call 175;refine (aT _ _ _ _).mono ?_;rintro e w7 ⟨rfl,rfl⟩)
      | (go_at_call 214;refine Ff (M.o _ (EU _ R).drew) ?_;rintro e w7 ⟨rfl,N⟩))
    go_wp2_with fail
    go_ret;exact⟨bI y.o.symm,D.o.trans (((EU _ R).drew.trans N).mono D.o.size)⟩
   ·rw[r]at x;have a1:=Hd r;clear r;go_wp2_with fail
    go_region_held3 (fun w'=>True)
     (first|exact trivial)
     (first
      | (go_at_call 175;refine (aT _ _ _ _).mono ?_;rintro e R ⟨rfl,rfl⟩)
      | (go_at_call 214;refine Ff (x.o _ (EU _ L).drew) ?_;rintro e R ⟨rfl,z⟩))
    have C:=Hd ((EU _ L).drew.trans z);clear z H;go_wp2_with fail
    exact⟨⟨_,k+1,Z,by omega,by go_num,E.o.trans (C.o.mono E.o.size),pO de a k t HT.o HA.o a1.o⟩,by simp[intOf];omega⟩
  ·obtain rfl:k=n:=by omega
   have y:Hid (rowB a=du [8,9,10,11] (a.drop k)):=by
    show _=_
    unfold rowB;rw[mD de a k HA.o];rw[List.drop_eq_nil_of_le (by rw[m.o];exact ET _)];rfl
   obtain⟨q,l,_⟩:=F.o L (EU _ _);have P:=qz F.o (EU _ _) l;rw[Nat.sub_self]at l P;have M:=Hd P;clear P;have D:=Hd f;clear f;go_wp2_with fail
   refine aj (by kernel_rfl) (by kernel_rfl) ?_
   repeat (go_big_quiet_step (fail))
   refine wpQuiet_nil ?_;intro W2 X;have g:=aE X;clear X;have a6:=Hd (fun W3 (h3:FS W2 W3)=>M.o W3 (g.trans (h3.mono g.size)));have ad:=Hd (D.o.trans (g.mono D.o.size));clear g;go_wp2_with fail
   go_region_held3 (fun w'=>True)
    (first|exact trivial)
    (first
     | (go_at_call 175;refine (aT _ _ _ _).mono ?_;rintro e w7 ⟨rfl,rfl⟩)
     | (go_at_call 214;refine Ff (a6.o _ (EU _ W2).drew) ?_;rintro e w7 ⟨rfl,N⟩))
   go_wp2_with fail
   go_ret;exact⟨bI y.o.symm,ad.o.trans (((EU _ W2).drew.trans N).mono ad.o.size)⟩
