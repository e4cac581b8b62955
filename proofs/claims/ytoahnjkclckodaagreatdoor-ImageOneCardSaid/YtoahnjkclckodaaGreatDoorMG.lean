/- Parts of one proof, joined; conditions stand in each theorem. -/
import Derived.Test.YtoahnjkclckodaaGreatDoorMD
import Derived.Deep.RegionHeld3
open Go renaming World→J,Value→tT,Calls→wg,Addr→At
open Go.Value renaming slice→O,int→I,bool→xv,pointer→vv,string→tS
open Option renaming none→Y,some→A
open Go.IntKind renaming u8→tF,i64→U
open Bool renaming false→va,true→ur
open Go.Proofs.Tryz renaming prog→vo
open Go.Ending renaming returned→wj
open Go.Obj renaming cells→r9
namespace Go.Proofs.YtoahnjkclckodaaGreatDoor
set_option maxHeartbeats 2000000
set_option maxRecDepth 100000
open Go.RowKit
def gy(w:J) (S:List Nat) (v:tT):Prop:=
 (S=[]∧v=O Y 0 0)∨∃b off cap,v=O (A ⟨b,off,Y⟩) S.length cap∧S.length≤100∧b<w.heap.size∧∀(i k:Nat),S[i]?=A k→w.cell? ⟨b,off+i,Y⟩=A (I tF (k:Int))
theorem gy.C{w w':J}{S:List Nat}{v:tT}(h:gy w S v)(c:Gl w w'):gy w' S v:=by
 rcases h with h|⟨b,off,cap,d,e,a,f⟩
 ·exact Or.inl h
 ·exact Or.inr ⟨b,off,cap,d,e,FG a c.size,fun i k g=>(c.cell (p:=⟨b,off+i,Y⟩) a).trans (f i k g)⟩
theorem gy.q{w:J}{S:List Nat}{v:tT}(h:gy w S v):∃p c,v=O p S.length c∧S.length≤100∧∀(i k:Nat),S[i]?=A k→∃b off,p=A ⟨b,off,Y⟩∧w.cell? ⟨b,off+i,Y⟩=A (I tF (k:Int)):=by
 rcases h with ⟨rfl,rfl⟩|⟨b,off,cap,rfl,d,_,e⟩
 ·exact⟨Y,0,Z,by simp,fun i k a=>by simp at a⟩
 ·exact⟨_,cap,Z,d,fun i k a=>⟨b,off,Z,e i k a⟩⟩
theorem wE{α:Type}(p:α→Bool)(l:List α)(k:Nat)(x:α)(a:l[k]?=A x)(h:(l.take k).any p=va)(b:p x=va):(l.take (k+1)).any p=false:=by rw[Gd,a,List.any_append,h];simp[b]
theorem Eh{α:Type}(p:α→Bool)(l:List α)(k:Nat)(x:α)(a:l[k]?=A x)(h:p x=ur):l.any p=true:=
 List.any_eq_true.2 ⟨x,FZ a,h⟩
theorem zb(S:List Nat)(v:tT)(x:Nat)(w:J)(h:gy w S v) :
  wg vo 219 #[v,I tF (x:Int)] w fun e w'=>(∃i:Int,e=wj (I U i)∧decide (0≤i)=S.any (· == x))∧w=w':=by
 obtain⟨p,c,rfl,u,q⟩:=h.q;obtain⟨n,f⟩:=zzy (S.length);rw[f]at u ⊢;obtain⟨z,g⟩:=zz2 q f;clear q f h
 go_enter Tryz.func219,Tryz.ntmps219
 go_wp2_with fail
 go_loop [8,5] (fun i _=>∃k:Nat,k≤n∧i=I U k∧(S.take k).any (· == x)=va) (fun i _=>n-(intOf i).toNat)
 case atStart=>exact⟨0,FR _,Z,Z⟩
 case round =>
  obtain⟨k,B,rfl,a⟩:=hrel;have r:=Hd a;clear a
  by_cases d:k<n
  ·obtain⟨y,j⟩:∃y,S[k]?=A y:=⟨S[k]'(by rw[g.o];exact d),FD (by rw[g.o];exact d)⟩;obtain⟨b,off,rfl,l⟩:=z.o k y j;have s:=Hd j;clear j
   cases t:((x:Int)==(y:Int))
   ·have m:=Hd t;go_wp2_with fail
    go_round
    case rel =>
     refine⟨k+1,by omega,by go_num,wE (· == x) _ _ _ s.o r.o ?_⟩;have:=m.o;simp at this ⊢;omega
    case measure=>simp[intOf];omega
   ·have m:=Hd t;go_wp2_with fail
    go_ret;refine⟨⟨k,Z,?_⟩,Z⟩;rw[Eh (· == x) _ _ _ s.o (by have:=m.o;simp at this ⊢;omega)];simp
  ·go_wp2_with fail
   go_ret;refine⟨⟨-1,Z,?_⟩,Z⟩;have e:S.take k=S:=FW (by rw[g.o];omega);have:=r.o;rw[e]at this;rw[this];rfl
theorem tQ(S:List Nat)(v:tT)(x:Nat)(w:J)(h:gy w S v) :
  wg vo 206 #[v,I tF (x:Int)] w fun e w'=>e=wj (xv (S.contains x))∧w=w':=by
 have a:=Hd (zb S v x w h);have he:S.any (· == x)=S.contains x:=by rw[List.contains_eq_any_beq];congr 1;funext y;rw[Bool.beq_comm]
 rw[he]at a;clear he h
 go_enter Tryz.func206,Tryz.ntmps206
 go_wp2_with (go_at_call 219;refine FN a.o ?_;rintro e w' ⟨⟨i,rfl,hi⟩,rfl⟩;have b:=Hd hi;clear hi)
 go_ret;exact⟨by rw[←b.o];rfl,Z⟩
theorem aN(p:Option At)(n c:Nat)(w:J) :
  wg vo 178 #[O p n c] w fun e w'=>e=wj (Value.func (.func 205) #[] #[vv (A ⟨w.heap.size,0,Y⟩)])∧w'=w.alloc (r9 #[O p n c] 306):=by
 go_enter Tryz.func178,Tryz.ntmps178
 go_wp2_with fail
 go_ret;exact⟨Z,Z⟩
def DF(w:J) (S:List Nat) (ks:List ac) (n:Nat) (i:tT) (W:J):Prop:=∃(a:J) (k:Nat),a=W∧k≤n∧i=I U k∧Gl w a∧dm S (ks.take k)=ur
theorem yU(S:List Nat)(ks:List ac)(k:Nat)(t:ac)(h:ks[k]?=A t)(a:dm S (ks.take k)=ur)(b:S.contains t.q=ur):dm S (ks.take (k+1))=true:=by
 unfold dm at *;rw[Gd,h,List.all_append,a]
 simpa using b
theorem Cs(S:List Nat)(ks:List ac)(k:Nat)(t:ac)(h:ks[k]?=A t)(a:S.contains t.q=va):dm S ks=false:=by
 unfold dm;rw[List.all_eq_false];exact⟨t,FZ h,by simpa using a⟩
theorem jM(S:List Nat)(ks:List ac)(v M:tT)(d B b:Nat)(w:J)(C:ap w B d ks v)(hB:B≤w.heap.size)(D:ks.length≤20000)(E:gy w S M)(N:b<w.heap.size)(P:w.cell? ⟨b,0,Y⟩=A M) :
  wg vo 205 #[v,vv (A ⟨b,0,Y⟩)] w (aV (dm S ks) w):=by
 obtain⟨p,c,rfl,_,l⟩:=C.rows;obtain⟨q,cq,rfl,_,_⟩:=E.q;obtain⟨n,F⟩:=zzy (ks.length);rw[F]at D ⊢;obtain⟨G,u,T,V⟩:=zz4 F l E P;clear l E C F P
 go_enter Tryz.func205,Tryz.ntmps205
 go_wp2_with fail
 go_loopw [8] (DF w S ks n) (fun i _=>n-(intOf i).toNat)
 case atStart=>exact⟨_,0,Z,FR _,Z,Fz _ _,Z⟩
 case round =>
  obtain⟨z,k,rfl,C,rfl,a,m⟩:=hrel;obtain⟨Q,g⟩:=zz2 m a;clear m
  by_cases x:k<n
  ·obtain⟨t,H⟩:∃t,ks[k]?=A t:=⟨ks[k]'(by rw[G.o];exact x),FD (by rw[G.o];exact x)⟩;obtain⟨_,b',off,rfl,K,r⟩:=u.o k t H;obtain⟨p',l',c',d0,d1,d2,d3,d4,_⟩:=r.node (a.mono hB) K;have X:=(a.cell (p:=⟨b,0,Y⟩) N).trans V.o;have ad:=FG N a.size;obtain⟨L,R⟩:=zz2 (T.o.C a) H;have af:(0:Int)≤k:=by omega
   have aq:(k:Int)<n:=by omega
   have y:∀o:Obj,Gl z (z.alloc o):=fun o=>(Fz _ z).alloc (Fy _) o
   have h:=Hd (fun W (hW:Gl z W)=>tQ S _ t.q W (L.o.C hW));have j:=Hd y;clear r H a y
   cases f:S.contains t.q
   ·rw[f]at h;have s:=Hd f;clear f;go_wp2_with fail
    refine FN (h.o _ (j.o _)) ?_;rintro e W2 ⟨rfl,rfl⟩;go_wp2_with fail
    go_ret;exact⟨bF (Cs S ks k t R.o s.o).symm,g.o.trans ((j.o _).mono g.o.size)⟩
   ·rw[f]at h;have s:=Hd f;clear f;go_wp2_with fail
    refine FN (h.o _ (j.o _)) ?_;rintro e W2 ⟨rfl,rfl⟩;go_wp2_with fail
    exact⟨⟨_,k+1,Z,by omega,by go_num,g.o.trans ((j.o _).mono g.o.size),yU S ks k t R.o Q.o s.o⟩,by simp[intOf];omega⟩
  ·obtain rfl:k=n:=by omega
   go_wp2_with fail
   go_ret;refine⟨bF ?_,g.o⟩;have:=Q.o;rw[FW (by rw[G.o];exact Fy _)]at this;exact this.symm
theorem m9(l:List UInt8):Lib.hasPrefix l [45]=fe l:=by
 unfold Lib.hasPrefix fe
 cases l with
 | nil=>rfl
 | cons c r =>
  by_cases h:c=45
  ·subst h;rfl
  ·have:(45==c)=false:=by simpa using fun e:(45:UInt8)=c=>h e.symm
   simp only[List.isPrefixOf,this,Bool.false_and]
   split
   ·rename_i heq;injection heq with heq;exact absurd heq h
   ·rfl
theorem rR(s:ByteArray)(w:J):wg vo 175 #[tS s,tS ⟨#[45]⟩] w fun e w'=>e=wj (xv (fe s.data.toList))∧w=w':=
 (Tryz.strings_HasPrefix s ⟨#[45]⟩ w).mono fun e w' ⟨a,b⟩=>⟨by rw[a,←m9],b.symm⟩
def mF(t:ac):Bool:=t.q==14&&fe t.h.data.toList
theorem sN(l:List ac):gn l=(l.all (fun t=>!mF t)&&dm [13,14,15,16] l):=rfl
theorem qu{α:Type}(p:α→Bool)(l:List α)(k:Nat)(x:α)(a:l[k]?=A x)(h:(l.take k).all p=ur)(b:p x=ur):(l.take (k+1)).all p=true:=by rw[Gd,a,List.all_append,h];simpa using b
theorem En{α:Type}(p:α→Bool)(l:List α)(k:Nat)(x:α)(a:l[k]?=A x)(b:p x=va):l.all p=false:=by rw[List.all_eq_false];exact⟨x,FZ a,by simp[b]⟩
def EO(w:J) (p:ac→Bool) (ks:List ac) (n:Nat) (i:tT) (W:J):Prop:=∃(a:J) (k:Nat),a=W∧k≤n∧i=I U k∧Gl w a∧(ks.take k).all p=ur
theorem Bc(w:J)(S:List Nat)(a:S.length≤100)(arr:Array tT)(b:arr=(S.map fun k:Nat=>I tF (k:Int)).toArray)(n:Nat)(c:S.length=n):gy (w.alloc (r9 arr 142)) S (O (A ⟨w.heap.size,0,Y⟩) n n):=by
 subst b;subst c;refine Or.inr ⟨w.heap.size,0,S.length,Z,a,by simp,fun i k d=>?_⟩;rw[Gk _ _ _ _ _ _ (oA w _)];simp[d]
theorem nU(S:List Nat)(g:S.length≤100)(arr:Array tT)(h:arr=(S.map fun k:Nat=>I tF (k:Int)).toArray)(n:Nat)(i:S.length=n)(ks:List ac)(v:tT)(d B:Nat)(a:J)
  (j:ap a B d ks v) (hB:B≤a.heap.size) (c:ks.length≤20000) :
  wg vo 205 #[v,vv (A ⟨a.heap.size+1,0,Y⟩)] ((a.alloc (r9 arr 142)).alloc (r9 #[O (A ⟨a.heap.size,0,Y⟩) n n] 306)) (aV (dm S ks) a):=by
 have b:=lB a (r9 arr 142) (r9 #[O (A ⟨a.heap.size,0,Y⟩) n n] 306);have f:=(Bc a S g arr h n i).C ((Fz _ _).alloc (Fy _) (r9 #[O (A ⟨a.heap.size,0,Y⟩) n n] 306));have l:=(aW a (r9 arr 142) (r9 #[O (A ⟨a.heap.size,0,Y⟩) n n] 306)).2.1;have m:=Gk _ _ 0 _ _ _ l;refine (jM S ks v _ d B (a.heap.size+1) _ (j.C (b.mono hB)) (FH hB b.size) c f (by simp) m).mono ?_;rintro e W ⟨he,o⟩;exact⟨he,b.trans (o.mono b.size)⟩
theorem iO(ks:List ac)(v:tT)(d B:Nat)(w:J)(z:ap w B d ks v)(hB:B≤w.heap.size)(q:ks.length≤20000) :
  wg vo 181 #[v] w (aV (gn ks) w):=by
 have l:=z;obtain⟨p,c,rfl,_,f⟩:=z.rows;obtain⟨n,E⟩:=zzy (ks.length);rw[E]at q l ⊢;obtain⟨C,r,Q⟩:=zz3 E f l;clear f z E l
 go_enter Tryz.func181,Tryz.ntmps181
 go_wp2_with fail
 go_loopw [7] (EO w (fun t=>!mF t) ks n) (fun i _=>n-(intOf i).toNat)
 case atStart=>exact⟨_,0,Z,FR _,Z,Fz _ _,Z⟩
 case round =>
  obtain⟨D,k,rfl,z,rfl,b,g⟩:=hrel;obtain⟨F,a⟩:=zz2 g b;clear g
  by_cases s:k<n
  ·obtain⟨t,G⟩:∃t,ks[k]?=A t:=⟨ks[k]'(by rw[C.o];exact s),FD (by rw[C.o];exact s)⟩;obtain⟨_,b',off,rfl,H,h⟩:=r.o k t G;obtain⟨X,l',c',d0,d1,d2,d3,d4,_⟩:=h.node (b.mono hB) H;have K:=Hd G;have R:(0:Int)≤k:=by omega
   have S:(k:Int)<n:=by omega
   have u:∀o:Obj,Gl D (D.alloc o):=fun o=>(Fz _ D).alloc (Fy _) o
   obtain⟨N,m⟩:=zz2 (fun W=>rR t.h W) u;clear h G b u
   cases x:((t.q:Int)==14)
   ·have L:=Hd (show (!mF t)=ur by unfold mF;rw[show (t.q==14)=va by simp at x ⊢;omega];rfl);go_wp2_with fail
    exact⟨⟨_,k+1,Z,by omega,by go_num,a.o.trans ((m.o _).mono a.o.size),qu _ ks k t K.o F.o L.o⟩,by simp[intOf];omega⟩
   ·have j:(t.q==14)=true:=by simp at x ⊢;omega
    have P:Hid (mF t=fe t.h.data.toList):=by
     show mF t=_
     unfold mF;rw[j];rfl
    clear j;generalize fe t.h.data.toList=T at *
    cases T
    ·go_wp2_with fail
     refine FN (N.o _) ?_;rintro e W2 ⟨rfl,rfl⟩;go_wp2_with fail
     exact⟨⟨_,k+1,Z,by omega,by go_num,a.o.trans ((m.o _).mono a.o.size),qu _ ks k t K.o F.o (by show (!mF t)=ur;rw[P.o];rfl)⟩,by simp[intOf];omega⟩
    ·go_wp2_with fail
     refine FN (N.o _) ?_;rintro e W2 ⟨rfl,rfl⟩;go_wp2_with fail
     go_ret;refine⟨bF ?_,a.o.trans ((m.o _).mono a.o.size)⟩;rw[sN,En _ ks k t K.o (by show (!mF t)=va;rw[P.o];rfl)];rfl
  ·obtain rfl:k=n:=by omega
   have V:=Hd (nU [13,14,15,16] (by decide) #[I tF 13,I tF 14,I tF 15,I tF 16] Z 4 Z ks _ d B D (Q.o.C (b.mono hB)) (FH hB b.size) (by rw[C.o];exact q));clear b;go_wp2_with (go_at_call 178;refine (aN _ _ _ _).mono ?_;rintro e W2 ⟨rfl,rfl⟩)
   refine FN V.o ?_;rintro e W2 ⟨rfl,y⟩;have M:=Hd (a.o.trans (y.mono a.o.size));clear y;go_wp2_with fail
   go_ret;refine⟨bF ?_,M.o⟩;have:=F.o;rw[FW (by rw[C.o];exact Fy _)]at this;rw[sN,this];rfl
def yZ(l:List ac):Bool:=l.length==1&&gn l
def Cy(l:List ac):Bool:=decide (0<l.length)&&gn l
theorem wv(ks:List ac)(v:tT)(d B:Nat)(w:J)(f:ap w B d ks v)(hB:B≤w.heap.size)(g:ks.length≤20000) :
  wg vo 180 #[v] w (aV (yZ ks) w):=by
 have l:=Hd (iO ks v d B w f hB g);have j:Hid (yZ ks=(ks.length==1&&gn ks)):=rfl;obtain⟨p,c,rfl,_,b⟩:=f.rows;generalize gn ks=x at *;generalize yZ ks=y at *;generalize ks.length=n at *;clear b f
 go_enter Tryz.func180,Tryz.ntmps180
 cases k:((n:Int)==1)
 ·have a:(n==1)=false:=by simp at k ⊢;omega
  have h:=Hd a;clear a;go_wp2_with fail
  go_ret;exact⟨bF (by rw[j.o,h.o];rfl),Fz _ _⟩
 ·have a:(n==1)=true:=by simp at k ⊢;omega
  have h:=Hd a;clear a;go_wp2_with fail
  refine FN l.o ?_;rintro e W2 ⟨rfl,i⟩;go_wp2_with fail
  go_ret;exact⟨bF (by rw[j.o,h.o];rfl),i⟩
theorem v8(ks:List ac)(v:tT)(d B:Nat)(w:J)(b:ap w B d ks v)(hB:B≤w.heap.size)(f:ks.length≤20000) :
  wg vo 182 #[v] w (aV (Cy ks) w):=by
 have i:=Hd (iO ks v d B w b hB f);have h:Hid (Cy ks=(decide (0<ks.length)&&gn ks)):=rfl;obtain⟨p,c,rfl,_,a⟩:=b.rows;generalize gn ks=x at *;generalize Cy ks=y at *;generalize ks.length=n at *;clear a b
 go_enter Tryz.func182,Tryz.ntmps182
 by_cases j:0<n
 ·have k:=Hd j;have l:(0:Int)<n:=by omega
  go_wp2_with fail
  refine FN i.o ?_;rintro e W2 ⟨rfl,g⟩;go_wp2_with fail
  go_ret;exact⟨bF (by rw[h.o];simp[k.o]),g⟩
 ·obtain rfl:n=0:=by omega
  go_wp2_with fail
  go_ret;exact⟨bF (by rw[h.o];rfl),Fz _ _⟩
theorem ap.part{w:J}{B d:Nat}{ks:List ac}{b off c:Nat}(h:ap w B d ks (O (A ⟨b,off,Y⟩) ks.length c))(i m:Nat)(a:i+m≤ks.length)(z:ks.length≤c)(o:c≤maxLen) :
  ap w B d ((ks.drop i).take m) (O (A ⟨b,off+i*5,Y⟩) m (c-i)):=by
 have hlen:((ks.drop i).take m).length=m:=by simp;omega
 by_cases hm:m=0
 ·subst hm
  cases d with
  | zero=>exact⟨by simp,_,_,Z⟩
  | succ d=>exact Or.inl ⟨by simp,_,_,Z⟩
 ·rcases h.cases with ⟨p,_⟩|⟨C,b',n,cap,rfl,q,r,s,t,g,f⟩
  ·rw[p]at a;simp at a;omega
  ·injection g with k D u
   injection k with k
   injection k with v x
   subst v;subst x;subst u;refine Or.inr ⟨b,off+i*5,c-i,?_,r,by omega,by omega,by rw[hlen],fun j T l=>?_⟩
   ·intro e;rw[e]at hlen;simp at hlen;omega
   ·have y:j<m:=by have:=(FU.1 l).1;omega
    rw[List.getElem?_take,oE y,List.getElem?_drop]at l;have:=f (i+j) T l;rw[Nat.add_mul]at this
    simpa only [Nat.add_assoc]using this
theorem ap.caps{w:J}{B d:Nat}{ks:List ac}{p:Option At}{n c:Nat}(h:ap w B d ks (O p n c)):n=ks.length∧(0<n→∃b off,p=A ⟨b,off,Y⟩∧b<B∧n≤c∧c≤maxLen):=by
 rcases h.cases with ⟨rfl,sp,cap,e⟩|⟨r,b',i,cap,rfl,k,l,a,f,g,j⟩
 ·injection e with _ e _
  subst e;exact⟨Z,fun h=>absurd h (by omega)⟩
 ·injection g with m o q
  subst m;subst o;subst q;exact⟨Z,fun _=>⟨_,_,Z,l,a,f⟩⟩
theorem lG(W:J):(sizeOf (Tryz.prog.elem 143)).run vo W=.ok 5 W:=by kernel_rfl
theorem wu(b off n c l h:Nat)(W:J)(d:l<c)(e:l≤h)(f:h≤c) :
  (Instr.slice 143 (O (A ⟨b,off,Y⟩) n c) (A (I U l)) (A (I U h)) Y).run vo W=.ok (O (A ⟨b,off+l*5,Y⟩) (h-l) (c-l)) W:=by
 rw[run_slice_lh W 143 (A ⟨b,off,Y⟩) n c (by kernel_rfl) U U l h (by omega) (by omega) (by omega),lG]
 show Result.ok (sliced _ _ _ _ _) W=_
 unfold sliced;rw[Int.toNat_natCast,Int.toNat_natCast,oB (by omega)];simp only[Option.map_some,Addr.add]
 by_cases a:l*5=0
 ·rw[oE a,a];rfl
 ·rw[oB a]
theorem yu(b off n c l:Nat)(e:l≤n)(f:n≤c):∃q:Option At,(∀W:J,(Instr.slice 143 (O (A ⟨b,off,Y⟩) n c) (A (I U l)) Y Y).run vo W=.ok (O q (n-l) (c-l)) W)∧(l<n→q=A ⟨b,off+l*5,Y⟩):=by
 refine⟨if c=l then A ⟨b,off,Y⟩ else A ⟨b,off+l*5,Y⟩,fun W=>?_,fun h=>by rw[oB (by omega)]⟩;rw[run_slice_l W 143 (A ⟨b,off,Y⟩) n c (by kernel_rfl) U l (by omega) (by omega),lG]
 show Result.ok (sliced _ _ _ _ _) W=_
 unfold sliced;rw[Int.toNat_natCast]
 by_cases a:c=l
 ·rw[oE a,oE a]
 ·rw[oB a,oB a];simp only[Option.map_some,Addr.add]
  by_cases d:l*5=0
  ·rw[oE d,d];rfl
  ·rw[oB d]
theorem BI(W:J)(c:Nat):(Instr.slice 143 (O Y 0 c) (A (I U ((0:Nat):Int))) Y Y).run vo W=.ok (O Y 0 (c-0)) W:=by
 rw[run_slice_l W 143 Y 0 c (by kernel_rfl) U ((0:Nat):Int) (by omega) (by omega),lG]
 show Result.ok (sliced _ _ _ _ _) W=_
 unfold sliced
 by_cases a:c=0
 ·subst a;rfl
 ·rw[oB (by simpa using a)];rfl
theorem ap.tail{w:J}{B d:Nat}{ks:List ac}{p:Option At}{n c:Nat}(h:ap w B d ks (O p n c))(k:Nat)(o:k≤n) :
  ∃q:Option At,(∀W:J,(Instr.slice 143 (O p n c) (A (I U k)) Y Y).run vo W=.ok (O q (n-k) (c-k)) W)∧ap w B d (ks.drop k) (O q (n-k) (c-k)):=by
 obtain⟨l,f⟩:=h.caps
 by_cases r:0<n
 ·obtain⟨b,off,rfl,u,m,hm⟩:=f r;obtain⟨q,s,t⟩:=yu b off n c k o m;refine⟨q,s,?_⟩
  by_cases i:k<n
  ·rw[t i];subst l;have:=h.part k (ks.length-k) (by omega) m hm
   rwa [FW (by simp)]at this
  ·have e:n-k=0:=by omega
   rw[e]
   cases d with
   | zero=>exact⟨List.drop_eq_nil_of_le (by omega),_,_,Z⟩
   | succ d=>exact Or.inl ⟨List.drop_eq_nil_of_le (by omega),_,_,Z⟩
 ·obtain rfl:n=0:=by omega
  obtain rfl:k=0:=by omega
  have j:ks=[]:=F5 l.symm;subst j
  cases p with
  | none =>
   refine⟨Y,fun W=>BI W c,?_⟩
   cases d with
   | zero=>exact⟨Z,_,_,Z⟩
   | succ d=>exact Or.inl ⟨Z,_,_,Z⟩
  | some a =>
   refine⟨A a,fun W=>?_,?_⟩
   ·rw[run_slice_l W 143 (A a) 0 c (by kernel_rfl) U ((0:Nat):Int) (by omega) (by omega),lG]
    show Result.ok (sliced _ _ _ _ _) W=_
    unfold sliced
    by_cases g:c=0
    ·subst g;rfl
    ·rw[oB (by simpa using g)];simp[Addr.add]
   ·cases d with
    | zero=>exact⟨Z,_,_,Z⟩
    | succ d=>exact Or.inl ⟨Z,_,_,Z⟩
def EQ(w:J) (ks:List ac) (n:Nat) (i:tT) (W:J):Prop:=∃(a:J) (k:Nat),a=W∧k≤n∧i=I U k∧Gl w a∧(ks.take k).all cS=ur
theorem nF{α:Type}(p:α→Bool):∀(l:List α) (k:Nat),(l.take k).all p=ur→(l.drop k).head?.all (fun x=>!p x)=ur→l.dropWhile p=l.drop k:=by
 intro l
 induction l with
 | nil=>intro k _ _;simp
 | cons x l c =>
  intro k b a
  cases k with
  | zero =>
   rw[FX]at a ⊢;simp only[List.head?_cons,Option.all_some,Bool.not_eq_true']at a;rw[List.dropWhile_cons,oB (by simp[a])]
  | succ k =>
   rw[FO,List.all_cons,FV]at b;rw[List.dropWhile_cons,oE b.1,FQ];exact c k b.2 a
theorem q9{a:J}{p q:Option At}{n c k:Nat}{ks:List ac}
  (h:∀W2,Gl a W2→∃q:Option At,(∀W:J,(Instr.slice 143 (O p n c) (A (I U k)) Y Y).run vo W=.ok (O q (n-k) (c-k)) W)∧
    wg vo 205 #[O q (n-k) (c-k),vv (A ⟨W2.heap.size+1,0,Y⟩)] ((W2.alloc (r9 #[I tF 8,I tF 9,I tF 10,I tF 11] 142)).alloc (r9 #[O (A ⟨W2.heap.size,0,Y⟩) 4 4] 306)) (aV (dm [8,9,10,11] (ks.drop k)) W2))
  {b:J} (d:Gl a b)
  (e:∀W:J,(Instr.slice 143 (O p n c) (A (I U k)) Y Y).run vo W=.ok (O q (n-k) (c-k)) W) :
  ∀W2,Gl b W2→wg vo 205 #[O q (n-k) (c-k),vv (A ⟨W2.heap.size+1,0,Y⟩)] ((W2.alloc (r9 #[I tF 8,I tF 9,I tF 10,I tF 11] 142)).alloc (r9 #[O (A ⟨W2.heap.size,0,Y⟩) 4 4] 306)) (aV (dm [8,9,10,11] (ks.drop k)) W2):=by
 intro W2 f;obtain⟨j,g,i⟩:=h W2 (d.trans (f.mono d.size));have:=(e a).symm.trans (g a);simp only[Result.ok.injEq,Value.slice.injEq,and_true]at this;rw[this];exact i
theorem wH(ks:List ac)(v:tT)(d B:Nat)(w:J)(P:ap w B d ks v)(hB:B≤w.heap.size)(ad:ks.length≤20000) :
  wg vo 179 #[v] w (aV (rowB ks) w):=by
 have H:=P;obtain⟨p,c,rfl,_,R⟩:=P.rows;obtain⟨n,hn⟩:=zzy (ks.length);have h:=(ap.caps P).2;rw[hn]at ad H h ⊢;obtain⟨l,HK,af⟩:=zz3 hn H h;clear R P hn H h
 go_enter Tryz.func179,Tryz.ntmps179
 go_wp2_with fail
 go_loopw [3] (EQ w ks n) (fun i _=>n-(intOf i).toNat)
 case atStart=>exact⟨_,0,Z,FR _,Z,Fz _ _,Z⟩
 case round =>
  obtain⟨K,k,rfl,P,rfl,a,F⟩:=hrel;obtain⟨HA,D⟩:=zz2 F a;clear F;have r:∀W2,Gl K W2→∃q:Option At,(∀W:J,(Instr.slice 143 (O p n c) (A (I U k)) Y Y).run vo W=.ok (O q (n-k) (c-k)) W)∧
    wg vo 205 #[O q (n-k) (c-k),vv (A ⟨W2.heap.size+1,0,Y⟩)] ((W2.alloc (r9 #[I tF 8,I tF 9,I tF 10,I tF 11] 142)).alloc (r9 #[O (A ⟨W2.heap.size,0,Y⟩) 4 4] 306)) (aV (dm [8,9,10,11] (ks.drop k)) W2):=by
   intro W2 f;have s:=a.trans (f.mono a.size);obtain⟨q,h1,h2⟩:=(HK.o.C (s.mono hB)).tail k P;exact⟨q,h1,nU [8,9,10,11] (by decide) _ Z 4 Z (ks.drop k) _ d B W2 h2 (FH hB s.size) (by rw[List.length_drop,l.o];omega)⟩
  have E:=Hd r;clear r
  by_cases g:k<n
  ·obtain⟨t,ht⟩:∃t,ks[k]?=A t:=⟨ks[k]'(by rw[l.o];exact g),FD (by rw[l.o];exact g)⟩;obtain⟨b,off,rfl,bb,aq,ar⟩:=af.o (by omega);have a1:=HK.o.C (a.mono hB)
   have u:=Hd (fun W2 (f:Gl K W2)=>(by
    have s:=a.trans (f.mono a.size);have S:=HK.o.C (s.mono hB);rw[←l.o]at S;have h1:=S.part k 1 (by rw[l.o];omega) (by rw[l.o];exact aq) ar;exact nU [5,6,7] (by decide) #[I tF 5,I tF 6,I tF 7] Z 3 Z ((ks.drop k).take 1) _ d B W2 h1 (FH hB s.size) (by simp;omega) :
    Calls Tryz.prog 205 #[.slice (some ⟨b,off+k*5,none⟩) 1 (c-k),.pointer (some ⟨W2.heap.size+1,0,none⟩)] ((W2.alloc (.cells #[.int .u8 5,.int .u8 6,.int .u8 7] 142)).alloc (.cells #[.slice (some ⟨W2.heap.size,0,none⟩) 3 3] 306)) (aV (dm [5,6,7] ((ks.drop k).take 1)) W2)))
   have G:∀W:J,(Instr.slice 143 (O (A ⟨b,off,Y⟩) n c) (A (I U k)) (A (I U ((k:Int)+1))) Y).run vo W=.ok (O (A ⟨b,off+k*5,Y⟩) 1 (c-k)) W:=by
    intro W;have:=wu b off n c k (k+1) W (by omega) (by omega) (by omega);rw[Nat.add_sub_cancel_left]at this;exact this
   have HT:=Hd ht;have T:dm [5,6,7] ((ks.drop k).take 1)=cS t:=by
    rw[List.drop_eq_getElem_cons (by rw[l.o];exact g)];have:ks[k]'(by rw[l.o];exact g)=t:=by
     have:=HT.o;rw[FD (by rw[l.o];exact g)]at this;exact r7 this
    rw[this];simp[dm,cS]
   rw[T]at u;clear a1 ht T;have bd:(0:Int)≤k:=by omega
   have bk:(k:Int)<n:=by omega
   have bl:IntKind.i64.wrap ((k:Int)+1)=(k:Int)+1:=IntWalk.i64_in _ (by omega)
   cases m:cS t
   ·rw[m]at u;have x:Hid (rowB ks=dm [8,9,10,11] (ks.drop k)):=by
     show _=_
     unfold rowB;rw[nF cS ks k HA.o];rw[List.drop_eq_getElem_cons (by rw[l.o];exact g)];have:ks[k]'(by rw[l.o];exact g)=t:=by
      have:=HT.o;rw[FD (by rw[l.o];exact g)]at this;exact r7 this
     rw[this];simp[m]
    clear m;go_wp2_with fail
    go_region_held3 (fun w'=>True)
     (first|exact trivial)
     (first
      | (go_at_call 178;refine (aN _ _ _ _).mono ?_;rintro e Q ⟨rfl,rfl⟩)
      | (go_at_call 205;refine FN (u.o _ (Fz _ K).drew) ?_;rintro e Q ⟨rfl,y⟩))
    have z:=Hd ((Fz _ K).drew.trans y);clear y G;obtain⟨q,j,_⟩:=E.o Q z.o;obtain⟨L,C⟩:=zz2 (q9 E.o z.o j) (D.o.trans (z.o.mono D.o.size));go_wp2_with fail
    go_region_held3 (fun w'=>True)
     (first|exact trivial)
     (first
      | (go_at_call 178;refine (aN _ _ _ _).mono ?_;rintro e w7 ⟨rfl,rfl⟩)
      | (go_at_call 205;refine FN (L.o _ (Fz _ Q).drew) ?_;rintro e w7 ⟨rfl,M⟩))
    go_wp2_with fail
    go_ret;exact⟨bF x.o.symm,C.o.trans (((Fz _ Q).drew.trans M).mono C.o.size)⟩
   ·rw[m]at u;have a6:=Hd m;clear m;go_wp2_with fail
    go_region_held3 (fun w'=>True)
     (first|exact trivial)
     (first
      | (go_at_call 178;refine (aN _ _ _ _).mono ?_;rintro e Q ⟨rfl,rfl⟩)
      | (go_at_call 205;refine FN (u.o _ (Fz _ K).drew) ?_;rintro e Q ⟨rfl,y⟩))
    have z:=Hd ((Fz _ K).drew.trans y);clear y G;go_wp2_with fail
    exact⟨⟨_,k+1,Z,by omega,by go_num,D.o.trans (z.o.mono D.o.size),qu cS ks k t HT.o HA.o a6.o⟩,by simp[intOf];omega⟩
  ·obtain rfl:k=n:=by omega
   have x:Hid (rowB ks=dm [8,9,10,11] (ks.drop k)):=by
    show _=_
    unfold rowB;rw[nF cS ks k HA.o];rw[List.drop_eq_nil_of_le (by rw[l.o];exact Fy _)];rfl
   obtain⟨q,j,_⟩:=E.o K (Fz _ _);have N:=q9 E.o (Fz _ _) j;rw[Nat.sub_self]at j N;have L:=Hd N;clear N;have C:=Hd a;clear a;go_wp2_with fail
   refine al (by kernel_rfl) (by kernel_rfl) ?_
   repeat (go_big_quiet_step (fail))
   refine wpQuiet_nil ?_;intro W2 V;have f:=bw V;clear V;have ba:=Hd (fun W3 (h3:Gl W2 W3)=>L.o W3 (f.trans (h3.mono f.size)));have X:=Hd (C.o.trans (f.mono C.o.size));clear f;go_wp2_with fail
   go_region_held3 (fun w'=>True)
    (first|exact trivial)
    (first
     | (go_at_call 178;refine (aN _ _ _ _).mono ?_;rintro e w7 ⟨rfl,rfl⟩)
     | (go_at_call 205;refine FN (ba.o _ (Fz _ W2).drew) ?_;rintro e w7 ⟨rfl,M⟩))
   go_wp2_with fail
   go_ret;exact⟨bF x.o.symm,X.o.trans (((Fz _ W2).drew.trans M).mono X.o.size)⟩
