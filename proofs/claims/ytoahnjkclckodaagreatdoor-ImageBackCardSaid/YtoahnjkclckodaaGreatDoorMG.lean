/- Parts of one proof, joined; conditions stand in each theorem. -/
import Derived.Test.YtoahnjkclckodaaGreatDoorMD
import Derived.Deep.RegionHeld3
open Go renaming World→J,Value→tS,Calls→vv,Addr→z7
open Go.Value renaming slice→O,int→I,bool→xt,pointer→vo,string→r9
open Option renaming none→Y,some→A
open Go.IntKind renaming u8→r8,i64→U
open Bool renaming false→ur,true→tT
open Go.Proofs.Tryz renaming prog→va
open Go.Ending renaming returned→wg
open Go.Obj renaming cells→r7
namespace Go.Proofs.YtoahnjkclckodaaGreatDoor
set_option maxHeartbeats 2000000
set_option maxRecDepth 100000
open Go.RowKit
def ik(w:J) (S:List Nat) (v:tS):Prop:=
 (S=[]∧v=O Y 0 0)∨∃b off cap,v=O (A ⟨b,off,Y⟩) S.length cap∧S.length≤100∧b<w.heap.size∧∀(i k:Nat),S[i]?=A k→w.cell? ⟨b,off+i,Y⟩=A (I r8 (k:Int))
theorem ik.C{w w':J}{S:List Nat}{v:tS}(h:ik w S v)(c:Kr w w'):ik w' S v:=by
 rcases h with h|⟨b,off,cap,d,e,a,f⟩
 ·exact Or.inl h
 ·exact Or.inr ⟨b,off,cap,d,e,JS a c.size,fun i k g=>(c.cell (p:=⟨b,off+i,Y⟩) a).trans (f i k g)⟩
theorem ik.q{w:J}{S:List Nat}{v:tS}(h:ik w S v):∃p c,v=O p S.length c∧S.length≤100∧∀(i k:Nat),S[i]?=A k→∃b off,p=A ⟨b,off,Y⟩∧w.cell? ⟨b,off+i,Y⟩=A (I r8 (k:Int)):=by
 rcases h with ⟨rfl,rfl⟩|⟨b,off,cap,rfl,d,_,e⟩
 ·exact⟨Y,0,Z,by simp,fun i k a=>by simp at a⟩
 ·exact⟨_,cap,Z,d,fun i k a=>⟨b,off,Z,e i k a⟩⟩
theorem zA{α:Type}(p:α→Bool)(l:List α)(k:Nat)(x:α)(a:l[k]?=A x)(h:(l.take k).any p=ur)(b:p x=ur):(l.take (k+1)).any p=false:=by rw[Kj,a,List.any_append,h];simp[b]
theorem IB{α:Type}(p:α→Bool)(l:List α)(k:Nat)(x:α)(a:l[k]?=A x)(h:p x=tT):l.any p=true:=
 List.any_eq_true.2 ⟨x,J8 a,h⟩
theorem B6(S:List Nat)(v:tS)(x:Nat)(w:J)(h:ik w S v) :
  vv va 219 #[v,I r8 (x:Int)] w fun e w'=>(∃i:Int,e=wg (I U i)∧decide (0≤i)=S.any (· == x))∧w=w':=by
 obtain⟨p,c,rfl,u,q⟩:=h.q;obtain⟨n,f⟩:=zzy (S.length);rw[f]at u ⊢;obtain⟨z,g⟩:=zz2 q f;clear q f h
 go_enter Tryz.func219,Tryz.ntmps219
 go_wp2_with fail
 go_loop [8,5] (fun i _=>∃k:Nat,k≤n∧i=I U k∧(S.take k).any (· == x)=ur) (fun i _=>n-(intOf i).toNat)
 case atStart=>exact⟨0,J0 _,Z,Z⟩
 case round =>
  obtain⟨k,B,rfl,a⟩:=hrel;have r:=Hd a;clear a
  by_cases d:k<n
  ·obtain⟨y,j⟩:∃y,S[k]?=A y:=⟨S[k]'(by rw[g.o];exact d),JR (by rw[g.o];exact d)⟩;obtain⟨b,off,rfl,l⟩:=z.o k y j;have s:=Hd j;clear j
   cases t:((x:Int)==(y:Int))
   ·have m:=Hd t;go_wp2_with fail
    go_round
    case rel =>
     refine⟨k+1,by omega,by go_num,zA (· == x) _ _ _ s.o r.o ?_⟩;have:=m.o;simp at this ⊢;omega
    case measure=>simp[intOf];omega
   ·have m:=Hd t;go_wp2_with fail
    go_ret;refine⟨⟨k,Z,?_⟩,Z⟩;rw[IB (· == x) _ _ _ s.o (by have:=m.o;simp at this ⊢;omega)];simp
  ·go_wp2_with fail
   go_ret;refine⟨⟨-1,Z,?_⟩,Z⟩;have e:S.take k=S:=J5 (by rw[g.o];omega);have:=r.o;rw[e]at this;rw[this];rfl
theorem wG(S:List Nat)(v:tS)(x:Nat)(w:J)(h:ik w S v) :
  vv va 206 #[v,I r8 (x:Int)] w fun e w'=>e=wg (xt (S.contains x))∧w=w':=by
 have a:=Hd (B6 S v x w h);have he:S.any (· == x)=S.contains x:=by rw[List.contains_eq_any_beq];congr 1;funext y;rw[Bool.beq_comm]
 rw[he]at a;clear he h
 go_enter Tryz.func206,Tryz.ntmps206
 go_wp2_with (go_at_call 219;refine JX a.o ?_;rintro e w' ⟨⟨i,rfl,hi⟩,rfl⟩;have b:=Hd hi;clear hi)
 go_ret;exact⟨by rw[←b.o];rfl,Z⟩
theorem aU(p:Option z7)(n c:Nat)(w:J) :
  vv va 178 #[O p n c] w fun e w'=>e=wg (Value.func (.func 205) #[] #[vo (A ⟨w.heap.size,0,Y⟩)])∧w'=w.alloc (r7 #[O p n c] 306):=by
 go_enter Tryz.func178,Tryz.ntmps178
 go_wp2_with fail
 go_ret;exact⟨Z,Z⟩
def Ht(w:J) (S:List Nat) (ks:List ac) (n:Nat) (i:tS) (W:J):Prop:=∃(a:J) (k:Nat),a=W∧k≤n∧i=I U k∧Kr w a∧cE S (ks.take k)=tT
theorem BU(S:List Nat)(ks:List ac)(k:Nat)(t:ac)(h:ks[k]?=A t)(a:cE S (ks.take k)=tT)(b:S.contains t.q=tT):cE S (ks.take (k+1))=true:=by
 unfold cE at *;rw[Kj,h,List.all_append,a]
 simpa using b
theorem Ge(S:List Nat)(ks:List ac)(k:Nat)(t:ac)(h:ks[k]?=A t)(a:S.contains t.q=ur):cE S ks=false:=by
 unfold cE;rw[List.all_eq_false];exact⟨t,J8 h,by simpa using a⟩
theorem ki(S:List Nat)(ks:List ac)(v M:tS)(d B b:Nat)(w:J)(C:ax w B d ks v)(hB:B≤w.heap.size)(D:ks.length≤20000)(E:ik w S M)(N:b<w.heap.size)(P:w.cell? ⟨b,0,Y⟩=A M) :
  vv va 205 #[v,vo (A ⟨b,0,Y⟩)] w (aZ (cE S ks) w):=by
 obtain⟨p,c,rfl,_,l⟩:=C.rows;obtain⟨q,cq,rfl,_,_⟩:=E.q;obtain⟨n,F⟩:=zzy (ks.length);rw[F]at D ⊢;obtain⟨G,u,T,V⟩:=zz4 F l E P;clear l E C F P
 go_enter Tryz.func205,Tryz.ntmps205
 go_wp2_with fail
 go_loopw [8] (Ht w S ks n) (fun i _=>n-(intOf i).toNat)
 case atStart=>exact⟨_,0,Z,J0 _,Z,JO _ _,Z⟩
 case round =>
  obtain⟨z,k,rfl,C,rfl,a,m⟩:=hrel;obtain⟨Q,g⟩:=zz2 m a;clear m
  by_cases x:k<n
  ·obtain⟨t,H⟩:∃t,ks[k]?=A t:=⟨ks[k]'(by rw[G.o];exact x),JR (by rw[G.o];exact x)⟩;obtain⟨_,b',off,rfl,K,r⟩:=u.o k t H;obtain⟨p',l',c',d0,d1,d2,d3,d4,_⟩:=r.node (a.mono hB) K;have X:=(a.cell (p:=⟨b,0,Y⟩) N).trans V.o;have ad:=JS N a.size;obtain⟨L,R⟩:=zz2 (T.o.C a) H;have af:(0:Int)≤k:=by omega
   have aq:(k:Int)<n:=by omega
   have y:∀o:Obj,Kr z (z.alloc o):=fun o=>(JO _ z).alloc (JM _) o
   have h:=Hd (fun W (hW:Kr z W)=>wG S _ t.q W (L.o.C hW));have j:=Hd y;clear r H a y
   cases f:S.contains t.q
   ·rw[f]at h;have s:=Hd f;clear f;go_wp2_with fail
    refine JX (h.o _ (j.o _)) ?_;rintro e W2 ⟨rfl,rfl⟩;go_wp2_with fail
    go_ret;exact⟨bN (Ge S ks k t R.o s.o).symm,g.o.trans ((j.o _).mono g.o.size)⟩
   ·rw[f]at h;have s:=Hd f;clear f;go_wp2_with fail
    refine JX (h.o _ (j.o _)) ?_;rintro e W2 ⟨rfl,rfl⟩;go_wp2_with fail
    exact⟨⟨_,k+1,Z,by omega,by go_num,g.o.trans ((j.o _).mono g.o.size),BU S ks k t R.o Q.o s.o⟩,by simp[intOf];omega⟩
  ·obtain rfl:k=n:=by omega
   go_wp2_with fail
   go_ret;refine⟨bN ?_,g.o⟩;have:=Q.o;rw[J5 (by rw[G.o];exact JM _)]at this;exact this.symm
theorem oY(l:List UInt8):Lib.hasPrefix l [45]=fH l:=by
 unfold Lib.hasPrefix fH
 cases l with
 | nil=>rfl
 | cons c r =>
  by_cases h:c=45
  ·subst h;rfl
  ·have:(45==c)=false:=by simpa using fun e:(45:UInt8)=c=>h e.symm
   simp only[List.isPrefixOf,this,Bool.false_and]
   split
   ·rename_i heq;injection heq with heq;exact absurd heq h
   ·rfl
theorem uo(s:ByteArray)(w:J):vv va 175 #[r9 s,r9 ⟨#[45]⟩] w fun e w'=>e=wg (xt (fH s.data.toList))∧w=w':=
 (Tryz.strings_HasPrefix s ⟨#[45]⟩ w).mono fun e w' ⟨a,b⟩=>⟨by rw[a,←oY],b.symm⟩
def oq(t:ac):Bool:=t.q==14&&fH t.h.data.toList
theorem ve(l:List ac):ej l=(l.all (fun t=>!oq t)&&cE [13,14,15,16] l):=rfl
theorem su{α:Type}(p:α→Bool)(l:List α)(k:Nat)(x:α)(a:l[k]?=A x)(h:(l.take k).all p=tT)(b:p x=tT):(l.take (k+1)).all p=true:=by rw[Kj,a,List.all_append,h];simpa using b
theorem IJ{α:Type}(p:α→Bool)(l:List α)(k:Nat)(x:α)(a:l[k]?=A x)(b:p x=ur):l.all p=false:=by rw[List.all_eq_false];exact⟨x,J8 a,by simp[b]⟩
def Je(w:J) (p:ac→Bool) (ks:List ac) (n:Nat) (i:tS) (W:J):Prop:=∃(a:J) (k:Nat),a=W∧k≤n∧i=I U k∧Kr w a∧(ks.take k).all p=tT
theorem Ex(w:J)(S:List Nat)(a:S.length≤100)(arr:Array tS)(b:arr=(S.map fun k:Nat=>I r8 (k:Int)).toArray)(n:Nat)(c:S.length=n):ik (w.alloc (r7 arr 142)) S (O (A ⟨w.heap.size,0,Y⟩) n n):=by
 subst b;subst c;refine Or.inr ⟨w.heap.size,0,S.length,Z,a,by simp,fun i k d=>?_⟩;rw[Kq _ _ _ _ _ _ (oc w _)];simp[d]
theorem pN(S:List Nat)(g:S.length≤100)(arr:Array tS)(h:arr=(S.map fun k:Nat=>I r8 (k:Int)).toArray)(n:Nat)(i:S.length=n)(ks:List ac)(v:tS)(d B:Nat)(a:J)
  (j:ax a B d ks v) (hB:B≤a.heap.size) (c:ks.length≤20000) :
  vv va 205 #[v,vo (A ⟨a.heap.size+1,0,Y⟩)] ((a.alloc (r7 arr 142)).alloc (r7 #[O (A ⟨a.heap.size,0,Y⟩) n n] 306)) (aZ (cE S ks) a):=by
 have b:=mw a (r7 arr 142) (r7 #[O (A ⟨a.heap.size,0,Y⟩) n n] 306);have f:=(Ex a S g arr h n i).C ((JO _ _).alloc (JM _) (r7 #[O (A ⟨a.heap.size,0,Y⟩) n n] 306));have l:=(bc a (r7 arr 142) (r7 #[O (A ⟨a.heap.size,0,Y⟩) n n] 306)).2.1;have m:=Kq _ _ 0 _ _ _ l;refine (ki S ks v _ d B (a.heap.size+1) _ (j.C (b.mono hB)) (JU hB b.size) c f (by simp) m).mono ?_;rintro e W ⟨he,o⟩;exact⟨he,b.trans (o.mono b.size)⟩
theorem jk(ks:List ac)(v:tS)(d B:Nat)(w:J)(z:ax w B d ks v)(hB:B≤w.heap.size)(q:ks.length≤20000) :
  vv va 181 #[v] w (aZ (ej ks) w):=by
 have l:=z;obtain⟨p,c,rfl,_,f⟩:=z.rows;obtain⟨n,E⟩:=zzy (ks.length);rw[E]at q l ⊢;obtain⟨C,r,Q⟩:=zz3 E f l;clear f z E l
 go_enter Tryz.func181,Tryz.ntmps181
 go_wp2_with fail
 go_loopw [7] (Je w (fun t=>!oq t) ks n) (fun i _=>n-(intOf i).toNat)
 case atStart=>exact⟨_,0,Z,J0 _,Z,JO _ _,Z⟩
 case round =>
  obtain⟨D,k,rfl,z,rfl,b,g⟩:=hrel;obtain⟨F,a⟩:=zz2 g b;clear g
  by_cases s:k<n
  ·obtain⟨t,G⟩:∃t,ks[k]?=A t:=⟨ks[k]'(by rw[C.o];exact s),JR (by rw[C.o];exact s)⟩;obtain⟨_,b',off,rfl,H,h⟩:=r.o k t G;obtain⟨X,l',c',d0,d1,d2,d3,d4,_⟩:=h.node (b.mono hB) H;have K:=Hd G;have R:(0:Int)≤k:=by omega
   have S:(k:Int)<n:=by omega
   have u:∀o:Obj,Kr D (D.alloc o):=fun o=>(JO _ D).alloc (JM _) o
   obtain⟨N,m⟩:=zz2 (fun W=>uo t.h W) u;clear h G b u
   cases x:((t.q:Int)==14)
   ·have L:=Hd (show (!oq t)=tT by unfold oq;rw[show (t.q==14)=ur by simp at x ⊢;omega];rfl);go_wp2_with fail
    exact⟨⟨_,k+1,Z,by omega,by go_num,a.o.trans ((m.o _).mono a.o.size),su _ ks k t K.o F.o L.o⟩,by simp[intOf];omega⟩
   ·have j:(t.q==14)=true:=by simp at x ⊢;omega
    have P:Hid (oq t=fH t.h.data.toList):=by
     show oq t=_
     unfold oq;rw[j];rfl
    clear j;generalize fH t.h.data.toList=T at *
    cases T
    ·go_wp2_with fail
     refine JX (N.o _) ?_;rintro e W2 ⟨rfl,rfl⟩;go_wp2_with fail
     exact⟨⟨_,k+1,Z,by omega,by go_num,a.o.trans ((m.o _).mono a.o.size),su _ ks k t K.o F.o (by show (!oq t)=tT;rw[P.o];rfl)⟩,by simp[intOf];omega⟩
    ·go_wp2_with fail
     refine JX (N.o _) ?_;rintro e W2 ⟨rfl,rfl⟩;go_wp2_with fail
     go_ret;refine⟨bN ?_,a.o.trans ((m.o _).mono a.o.size)⟩;rw[ve,IJ _ ks k t K.o (by show (!oq t)=ur;rw[P.o];rfl)];rfl
  ·obtain rfl:k=n:=by omega
   have V:=Hd (pN [13,14,15,16] (by decide) #[I r8 13,I r8 14,I r8 15,I r8 16] Z 4 Z ks _ d B D (Q.o.C (b.mono hB)) (JU hB b.size) (by rw[C.o];exact q));clear b;go_wp2_with (go_at_call 178;refine (aU _ _ _ _).mono ?_;rintro e W2 ⟨rfl,rfl⟩)
   refine JX V.o ?_;rintro e W2 ⟨rfl,y⟩;have M:=Hd (a.o.trans (y.mono a.o.size));clear y;go_wp2_with fail
   go_ret;refine⟨bN ?_,M.o⟩;have:=F.o;rw[J5 (by rw[C.o];exact JM _)]at this;rw[ve,this];rfl
def BZ(l:List ac):Bool:=l.length==1&&ej l
def Gk(l:List ac):Bool:=decide (0<l.length)&&ej l
theorem zu(ks:List ac)(v:tS)(d B:Nat)(w:J)(f:ax w B d ks v)(hB:B≤w.heap.size)(g:ks.length≤20000) :
  vv va 180 #[v] w (aZ (BZ ks) w):=by
 have l:=Hd (jk ks v d B w f hB g);have j:Hid (BZ ks=(ks.length==1&&ej ks)):=rfl;obtain⟨p,c,rfl,_,b⟩:=f.rows;generalize ej ks=x at *;generalize BZ ks=y at *;generalize ks.length=n at *;clear b f
 go_enter Tryz.func180,Tryz.ntmps180
 cases k:((n:Int)==1)
 ·have a:(n==1)=false:=by simp at k ⊢;omega
  have h:=Hd a;clear a;go_wp2_with fail
  go_ret;exact⟨bN (by rw[j.o,h.o];rfl),JO _ _⟩
 ·have a:(n==1)=true:=by simp at k ⊢;omega
  have h:=Hd a;clear a;go_wp2_with fail
  refine JX l.o ?_;rintro e W2 ⟨rfl,i⟩;go_wp2_with fail
  go_ret;exact⟨bN (by rw[j.o,h.o];rfl),i⟩
theorem zk(ks:List ac)(v:tS)(d B:Nat)(w:J)(b:ax w B d ks v)(hB:B≤w.heap.size)(f:ks.length≤20000) :
  vv va 182 #[v] w (aZ (Gk ks) w):=by
 have i:=Hd (jk ks v d B w b hB f);have h:Hid (Gk ks=(decide (0<ks.length)&&ej ks)):=rfl;obtain⟨p,c,rfl,_,a⟩:=b.rows;generalize ej ks=x at *;generalize Gk ks=y at *;generalize ks.length=n at *;clear a b
 go_enter Tryz.func182,Tryz.ntmps182
 by_cases j:0<n
 ·have k:=Hd j;have l:(0:Int)<n:=by omega
  go_wp2_with fail
  refine JX i.o ?_;rintro e W2 ⟨rfl,g⟩;go_wp2_with fail
  go_ret;exact⟨bN (by rw[h.o];simp[k.o]),g⟩
 ·obtain rfl:n=0:=by omega
  go_wp2_with fail
  go_ret;exact⟨bN (by rw[h.o];rfl),JO _ _⟩
theorem ax.part{w:J}{B d:Nat}{ks:List ac}{b off c:Nat}(h:ax w B d ks (O (A ⟨b,off,Y⟩) ks.length c))(i m:Nat)(a:i+m≤ks.length)(z:ks.length≤c)(o:c≤maxLen) :
  ax w B d ((ks.drop i).take m) (O (A ⟨b,off+i*5,Y⟩) m (c-i)):=by
 have hlen:((ks.drop i).take m).length=m:=by simp;omega
 by_cases hm:m=0
 ·subst hm
  cases d with
  | zero=>exact⟨by simp,_,_,Z⟩
  | succ d=>exact Or.inl ⟨by simp,_,_,Z⟩
 ·rcases h.cases with ⟨p,_⟩|⟨C,b',n,cap,rfl,q,r,s,t,g,f⟩
  ·rw[p]at a;simp at a;omega
  ·injection g with k D u
   injection k with k
   injection k with v x
   subst v;subst x;subst u;refine Or.inr ⟨b,off+i*5,c-i,?_,r,by omega,by omega,by rw[hlen],fun j T l=>?_⟩
   ·intro e;rw[e]at hlen;simp at hlen;omega
   ·have y:j<m:=by have:=(J3.1 l).1;omega
    rw[List.getElem?_take,oj y,List.getElem?_drop]at l;have:=f (i+j) T l;rw[Nat.add_mul]at this
    simpa only [Nat.add_assoc]using this
theorem ax.caps{w:J}{B d:Nat}{ks:List ac}{p:Option z7}{n c:Nat}(h:ax w B d ks (O p n c)):n=ks.length∧(0<n→∃b off,p=A ⟨b,off,Y⟩∧b<B∧n≤c∧c≤maxLen):=by
 rcases h.cases with ⟨rfl,sp,cap,e⟩|⟨r,b',i,cap,rfl,k,l,a,f,g,j⟩
 ·injection e with _ e _
  subst e;exact⟨Z,fun h=>absurd h (by omega)⟩
 ·injection g with m o q
  subst m;subst o;subst q;exact⟨Z,fun _=>⟨_,_,Z,l,a,f⟩⟩
theorem mB(W:J):(sizeOf (Tryz.prog.elem 143)).run va W=.ok 5 W:=by kernel_rfl
theorem zt(b off n c l h:Nat)(W:J)(d:l<c)(e:l≤h)(f:h≤c) :
  (Instr.slice 143 (O (A ⟨b,off,Y⟩) n c) (A (I U l)) (A (I U h)) Y).run va W=.ok (O (A ⟨b,off+l*5,Y⟩) (h-l) (c-l)) W:=by
 rw[run_slice_lh W 143 (A ⟨b,off,Y⟩) n c (by kernel_rfl) U U l h (by omega) (by omega) (by omega),mB]
 show Result.ok (sliced _ _ _ _ _) W=_
 unfold sliced;rw[Int.toNat_natCast,Int.toNat_natCast,oe (by omega)];simp only[Option.map_some,Addr.add]
 by_cases a:l*5=0
 ·rw[oj a,a];rfl
 ·rw[oe a]
theorem Bp(b off n c l:Nat)(e:l≤n)(f:n≤c):∃q:Option z7,(∀W:J,(Instr.slice 143 (O (A ⟨b,off,Y⟩) n c) (A (I U l)) Y Y).run va W=.ok (O q (n-l) (c-l)) W)∧(l<n→q=A ⟨b,off+l*5,Y⟩):=by
 refine⟨if c=l then A ⟨b,off,Y⟩ else A ⟨b,off+l*5,Y⟩,fun W=>?_,fun h=>by rw[oe (by omega)]⟩;rw[run_slice_l W 143 (A ⟨b,off,Y⟩) n c (by kernel_rfl) U l (by omega) (by omega),mB]
 show Result.ok (sliced _ _ _ _ _) W=_
 unfold sliced;rw[Int.toNat_natCast]
 by_cases a:c=l
 ·rw[oj a,oj a]
 ·rw[oe a,oe a];simp only[Option.map_some,Addr.add]
  by_cases d:l*5=0
  ·rw[oj d,d];rfl
  ·rw[oe d]
theorem Fe(W:J)(c:Nat):(Instr.slice 143 (O Y 0 c) (A (I U ((0:Nat):Int))) Y Y).run va W=.ok (O Y 0 (c-0)) W:=by
 rw[run_slice_l W 143 Y 0 c (by kernel_rfl) U ((0:Nat):Int) (by omega) (by omega),mB]
 show Result.ok (sliced _ _ _ _ _) W=_
 unfold sliced
 by_cases a:c=0
 ·subst a;rfl
 ·rw[oe (by simpa using a)];rfl
theorem ax.tail{w:J}{B d:Nat}{ks:List ac}{p:Option z7}{n c:Nat}(h:ax w B d ks (O p n c))(k:Nat)(o:k≤n) :
  ∃q:Option z7,(∀W:J,(Instr.slice 143 (O p n c) (A (I U k)) Y Y).run va W=.ok (O q (n-k) (c-k)) W)∧ax w B d (ks.drop k) (O q (n-k) (c-k)):=by
 obtain⟨l,f⟩:=h.caps
 by_cases r:0<n
 ·obtain⟨b,off,rfl,u,m,hm⟩:=f r;obtain⟨q,s,t⟩:=Bp b off n c k o m;refine⟨q,s,?_⟩
  by_cases i:k<n
  ·rw[t i];subst l;have:=h.part k (ks.length-k) (by omega) m hm
   rwa [J5 (by simp)]at this
  ·have e:n-k=0:=by omega
   rw[e]
   cases d with
   | zero=>exact⟨List.drop_eq_nil_of_le (by omega),_,_,Z⟩
   | succ d=>exact Or.inl ⟨List.drop_eq_nil_of_le (by omega),_,_,Z⟩
 ·obtain rfl:n=0:=by omega
  obtain rfl:k=0:=by omega
  have j:ks=[]:=Kb l.symm;subst j
  cases p with
  | none =>
   refine⟨Y,fun W=>Fe W c,?_⟩
   cases d with
   | zero=>exact⟨Z,_,_,Z⟩
   | succ d=>exact Or.inl ⟨Z,_,_,Z⟩
  | some a =>
   refine⟨A a,fun W=>?_,?_⟩
   ·rw[run_slice_l W 143 (A a) 0 c (by kernel_rfl) U ((0:Nat):Int) (by omega) (by omega),mB]
    show Result.ok (sliced _ _ _ _ _) W=_
    unfold sliced
    by_cases g:c=0
    ·subst g;rfl
    ·rw[oe (by simpa using g)];simp[Addr.add]
   ·cases d with
    | zero=>exact⟨Z,_,_,Z⟩
    | succ d=>exact Or.inl ⟨Z,_,_,Z⟩
def Jh(w:J) (ks:List ac) (n:Nat) (i:tS) (W:J):Prop:=∃(a:J) (k:Nat),a=W∧k≤n∧i=I U k∧Kr w a∧(ks.take k).all a9=tT
theorem pw{α:Type}(p:α→Bool):∀(l:List α) (k:Nat),(l.take k).all p=tT→(l.drop k).head?.all (fun x=>!p x)=tT→l.dropWhile p=l.drop k:=by
 intro l
 induction l with
 | nil=>intro k _ _;simp
 | cons x l c =>
  intro k b a
  cases k with
  | zero =>
   rw[J6]at a ⊢;simp only[List.head?_cons,Option.all_some,Bool.not_eq_true']at a;rw[List.dropWhile_cons,oe (by simp[a])]
  | succ k =>
   rw[JY,List.all_cons,J4]at b;rw[List.dropWhile_cons,oj b.1,JZ];exact c k b.2 a
theorem tC{a:J}{p q:Option z7}{n c k:Nat}{ks:List ac}
  (h:∀W2,Kr a W2→∃q:Option z7,(∀W:J,(Instr.slice 143 (O p n c) (A (I U k)) Y Y).run va W=.ok (O q (n-k) (c-k)) W)∧
    vv va 205 #[O q (n-k) (c-k),vo (A ⟨W2.heap.size+1,0,Y⟩)] ((W2.alloc (r7 #[I r8 8,I r8 9,I r8 10,I r8 11] 142)).alloc (r7 #[O (A ⟨W2.heap.size,0,Y⟩) 4 4] 306)) (aZ (cE [8,9,10,11] (ks.drop k)) W2))
  {b:J} (d:Kr a b)
  (e:∀W:J,(Instr.slice 143 (O p n c) (A (I U k)) Y Y).run va W=.ok (O q (n-k) (c-k)) W) :
  ∀W2,Kr b W2→vv va 205 #[O q (n-k) (c-k),vo (A ⟨W2.heap.size+1,0,Y⟩)] ((W2.alloc (r7 #[I r8 8,I r8 9,I r8 10,I r8 11] 142)).alloc (r7 #[O (A ⟨W2.heap.size,0,Y⟩) 4 4] 306)) (aZ (cE [8,9,10,11] (ks.drop k)) W2):=by
 intro W2 f;obtain⟨j,g,i⟩:=h W2 (d.trans (f.mono d.size));have:=(e a).symm.trans (g a);simp only[Result.ok.injEq,Value.slice.injEq,and_true]at this;rw[this];exact i
theorem zD(ks:List ac)(v:tS)(d B:Nat)(w:J)(P:ax w B d ks v)(hB:B≤w.heap.size)(ad:ks.length≤20000) :
  vv va 179 #[v] w (aZ (rowB ks) w):=by
 have H:=P;obtain⟨p,c,rfl,_,R⟩:=P.rows;obtain⟨n,hn⟩:=zzy (ks.length);have h:=(ax.caps P).2;rw[hn]at ad H h ⊢;obtain⟨l,HK,af⟩:=zz3 hn H h;clear R P hn H h
 go_enter Tryz.func179,Tryz.ntmps179
 go_wp2_with fail
 go_loopw [3] (Jh w ks n) (fun i _=>n-(intOf i).toNat)
 case atStart=>exact⟨_,0,Z,J0 _,Z,JO _ _,Z⟩
 case round =>
  obtain⟨K,k,rfl,P,rfl,a,F⟩:=hrel;obtain⟨HA,D⟩:=zz2 F a;clear F;have r:∀W2,Kr K W2→∃q:Option z7,(∀W:J,(Instr.slice 143 (O p n c) (A (I U k)) Y Y).run va W=.ok (O q (n-k) (c-k)) W)∧
    vv va 205 #[O q (n-k) (c-k),vo (A ⟨W2.heap.size+1,0,Y⟩)] ((W2.alloc (r7 #[I r8 8,I r8 9,I r8 10,I r8 11] 142)).alloc (r7 #[O (A ⟨W2.heap.size,0,Y⟩) 4 4] 306)) (aZ (cE [8,9,10,11] (ks.drop k)) W2):=by
   intro W2 f;have s:=a.trans (f.mono a.size);obtain⟨q,h1,h2⟩:=(HK.o.C (s.mono hB)).tail k P;exact⟨q,h1,pN [8,9,10,11] (by decide) _ Z 4 Z (ks.drop k) _ d B W2 h2 (JU hB s.size) (by rw[List.length_drop,l.o];omega)⟩
  have E:=Hd r;clear r
  by_cases g:k<n
  ·obtain⟨t,ht⟩:∃t,ks[k]?=A t:=⟨ks[k]'(by rw[l.o];exact g),JR (by rw[l.o];exact g)⟩;obtain⟨b,off,rfl,bb,aq,ar⟩:=af.o (by omega);have a1:=HK.o.C (a.mono hB)
   have u:=Hd (fun W2 (f:Kr K W2)=>(by
    have s:=a.trans (f.mono a.size);have S:=HK.o.C (s.mono hB);rw[←l.o]at S;have h1:=S.part k 1 (by rw[l.o];omega) (by rw[l.o];exact aq) ar;exact pN [5,6,7] (by decide) #[I r8 5,I r8 6,I r8 7] Z 3 Z ((ks.drop k).take 1) _ d B W2 h1 (JU hB s.size) (by simp;omega) :
    Calls Tryz.prog 205 #[.slice (some ⟨b,off+k*5,none⟩) 1 (c-k),.pointer (some ⟨W2.heap.size+1,0,none⟩)] ((W2.alloc (.cells #[.int .u8 5,.int .u8 6,.int .u8 7] 142)).alloc (.cells #[.slice (some ⟨W2.heap.size,0,none⟩) 3 3] 306)) (aZ (cE [5,6,7] ((ks.drop k).take 1)) W2)))
   have G:∀W:J,(Instr.slice 143 (O (A ⟨b,off,Y⟩) n c) (A (I U k)) (A (I U ((k:Int)+1))) Y).run va W=.ok (O (A ⟨b,off+k*5,Y⟩) 1 (c-k)) W:=by
    intro W;have:=zt b off n c k (k+1) W (by omega) (by omega) (by omega);rw[Nat.add_sub_cancel_left]at this;exact this
   have HT:=Hd ht;have T:cE [5,6,7] ((ks.drop k).take 1)=a9 t:=by
    rw[List.drop_eq_getElem_cons (by rw[l.o];exact g)];have:ks[k]'(by rw[l.o];exact g)=t:=by
     have:=HT.o;rw[JR (by rw[l.o];exact g)]at this;exact qv this
    rw[this];simp[cE,a9]
   rw[T]at u;clear a1 ht T;have bd:(0:Int)≤k:=by omega
   have bg:(k:Int)<n:=by omega
   have bk:IntKind.i64.wrap ((k:Int)+1)=(k:Int)+1:=IntWalk.i64_in _ (by omega)
   cases m:a9 t
   ·rw[m]at u;have x:Hid (rowB ks=cE [8,9,10,11] (ks.drop k)):=by
     show _=_
     unfold rowB;rw[pw a9 ks k HA.o];rw[List.drop_eq_getElem_cons (by rw[l.o];exact g)];have:ks[k]'(by rw[l.o];exact g)=t:=by
      have:=HT.o;rw[JR (by rw[l.o];exact g)]at this;exact qv this
     rw[this];simp[m]
    clear m;go_wp2_with fail
    go_region_held3 (fun w'=>True)
     (first|exact trivial)
     (first
      | (go_at_call 178;refine (aU _ _ _ _).mono ?_;rintro e Q ⟨rfl,rfl⟩)
      | (go_at_call 205;refine JX (u.o _ (JO _ K).drew) ?_;rintro e Q ⟨rfl,y⟩))
    have z:=Hd ((JO _ K).drew.trans y);clear y G;obtain⟨q,j,_⟩:=E.o Q z.o;obtain⟨L,C⟩:=zz2 (tC E.o z.o j) (D.o.trans (z.o.mono D.o.size));go_wp2_with fail
    go_region_held3 (fun w'=>True)
     (first|exact trivial)
     (first
      | (go_at_call 178;refine (aU _ _ _ _).mono ?_;rintro e w7 ⟨rfl,rfl⟩)
      | (go_at_call 205;refine JX (L.o _ (JO _ Q).drew) ?_;rintro e w7 ⟨rfl,M⟩))
    go_wp2_with fail
    go_ret;exact⟨bN x.o.symm,C.o.trans (((JO _ Q).drew.trans M).mono C.o.size)⟩
   ·rw[m]at u;have a6:=Hd m;clear m;go_wp2_with fail
    go_region_held3 (fun w'=>True)
     (first|exact trivial)
     (first
      | (go_at_call 178;refine (aU _ _ _ _).mono ?_;rintro e Q ⟨rfl,rfl⟩)
      | (go_at_call 205;refine JX (u.o _ (JO _ K).drew) ?_;rintro e Q ⟨rfl,y⟩))
    have z:=Hd ((JO _ K).drew.trans y);clear y G;go_wp2_with fail
    exact⟨⟨_,k+1,Z,by omega,by go_num,D.o.trans (z.o.mono D.o.size),su a9 ks k t HT.o HA.o a6.o⟩,by simp[intOf];omega⟩
  ·obtain rfl:k=n:=by omega
   have x:Hid (rowB ks=cE [8,9,10,11] (ks.drop k)):=by
    show _=_
    unfold rowB;rw[pw a9 ks k HA.o];rw[List.drop_eq_nil_of_le (by rw[l.o];exact JM _)];rfl
   obtain⟨q,j,_⟩:=E.o K (JO _ _);have N:=tC E.o (JO _ _) j;rw[Nat.sub_self]at j N;have L:=Hd N;clear N;have C:=Hd a;clear a;go_wp2_with fail
   refine ao (by kernel_rfl) (by kernel_rfl) ?_
   repeat (go_big_quiet_step (fail))
   refine wpQuiet_nil ?_;intro W2 V;have f:=bA V;clear V;have ba:=Hd (fun W3 (h3:Kr W2 W3)=>L.o W3 (f.trans (h3.mono f.size)));have X:=Hd (C.o.trans (f.mono C.o.size));clear f;go_wp2_with fail
   go_region_held3 (fun w'=>True)
    (first|exact trivial)
    (first
     | (go_at_call 178;refine (aU _ _ _ _).mono ?_;rintro e w7 ⟨rfl,rfl⟩)
     | (go_at_call 205;refine JX (ba.o _ (JO _ W2).drew) ?_;rintro e w7 ⟨rfl,M⟩))
   go_wp2_with fail
   go_ret;exact⟨bN x.o.symm,X.o.trans (((JO _ W2).drew.trans M).mono X.o.size)⟩
