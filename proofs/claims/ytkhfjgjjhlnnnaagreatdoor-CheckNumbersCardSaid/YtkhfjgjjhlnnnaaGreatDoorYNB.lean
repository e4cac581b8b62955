/- Parts of one proof, joined; conditions stand in each theorem. -/
import Derived.Test.YtkhfjgjjhlnnnaaGreatDoorYNA
import Derived.Test.YtkhfjgjjhlnnnaaGreatDoorShelf
import Derived.Test.YtkhfjgjjhlnnnaaGreatDoorYMA
import Derived.Great.BuildSlice
import Derived.Test.YtkhfjgjjhlnnnaaGreatDoorYMT
import Derived.Test.YtkhfjgjjhlnnnaaGreatDoorYNG
open Go renaming TypeId→CD,Value→wF,World→wD,Addr→Bs
open Option renaming some→Y,none→U
open Go.Value renaming slice→A
open Go.Proofs.Tryz renaming prog→xD
namespace Go.Proofs.YtkhfjgjjhlnnnaaGreatDoor
open Go.RowKit
structure Elem (E S:CD) (n bytes:Nat):Prop where
 und:Tryz.prog.underlying S=Y (.slice E)
 info:∃i z,Tryz.prog.info? E=Y i∧i.zero=Y z∧i.size=n∧i.bytes=bytes∧z.cells.size=n
 pos:0<n
 small:n≤64∧bytes≤1000
theorem Elem.of{E S:CD}{n bytes:Nat}{z:wF}(hu:Tryz.prog.underlying S=Y (.slice E))(a:(Tryz.prog.info? E).map (fun i=>(i.zero,i.size,i.bytes))=Y (Y z,n,bytes))(b:z.cells.size=n)(d:0<n)(e:n≤64∧bytes≤1000):Elem E S n bytes:=by
 obtain⟨i,f,g,h,j⟩:=info_parts a;exact⟨hu,⟨i,z,f,g,h,j,b⟩,d,e⟩
theorem foldl_set:∀(l:List wF) (k:Nat) (a:Array wF),k+l.length≤a.size→∀i,((l.zipIdx k).foldl (fun cs (p:wF×Nat)=>cs.setIfInBounds (0+p.2) p.1) a)[i]?=if k≤i∧i<k+l.length then l[i-k]? else a[i]?
 | [],k,a,_,i=>by simp;omega
 | x::l,k,a,h,i=>by
  rw[Fv]at h;rw[List.zipIdx_cons,List.foldl_cons,foldl_set l (k+1) _ (by simp;omega) i];rw[Fv]
  by_cases d:i=k
  ·subst d;rw[qv (by omega),rv (by omega),Nat.zero_add,Array.getElem?_setIfInBounds_self,rv (by omega),Nat.sub_self];rfl
  ·by_cases b:k+1≤i∧i<k+1+l.length
   ·rw[rv b,rv (by omega),show i-k=(i-(k+1))+1 by omega,FC]
   ·rw[qv b,qv (by omega),Nat.zero_add,Array.getElem?_setIfInBounds_ne (by omega)]
theorem CG(n:Nat)(cells:Array wF)(v:wF)(e:cells.size=1*n)(d:v.cells.size=n):Instr.fill (fun i=>Y (i*n,n)) cells [(0,v)]=Y v.cells:=by
 have a:(decide (v.cells.size≠n)||decide (0*n+v.cells.size > cells.size))=false:=by
  have b:cells.size=n:=by omega
  rw[Nat.zero_mul,d,b];simp
 unfold Instr.fill;dsimp only;rw[a];unfold Instr.fill;simp only[Fo,sm,Nat.zero_mul]
 congr 1
 rw[←Array.foldl_toList,Array.toList_zipIdx];apply Array.ext_getElem?;intro i;have h:=foldl_set v.cells.toList 0 cells (by rw[Fq,d,e];omega) i;rw[h];have f:v.cells.toList.length=v.cells.size:=Fq
 by_cases g:i<n
 ·rw[rv (by omega)];simp
 ·rw[qv (by omega),FD (by omega),FD (by omega)]
section
variable {E S:CD} {sz bytes:Nat}
def One(E:CD) (L:Nat) (vs:List wF) (W:wD) (v:wF):Prop:=∃g,v=A (Y ⟨g,0,U⟩) 1 1∧L≤g∧W.heap[g]?=Y (Obj.cells vs.toArray E (0,0))
theorem One.z{L:Nat}{vs:List wF}{W W':wD}{v:wF}(h:One E L vs W v)(b:FK W W'):One E L vs W' v:=by
 obtain⟨g,d,e,a⟩:=h;exact⟨g,d,e,aa b a (EN.1 a).1⟩
theorem cB(e:Elem E S sz bytes){o:Oper}{a:Act}{W:wD}{G:wF→wD→Prop}{L:Nat}{vs:List wF}(x:Operand)(i:o.op=.buildSlice S 1 #[(0,x)])(h:(a.eval x).cells=vs.toArray)(j:vs.length=sz)(k:L≤W.heap.size)
  (l:∀v W',FK W W'→One E L vs W' v→G v W'):RE.Upon xD o a W G:=by
 obtain⟨i0,z,f,g,b,m,q⟩:=e.info;have d:(execOp a.eval o).run xD W=.ok (.value (A (Y ⟨W.heap.size,0,U⟩) 1 1)) (W.alloc (Obj.cells vs.toArray E)):=by
  unfold execOp;simp only[i,th]
  rw[run_buildSlice W S E 1 _ vs.toArray i0 z e.und f g (by rw[b];have:=e.small;omega) (by rw[b];have:=e.pos;omega) (by
   have t:(#[(0,x)].map fun (x:Nat×Operand)=>(x.1,a.eval x.2)).toList=[(0,a.eval x)]:=by simp
   rw[t,b]
   rw[CG sz _ _ (by simp) (by rw[h];simpa using j),h])]
  rfl
 exact RE.upon_run d (l _ _ ((EP _ W).alloc (EO _) _) ⟨_,V,k,p9 W _⟩)
theorem qB(l:Elem E S sz bytes){W:wD}{p:Option Bs}{n c g9:Nat}{xs z:List wF}(ty:CD)(d:W.ownsRow 0 E sz (A p n c) n xs)(X:W.heap[g9]?=Y (Obj.cells z.toArray E (0,0)))(ad:z.length=sz)(L:∀u∈z,u.oneCell'=true)(hn:n≤10000) :
  ∃k w',(Builtin.append_ #[S,S] ty #[A p n c,A (Y ⟨g9,0,U⟩) 1 1]).run xD W=.ok k w'∧w'.ownsRow 0 E sz k (n+1) (xs++z)∧
   ((n<c∧∃g,p=Y ⟨g,0,U⟩∧k=A p (n+1) c∧W.grownBy w' (Y g))∨(¬n<c∧∃cap,k=A (Y ⟨W.heap.size,0,U⟩) (n+1) cap∧FK W w')):=by
 obtain⟨i0,zz,m,w,f,x,y⟩:=l.info;have B:=l.small;have C:=l.pos;have a:∀j u,z[j]?=Y u→W.cell? ((⟨g9,0,U⟩:Bs).add j)=Y u:=fun j u hj=>by
  have e:(⟨g9,0,U⟩:Bs).add j=⟨g9,j,U⟩:=by
   unfold Addr.add
   by_cases D:j=0
   ·subst D;rfl
   ·rw[qv D];simp
  rw[e,FI _ _ _ _ _ _ X]
  simpa using hj
 have H:(n+1)*bytes≤140737488355328:=by
  have:(n+1)*bytes≤10001*1000:=Nat.mul_le_mul (by omega) B.2;omega
 obtain⟨k,w',M,b,i⟩:=jx (P:=xD) W 0 S ty E i0 zz sz bytes l.und m w f x y C (A p n c) n xs d ⟨g9,0,U⟩ 1 1 z (by omega) a L (by unfold maxLen;omega) H (Fa _) (by decide);refine⟨k,w',M,b,?_⟩;rcases i with ⟨g,cap,q,K,e3⟩|⟨cap,q,K⟩
 ·injection q with f1 f2 f3
  subst f1;subst f3;subst K
  left
  refine⟨?_,g,V,V,e3⟩;rcases b.2 with ⟨h,_⟩|⟨_,_,_,h,_,_,h2,_⟩
  ·cases h
  ·injection h with _ _ N
   omega
 ·right
  refine⟨fun hc=>?_,cap,q,K⟩;rcases d.2 with ⟨h,D⟩|⟨g,Q,cur,h,_,R,h2,N,h4,h5⟩
  ·injection h with _ _ N;omega
  ·injection h with f1 _ f3
   subst f1;subst f3
   have o:=run_append_room (P:=xD) W S ty E i0 l.und m g n c cur R ⟨g9,0,U⟩ 1 1 z (by rw[f];omega) a L (by omega) (by
    rw[f,h4];have:=Nat.mul_le_mul_right sz (show n+1≤c from hc);rw[Nat.add_mul,Nat.one_mul]at this
    omega)
   rw[M]at o;injection o with T _
   rw[q]at T;injection T with t _ _
   injection t with t
   injection t with t
   have:=(EN.1 R).1;omega
def ApS(E:CD) (sz:Nat) (w4:wD) (p:Option Bs) (n c:Nat) (row:List wF) (W:wD):Prop:=
 if n<c then Chg (fun x=>(A p n c).ownBlock=Y x) w4 W∧W.ownsRow 0 E sz (A p (n+1) c) (n+1) row else ∃x:Wb w4,W=x.1
def ApV(E:CD) (sz:Nat) (w4:wD) (p:Option Bs) (n c:Nat) (row:List wF) (W:wD) (v:wF):Prop:=
 if n<c then v=A p (n+1) c∧∃g,p=Y ⟨g,0,U⟩ else ∃g cap,v=A (Y ⟨g,0,U⟩) (n+1) cap∧w4.heap.size≤g∧W.ownsRow 0 E sz v (n+1) row
def ApR(w4 W W':wD):Prop:=∀b,w4.heap.size≤b→b<W.heap.size→W'.heap[b]?=W.heap[b]?
theorem ApR.f{w4 W W':wD}(h:FK W W'):ApR w4 W W':=fun b _ a=>h.block b a
theorem ApV.C{w4 W W':wD}{p:Option Bs}{n c:Nat}{row:List wF}{v:wF}(h:ApV E sz w4 p n c row W v)(j:ApR w4 W W'):ApV E sz w4 p n c row W' v:=by
 unfold ApV at *
 split
 ·rename_i b;rw[rv b]at h;exact h
 ·rename_i b
  rw[qv b]at h;obtain⟨g,cap,d,e,f⟩:=h;refine⟨g,cap,d,e,dC f fun i a=>?_⟩;have k:=(eM f i a).2;rw[d]at a;injection a with a
  have a:g=i:=a;subst a;exact j g e k
theorem One.C{w4 W W':wD}{vs:List wF}{v:wF}(h:One E w4.heap.size vs W v)(d:ApR w4 W W'):One E w4.heap.size vs W' v:=by
 obtain⟨g,e,a,b⟩:=h;exact⟨g,e,a,(d g a (EN.1 b).1).trans b⟩
theorem eC(L:Elem E S sz bytes){o:Oper}{a:Act}{W w4:wD}{G:wF→wD→Prop}{n c:Nat}{vs:List wF}{p:Option Bs}{xs:List wF}(s y:Operand)(q:o.op=.call { callee:=.builtin .append,args:=#[s,y],argTypes:=#[S,S] })
  (M:a.eval s=A p n c) (t:One E w4.heap.size vs W (a.eval y)) (N:vs.length=sz) (P:∀u∈vs,u.oneCell'=true) (h:FK w4 W) (i:w4.ownsRow 0 E sz (A p n c) n xs) (Q:n≤10000)
  (H:∀m W',ApS E sz w4 p n c (xs++vs) W'→ApR w4 W W'→ApV E sz w4 p n c (xs++vs) W' m→G m W'):RE.Upon xD o a W G:=by
 obtain⟨g9,t,_,w⟩:=t;obtain⟨m,w',R,f,j⟩:=qB L (p:=p) (c:=c) (z:=vs) o.type (cY i h) w N P Q;have k:(execOp a.eval o).run xD W=.ok (.value m) w':=by simp[execOp,q,resolve,invoke,builtin,M,t,R,Result.andThen]
 refine RE.upon_run k ?_;rcases j with ⟨l,g,rfl,rfl,d⟩|⟨l,cap,rfl,B⟩
 ·have T:g<w4.heap.size:=(eM i g V).2;refine H _ _ ?_ (fun b B C=>d.block b C (fun e=>by injection e with e;omega)) ?_
  ·unfold ApS;rw[rv l];refine⟨⟨d.os.trans h.os,d.tape.trans h.tape,d.output.trans h.output,EU h.size d.size,fun x K D=>?_⟩,f⟩;exact (d.block x (ET K h.size) (fun e=>D e.symm)).trans (h.block x K)
  ·unfold ApV;rw[rv l];exact⟨V,g,V⟩
 ·refine H _ _ ?_ (ApR.f B) ?_
  ·unfold ApS;rw[qv l];exact⟨⟨w',h.trans (B.mono h.size)⟩,V⟩
  ·unfold ApV;rw[qv l];exact⟨_,cap,V,h.size,f⟩
theorem eZ{w4 W:wD}{p:Option Bs}{n c:Nat}{row:List wF}{v:wF}(a:ApS E sz w4 p n c row W)(b:ApV E sz w4 p n c row W v) :
  ∃g cap,v=A (Y ⟨g,0,U⟩) (n+1) cap∧((A p n c).ownBlock=Y g∨w4.heap.size≤g)∧Chg (fun x=>(A p n c).ownBlock=Y x) w4 W∧W.ownsRow 0 E sz (A (Y ⟨g,0,U⟩) (n+1) cap) (n+1) row:=by
 unfold ApS at a;unfold ApV at b
 by_cases e:n<c
 ·rw[rv e]at a b;obtain⟨f,d⟩:=a;obtain⟨rfl,g,rfl⟩:=b;exact⟨g,c,V,Or.inl V,f,d⟩
 ·rw[qv e]at a b;obtain⟨x,rfl⟩:=a;obtain⟨g,cap,rfl,d,h⟩:=b;exact⟨g,cap,V,Or.inr d,Chg.f x.2,h⟩
theorem ApS.z{w4 W W':wD}{p:Option Bs}{n c:Nat}{row:List wF}(h:ApS E sz w4 p n c row W)(a:FK W W'):ApS E sz w4 p n c row W':=by
 unfold ApS at *
 by_cases b:n<c
 ·rw[rv b]at h ⊢;exact⟨h.1.b (Chg.f a),cY h.2 a⟩
 ·rw[qv b]at h ⊢;obtain⟨x,rfl⟩:=h;exact⟨⟨W',x.2.trans (a.mono x.2.size)⟩,V⟩
theorem ApS.h{w4 W:wD}{p:Option Bs}{n c:Nat}{row:List wF}(h:ApS E sz w4 p n c row W):w4.heap.size≤W.heap.size:=by
 unfold ApS at h
 split at h
 ·exact h.1.h
 ·obtain⟨x,rfl⟩:=h;exact x.2.size
def phA(E:CD) (sz:Nat) (w4:wD) (p:Option Bs) (n c:Nat) (vs row:List wF) (i j k:Nat) (W:wD) (ys:List wF):Prop:=
 if k=i then One E w4.heap.size vs W (ys.getD 0 undef) else if k=j then ApV E sz w4 p n c row W (ys.getD 0 undef) else True
theorem phA.C{w4:wD}{p:Option Bs}{n c:Nat}{vs row:List wF}{i j k:Nat}{W W':wD}{ys:List wF}(h:phA E sz w4 p n c vs row i j k W ys)(b:ApR w4 W W'):phA E sz w4 p n c vs row i j k W' ys:=by
 unfold phA at *
 split
 ·rename_i a;rw[rv a]at h;exact h.C b
 ·rename_i a
  rw[qv a]at h
  split
  ·rename_i d;rw[rv d]at h;exact h.C b
  ·trivial
def stA(E:CD) (sz:Nat) (w4:wD) (p:Option Bs) (n c:Nat) (row:List wF) (s:Nat) (W:wD):Prop:=if s=0 then (∃x:Wb w4,W=x.1) else ApS E sz w4 p n c row W
theorem stA.z{w4:wD}{p:Option Bs}{n c:Nat}{row:List wF}{s:Nat}{W W':wD}(h:stA E sz w4 p n c row s W)(b:FK W W'):stA E sz w4 p n c row s W':=by
 unfold stA at *
 split
 ·rename_i a
  rw[rv a]at h;obtain⟨x,rfl⟩:=h;exact⟨⟨W',x.2.trans (b.mono x.2.size)⟩,V⟩
 ·rename_i a
  rw[qv a]at h;exact h.z b
theorem stA.h{w4:wD}{p:Option Bs}{n c:Nat}{row:List wF}{s:Nat}{W:wD}(h:stA E sz w4 p n c row s W):w4.heap.size≤W.heap.size:=by
 unfold stA at h
 split at h
 ·obtain⟨x,rfl⟩:=h;exact x.2.size
 ·exact h.h
theorem stA.zero{w4:wD}{p:Option Bs}{n c:Nat}{row:List wF}:stA E sz w4 p n c row 0 w4.drew:=⟨⟨w4.drew,(EP _ _).drew⟩,V⟩
def Ks(w:wD) (K:Nat→Prop):={W:wD // ∀b,K b→W.heap[b]?=w.heap[b]?}
instance (w:wD) (K:Nat→Prop):Nonempty (Ks w K):=⟨⟨w,fun _ _=>rfl⟩⟩
theorem Ks.b{w:wD}{K:Nat→Prop}(x:Ks w K){b o:Nat}(a:K b){v:wF}(h:w.cell? ⟨b,o,U⟩=Y v):x.1.cell? ⟨b,o,U⟩=Y v:=by
 have e:x.1.cell? ⟨b,o,U⟩=w.cell? ⟨b,o,U⟩:=by unfold World.cell?;rw[x.2 b a]
 rw[e];exact h
theorem gl{w4:wD}{p:Option Bs}{n c:Nat}{row:List wF}{K:Nat→Prop}(d:∀b,K b→b<w4.heap.size∧(A p n c).ownBlock≠Y b):∀(m s:Nat) (W:wD),s≤m→stA E sz w4 p n c row s W→∃x:Ks w4 K,W=x.1:=fun m s W _ h=>by
 unfold stA at h;refine⟨⟨W,fun b f=>?_⟩,V⟩;obtain⟨a,g⟩:=d b f
 split at h
 ·obtain⟨x,rfl⟩:=h;exact x.2.block b a
 ·unfold ApS at h
  split at h
  ·exact h.1.u b a (fun e=>g e)
  ·obtain⟨x,rfl⟩:=h;exact x.2.block b a
end
def aH{α:Type} (W:wD) (F:Nat→Prop) (E:CD) (r:Rd α) (xs:List α) (v:wF):Prop:=∃us,W.ownsRow 0 E r.n v xs.length us∧r.u W F xs us
section
variable {α β:Type} {W W':wD} {F F' G:Nat→Prop} {E E2:CD} {r:Rd α} {s:Rd β} {xs:List α} {ys:List β} {v v2:wF}
theorem aH.nil:aH W F E r [] (A U 0 0):=⟨[],World.ownsRow_nil _ _ _ _,Rd.cells_nil⟩
theorem aH.lt(h:aH W F E r xs v){g:Nat}(a:v.ownBlock=Y g):g<W.heap.size:=by
 obtain⟨us,b,_⟩:=h;exact (eM b g a).2
theorem aH.f(h:aH W F E r xs v){g:Nat}(a:v.ownBlock=Y g):∃cs,W.heap[g]?=Y (Obj.cells cs E (0,0)):=by
 obtain⟨us,⟨_,b⟩,_⟩:=h;rcases b with ⟨rfl,_⟩|⟨d,cap,cur,rfl,_,e,_⟩
 ·cases a
 ·injection a with a
  have a:d=g:=a;subst a;exact⟨cur,e⟩
theorem aH.u(h:aH W F E r xs v)(k:aH W G E2 s ys v2)(b:E≠E2){g:Nat}(d:v.ownBlock=Y g):v2.ownBlock≠Y g:=fun e=>by
 obtain⟨cs,f⟩:=h.f d;obtain⟨i,a⟩:=k.f e;rw[f]at a;injection a with a
 injection a with _ a
 exact b a
theorem aH.b(h:aH W F E r xs v):∃p c,v=A p xs.length c:=by
 obtain⟨us,⟨_,a⟩,_⟩:=h;rcases a with ⟨rfl,b⟩|⟨d,cap,cur,rfl,_,_,e,_⟩
 ·exact⟨U,0,by rw[b]⟩
 ·exact⟨_,_,V⟩
theorem aH.C(a:∀g,v.ownBlock=Y g→W'.heap[g]?=W.heap[g]?)(d:∀b,F b→∀o,W.heap[b]?=Y o→W'.heap[b]?=Y o)(e:∀b,F b→F' b)(h:aH W F E r xs v):aH W' F' E r xs v:=by
 obtain⟨us,f,i⟩:=h;exact⟨us,dC f a,Rd.wj e (Rd.vk d i)⟩
theorem aH.other(h:aH W F E r xs v)(a:Chg (fun x=>v2.ownBlock=Y x) W W')(f:∀g,v.ownBlock=Y g→v2.ownBlock≠Y g)(hF:∀b,F b→b<W.heap.size∧v2.ownBlock≠Y b)(i:∀b,F b→F' b):aH W' F' E r xs v:=
 h.C (fun g d=>a.u g (h.lt d) (f g d)) (fun b e _ j=>(a.u b (hF b e).1 (hF b e).2).trans j) i
theorem aH.z(h:aH W F E r xs v)(a:FK W W')(hF:∀b,F b→b<W.heap.size)(d:∀b,F b→F' b):aH W' F' E r xs v:=
 h.C (fun g e=>a.block g (h.lt e)) (fun b f _ i=>(a.block b (hF b f)).trans i) d
theorem aH.h(h:aH W F E r xs v){M:Nat}(d:v.ownBlock≠Y M)(a:∀b,F b→b≠M)(f:∀b,F b→F' b)(hw:∀b,b≠M→W'.heap[b]?=W.heap[b]?):aH W' F' E r xs v:=
 h.C (fun g i=>hw g (fun e=>d (e ▸ i))) (fun b j _ k=>(hw b (a b j)).trans k) f
theorem aH.K(h:aH W F E r xs v)(a:∀b,F b→G b)(d:∀g,v.ownBlock=Y g→G g):r.K W G xs v:=by
 obtain⟨us,e,f⟩:=h;exact Rd.row_own e (Rd.wj a f) d
theorem aH.N(h:aH W F E r xs v)(a:∀b,F b→F' b):aH W F' E r xs v:=h.C (fun _ _=>rfl) (fun _ _ _ d=>d) a
end
section
variable {E S:CD} {sz bytes:Nat} {W W1 W' w5:wD} {n c:Nat} {p:Option Bs} {row:List wF} {v:wF}
theorem CV(B:Elem E S sz bytes){o:Oper}{a:Act}{L:Nat}{G:wF→wD→Prop}{vs xs:List wF}(s y:Operand)(l:o.op=.call { callee:=.builtin .append,args:=#[s,y],argTypes:=#[S,S] })
  (C:a.eval s=A p n c) (m:One E L vs W (a.eval y)) (D:vs.length=sz) (H:∀u∈vs,u.oneCell'=true) (h:W.ownsRow 0 E sz (A p n c) n xs) (K:n≤10000)
  (w:∀k W',ApS E sz W p n c (xs++vs) W'→ApV E sz W p n c (xs++vs) W' k→G k W'):RE.Upon xD o a W G:=by
 obtain⟨g9,m,_,q⟩:=m;obtain⟨k,w',M,b,f⟩:=qB B (p:=p) (c:=c) (z:=vs) o.type h q D H K;have i:(execOp a.eval o).run xD W=.ok (.value k) w':=by simp[execOp,l,resolve,invoke,builtin,C,m,M,Result.andThen]
 refine RE.upon_run i ?_;rcases f with ⟨j,g,rfl,rfl,d⟩|⟨j,cap,rfl,N⟩
 ·refine w _ _ ?_ ?_
  ·unfold ApS;rw[rv j];exact⟨⟨d.os,d.tape,d.output,d.size,fun x P t=>d.block x P (fun e=>t e.symm)⟩,b⟩
  ·unfold ApV;rw[rv j];exact⟨V,g,V⟩
 ·refine w _ _ ?_ ?_
  ·unfold ApS;rw[qv j];exact⟨⟨w',N⟩,V⟩
  ·unfold ApV;rw[qv j];exact⟨_,cap,V,EO _,b⟩
theorem ApS.chg(h:ApS E sz W1 p n c row W):Chg (fun x=>(A p n c).ownBlock=Y x) W1 W:=by
 unfold ApS at h
 split at h
 ·exact h.1
 ·obtain⟨x,rfl⟩:=h;exact Chg.f x.2
theorem ApV.from(h:ApV E sz W1 p n c row W v)(b:w5.heap.size≤W1.heap.size):ApV E sz w5 p n c row W v:=by
 unfold ApV at *
 split
 ·rename_i a;rw[rv a]at h;exact h
 ·rename_i a
  rw[qv a]at h;obtain⟨g,cap,d,e,f⟩:=h;exact⟨g,cap,d,EU b e,f⟩
theorem ApR.of_chg{F:Nat→Prop}(h:Chg F W W')(hF:∀b,F b→b<w5.heap.size):ApR w5 W W':=fun b e a=>h.u b a (fun d=>by have:=hF b d;omega)
theorem Dv(b:ApS E sz W1 p n c row W)(a:ApV E sz w5 p n c row W v):∃g cap,v=A (Y ⟨g,0,U⟩) (n+1) cap∧((A p n c).ownBlock=Y g∨w5.heap.size≤g)∧Chg (fun x=>(A p n c).ownBlock=Y x) W1 W∧W.ownsRow 0 E sz (A (Y ⟨g,0,U⟩) (n+1) cap) (n+1) row:=by
 have f:=b.chg;unfold ApS at b;unfold ApV at a
 by_cases e:n<c
 ·rw[rv e]at b a;obtain⟨h,d⟩:=b;obtain⟨rfl,g,rfl⟩:=a;exact⟨g,c,V,Or.inl V,h,d⟩
 ·rw[qv e]at a;obtain⟨g,cap,rfl,d,i⟩:=a;exact⟨g,cap,V,Or.inr d,f,i⟩
end
