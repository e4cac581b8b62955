/- Parts of one proof, joined; conditions stand in each theorem. -/
import Derived.Test.YtoonjedifockoaaGreatDoorNA
import Derived.Test.YtoonjedifockoaaGreatDoorShelf
import Derived.Test.YtoonjedifockoaaGreatDoorMA
import Derived.Great.BuildSlice
import Derived.Test.YtoonjedifockoaaGreatDoorMTG
import Derived.Test.YtoonjedifockoaaGreatDoorNG
namespace Go.Proofs.YtoonjedifockoaaGreatDoor
open Go.IntKind(i64)
open Go.Value(int string slice)
open Go.RowKit
structure Elem (E S:TypeId) (n bytes:Nat):Prop where
 und:Tryz.prog.underlying S=some (.slice E)
 info:∃i z,Tryz.prog.info? E=some i∧i.zero=some z∧i.size=n∧i.bytes=bytes∧z.cells.size=n
 pos:0<n
 small:n≤64∧bytes≤1000
theorem Elem.of{E S:TypeId}{n bytes:Nat}{z:Value}(hu:Tryz.prog.underlying S=some (.slice E))(a:(Tryz.prog.info? E).map (fun i=>(i.zero,i.size,i.bytes))=some (some z,n,bytes))(b:z.cells.size=n)(d:0<n)(e:n≤64∧bytes≤1000):Elem E S n bytes:=by
 obtain⟨i,f,g,h,j⟩:=info_parts a;exact⟨hu,⟨i,z,f,g,h,j,b⟩,d,e⟩
theorem foldl_set:∀(l:List Value) (k:Nat) (a:Array Value),k+l.length≤a.size→∀i,((l.zipIdx k).foldl (fun cs (p:Value×Nat)=>cs.setIfInBounds (0+p.2) p.1) a)[i]?=if k≤i∧i<k+l.length then l[i-k]? else a[i]?
 | [],k,a,_,i=>by simp;omega
 | x::l,k,a,h,i=>by
  rw[Fb]at h;rw[List.zipIdx_cons,List.foldl_cons,foldl_set l (k+1) _ (by simp;omega) i];rw[Fb]
  by_cases d:i=k
  ·subst d;rw[n8 (by omega),n9 (by omega),Nat.zero_add,Array.getElem?_setIfInBounds_self,n9 (by omega),Nat.sub_self];rfl
  ·by_cases b:k+1≤i∧i<k+1+l.length
   ·rw[n9 b,n9 (by omega),show i-k=(i-(k+1))+1 by omega,Fj]
   ·rw[n8 b,n8 (by omega),Nat.zero_add,Array.getElem?_setIfInBounds_ne (by omega)]
theorem Cm(n:Nat)(cells:Array Value)(v:Value)(e:cells.size=1*n)(d:v.cells.size=n):Instr.fill (fun i=>some (i*n,n)) cells [(0,v)]=some v.cells:=by
 have a:(decide (v.cells.size≠n)||decide (0*n+v.cells.size > cells.size))=false:=by
  have b:cells.size=n:=by omega
  rw[Nat.zero_mul,d,b];simp
 unfold Instr.fill;dsimp only;rw[a];unfold Instr.fill;simp only[EW,oi,Nat.zero_mul]
 congr 1
 rw[←Array.foldl_toList,Array.toList_zipIdx];apply Array.ext_getElem?;intro i;have h:=foldl_set v.cells.toList 0 cells (by rw[EY,d,e];omega) i;rw[h];have f:v.cells.toList.length=v.cells.size:=EY
 by_cases g:i<n
 ·rw[n9 (by omega)];simp
 ·rw[n8 (by omega),Fl (by omega),Fl (by omega)]
section
variable {E S:TypeId} {sz bytes:Nat}
def One(E:TypeId) (L:Nat) (vs:List Value) (W:World) (v:Value):Prop:=∃g,v=slice (some ⟨g,0,none⟩) 1 1∧L≤g∧W.heap[g]?=some (.cells vs.toArray E (0,0))
theorem One.below{L:Nat}{vs:List Value}{W W':World}{v:Value}(h:One E L vs W v)(b:Ft W W'):One E L vs W' v:=by
 obtain⟨g,d,e,a⟩:=h;exact⟨g,d,e,aa b a (Ez.1 a).1⟩
theorem dB(e:Elem E S sz bytes){o:Oper}{a:Act}{W:World}{G:Value→World→Prop}{L:Nat}{vs:List Value}(x:Operand)(i:o.op=.buildSlice S 1 #[(0,x)])(h:(a.eval x).cells=vs.toArray)(j:vs.length=sz)(k:L≤W.heap.size)
  (l:∀v W',Ft W W'→One E L vs W' v→G v W'):RE.Upon Tryz.prog o a W G:=by
 obtain⟨i0,z,f,g,b,m,q⟩:=e.info;have d:(execOp a.eval o).run Tryz.prog W=.ok (.value (slice (some ⟨W.heap.size,0,none⟩) 1 1)) (W.alloc (.cells vs.toArray E)):=by
  unfold execOp;simp only[i,oE]
  rw[run_buildSlice W S E 1 _ vs.toArray i0 z e.und f g (by rw[b];have:=e.small;omega) (by rw[b];have:=e.pos;omega) (by
   have t:(#[(0,x)].map fun (x:Nat×Operand)=>(x.1,a.eval x.2)).toList=[(0,a.eval x)]:=by simp
   rw[t,b]
   rw[Cm sz _ _ (by simp) (by rw[h];simpa using j),h])]
  rfl
 exact RE.upon_run d (l _ _ ((EB _ W).alloc (EA _) _) ⟨_,rfl,k,n7 W _⟩)
theorem pI(l:Elem E S sz bytes){W:World}{p:Option Addr}{n c g9:Nat}{xs z:List Value}(ty:TypeId)(d:W.ownsRow 0 E sz (.slice p n c) n xs)(O:W.heap[g9]?=some (.cells z.toArray E (0,0)))(Q:z.length=sz)(I:∀u∈z,u.oneCell'=true)(Z:n≤10000) :
  ∃k w',(Builtin.append_ #[S,S] ty #[.slice p n c,slice (some ⟨g9,0,none⟩) 1 1]).run Tryz.prog W=.ok k w'∧w'.ownsRow 0 E sz k (n+1) (xs++z)∧
   ((n<c∧∃g,p=some ⟨g,0,none⟩∧k=.slice p (n+1) c∧W.grownBy w' (some g))∨(¬n<c∧∃cap,k=slice (some ⟨W.heap.size,0,none⟩) (n+1) cap∧Ft W w')):=by
 obtain⟨i0,R,m,w,f,x,y⟩:=l.info;have A:=l.small;have B:=l.pos;have a:∀j u,z[j]?=some u→W.cell? ((⟨g9,0,none⟩:Addr).add j)=some u:=fun j u T=>by
  have e:(⟨g9,0,none⟩:Addr).add j=⟨g9,j,none⟩:=by
   unfold Addr.add
   by_cases C:j=0
   ·subst C;rfl
   ·rw[n8 C];simp
  rw[e,Fq _ _ _ _ _ _ O]
  simpa using T
 have D:(n+1)*bytes≤140737488355328:=by
  have:(n+1)*bytes≤10001*1000:=Nat.mul_le_mul (by omega) A.2;omega
 obtain⟨k,w',J,b,i⟩:=kq (P:=Tryz.prog) W 0 S ty E i0 R sz bytes l.und m w f x y B (.slice p n c) n xs d ⟨g9,0,none⟩ 1 1 z (by omega) a I (by unfold maxLen;omega) D (EM _) (by decide);refine⟨k,w',J,b,?_⟩;rcases i with ⟨g,cap,q,H,U⟩|⟨cap,q,H⟩
 ·injection q with f1 f2 f3
  subst f1;subst f3;subst H
  left
  refine⟨?_,g,rfl,rfl,U⟩;rcases b.2 with ⟨h,_⟩|⟨_,_,_,h,_,_,V,_⟩
  ·cases h
  ·injection h with _ _ K
   omega
 ·right
  refine⟨fun X=>?_,cap,q,H⟩;rcases d.2 with ⟨h,C⟩|⟨g,L,cur,h,_,M,V,K,Y,h5⟩
  ·injection h with _ _ K;omega
  ·injection h with f1 _ f3
   subst f1;subst f3
   have o:=run_append_room (P:=Tryz.prog) W S ty E i0 l.und m g n c cur M ⟨g9,0,none⟩ 1 1 z (by rw[f];omega) a I (by omega) (by
    rw[f,Y];have:=Nat.mul_le_mul_right sz (show n+1≤c from X);rw[Nat.add_mul,Nat.one_mul]at this
    omega)
   rw[J]at o;injection o with N _
   rw[q]at N;injection N with t _ _
   injection t with t
   injection t with t
   have:=(Ez.1 M).1;omega
def ApS(E:TypeId) (sz:Nat) (w4:World) (p:Option Addr) (n c:Nat) (row:List Value) (W:World):Prop:=
 if n<c then Chg (fun x=>(slice p n c).ownBlock=some x) w4 W∧W.ownsRow 0 E sz (.slice p (n+1) c) (n+1) row else ∃x:Wb w4,W=x.1
def ApV(E:TypeId) (sz:Nat) (w4:World) (p:Option Addr) (n c:Nat) (row:List Value) (W:World) (v:Value):Prop:=
 if n<c then v=.slice p (n+1) c∧∃g,p=some ⟨g,0,none⟩ else ∃g cap,v=slice (some ⟨g,0,none⟩) (n+1) cap∧w4.heap.size≤g∧W.ownsRow 0 E sz v (n+1) row
def ApR(w4 W W':World):Prop:=∀b,w4.heap.size≤b→b<W.heap.size→W'.heap[b]?=W.heap[b]?
theorem ApR.of_below{w4 W W':World}(h:Ft W W'):ApR w4 W W':=fun b _ a=>h.block b a
theorem ApV.keep{w4 W W':World}{p:Option Addr}{n c:Nat}{row:List Value}{v:Value}(h:ApV E sz w4 p n c row W v)(j:ApR w4 W W'):ApV E sz w4 p n c row W' v:=by
 unfold ApV at *
 split
 ·rename_i b;rw[n9 b]at h;exact h
 ·rename_i b
  rw[n8 b]at h;obtain⟨g,cap,d,e,f⟩:=h;refine⟨g,cap,d,e,fH f fun i a=>?_⟩;have k:=(gy f i a).2;rw[d]at a;injection a with a
  have a:g=i:=a;subst a;exact j g e k
theorem One.keep{w4 W W':World}{vs:List Value}{v:Value}(h:One E w4.heap.size vs W v)(d:ApR w4 W W'):One E w4.heap.size vs W' v:=by
 obtain⟨g,e,a,b⟩:=h;exact⟨g,e,a,(d g a (Ez.1 b).1).trans b⟩
theorem fZ(I:Elem E S sz bytes){o:Oper}{a:Act}{W w4:World}{G:Value→World→Prop}{n c:Nat}{vs:List Value}{p:Option Addr}{xs:List Value}(s y:Operand)(q:o.op=.call { callee:=.builtin .append,args:=#[s,y],argTypes:=#[S,S] })
  (J:a.eval s=.slice p n c) (t:One E w4.heap.size vs W (a.eval y)) (K:vs.length=sz) (L:∀u∈vs,u.oneCell'=true) (h:Ft w4 W) (i:w4.ownsRow 0 E sz (.slice p n c) n xs) (M:n≤10000)
  (D:∀m W',ApS E sz w4 p n c (xs++vs) W'→ApR w4 W W'→ApV E sz w4 p n c (xs++vs) W' m→G m W'):RE.Upon Tryz.prog o a W G:=by
 obtain⟨g9,t,_,w⟩:=t;obtain⟨m,w',N,f,j⟩:=pI I (p:=p) (c:=c) (z:=vs) o.type (iT i h) w K L M;have k:(execOp a.eval o).run Tryz.prog W=.ok (.value m) w':=by simp[execOp,q,resolve,invoke,builtin,J,t,N,Result.andThen]
 refine RE.upon_run k ?_;rcases j with ⟨l,g,rfl,rfl,d⟩|⟨l,cap,rfl,A⟩
 ·have O:g<w4.heap.size:=(gy i g rfl).2;refine D _ _ ?_ (fun b A B=>d.block b B (fun e=>by injection e with e;omega)) ?_
  ·unfold ApS;rw[n9 l];refine⟨⟨d.os.trans h.os,d.tape.trans h.tape,d.output.trans h.output,EG h.size d.size,fun x H C=>?_⟩,f⟩;exact (d.block x (EF H h.size) (fun e=>C e.symm)).trans (h.block x H)
  ·unfold ApV;rw[n9 l];exact⟨rfl,g,rfl⟩
 ·refine D _ _ ?_ (ApR.of_below A) ?_
  ·unfold ApS;rw[n8 l];exact⟨⟨w',h.trans (A.mono h.size)⟩,rfl⟩
  ·unfold ApV;rw[n8 l];exact⟨_,cap,rfl,h.size,f⟩
theorem hU{w4 W:World}{p:Option Addr}{n c:Nat}{row:List Value}{v:Value}(a:ApS E sz w4 p n c row W)(b:ApV E sz w4 p n c row W v) :
  ∃g cap,v=slice (some ⟨g,0,none⟩) (n+1) cap∧((slice p n c).ownBlock=some g∨w4.heap.size≤g)∧Chg (fun x=>(slice p n c).ownBlock=some x) w4 W∧W.ownsRow 0 E sz (slice (some ⟨g,0,none⟩) (n+1) cap) (n+1) row:=by
 unfold ApS at a;unfold ApV at b
 by_cases e:n<c
 ·rw[n9 e]at a b;obtain⟨f,d⟩:=a;obtain⟨rfl,g,rfl⟩:=b;exact⟨g,c,rfl,Or.inl rfl,f,d⟩
 ·rw[n8 e]at a b;obtain⟨x,rfl⟩:=a;obtain⟨g,cap,rfl,d,h⟩:=b;exact⟨g,cap,rfl,Or.inr d,Chg.of_below x.2,h⟩
theorem ApS.below{w4 W W':World}{p:Option Addr}{n c:Nat}{row:List Value}(h:ApS E sz w4 p n c row W)(a:Ft W W'):ApS E sz w4 p n c row W':=by
 unfold ApS at *
 by_cases b:n<c
 ·rw[n9 b]at h ⊢;exact⟨h.1.trans (Chg.of_below a),iT h.2 a⟩
 ·rw[n8 b]at h ⊢;obtain⟨x,rfl⟩:=h;exact⟨⟨W',x.2.trans (a.mono x.2.size)⟩,rfl⟩
theorem ApS.size{w4 W:World}{p:Option Addr}{n c:Nat}{row:List Value}(h:ApS E sz w4 p n c row W):w4.heap.size≤W.heap.size:=by
 unfold ApS at h
 split at h
 ·exact h.1.size
 ·obtain⟨x,rfl⟩:=h;exact x.2.size
def phA(E:TypeId) (sz:Nat) (w4:World) (p:Option Addr) (n c:Nat) (vs row:List Value) (i j k:Nat) (W:World) (ys:List Value):Prop:=
 if k=i then One E w4.heap.size vs W (ys.getD 0 undef) else if k=j then ApV E sz w4 p n c row W (ys.getD 0 undef) else True
theorem phA.keep{w4:World}{p:Option Addr}{n c:Nat}{vs row:List Value}{i j k:Nat}{W W':World}{ys:List Value}(h:phA E sz w4 p n c vs row i j k W ys)(b:ApR w4 W W'):phA E sz w4 p n c vs row i j k W' ys:=by
 unfold phA at *
 split
 ·rename_i a;rw[n9 a]at h;exact h.keep b
 ·rename_i a
  rw[n8 a]at h
  split
  ·rename_i d;rw[n9 d]at h;exact h.keep b
  ·trivial
def stA(E:TypeId) (sz:Nat) (w4:World) (p:Option Addr) (n c:Nat) (row:List Value) (s:Nat) (W:World):Prop:=if s=0 then (∃x:Wb w4,W=x.1) else ApS E sz w4 p n c row W
theorem stA.below{w4:World}{p:Option Addr}{n c:Nat}{row:List Value}{s:Nat}{W W':World}(h:stA E sz w4 p n c row s W)(b:Ft W W'):stA E sz w4 p n c row s W':=by
 unfold stA at *
 split
 ·rename_i a
  rw[n9 a]at h;obtain⟨x,rfl⟩:=h;exact⟨⟨W',x.2.trans (b.mono x.2.size)⟩,rfl⟩
 ·rename_i a
  rw[n8 a]at h;exact h.below b
theorem stA.size{w4:World}{p:Option Addr}{n c:Nat}{row:List Value}{s:Nat}{W:World}(h:stA E sz w4 p n c row s W):w4.heap.size≤W.heap.size:=by
 unfold stA at h
 split at h
 ·obtain⟨x,rfl⟩:=h;exact x.2.size
 ·exact h.size
theorem stA.zero{w4:World}{p:Option Addr}{n c:Nat}{row:List Value}:stA E sz w4 p n c row 0 w4.drew:=⟨⟨w4.drew,(EB _ _).drew⟩,rfl⟩
def Ks(w:World) (K:Nat→Prop):={W:World // ∀b,K b→W.heap[b]?=w.heap[b]?}
instance (w:World) (K:Nat→Prop):Nonempty (Ks w K):=⟨⟨w,fun _ _=>rfl⟩⟩
theorem Ks.cell{w:World}{K:Nat→Prop}(x:Ks w K){b o:Nat}(a:K b){v:Value}(h:w.cell? ⟨b,o,none⟩=some v):x.1.cell? ⟨b,o,none⟩=some v:=by
 have e:x.1.cell? ⟨b,o,none⟩=w.cell? ⟨b,o,none⟩:=by unfold World.cell?;rw[x.2 b a]
 rw[e];exact h
theorem jh{w4:World}{p:Option Addr}{n c:Nat}{row:List Value}{K:Nat→Prop}(d:∀b,K b→b<w4.heap.size∧(slice p n c).ownBlock≠some b):∀(m s:Nat) (W:World),s≤m→stA E sz w4 p n c row s W→∃x:Ks w4 K,W=x.1:=fun m s W _ h=>by
 unfold stA at h;refine⟨⟨W,fun b f=>?_⟩,rfl⟩;obtain⟨a,g⟩:=d b f
 split at h
 ·obtain⟨x,rfl⟩:=h;exact x.2.block b a
 ·unfold ApS at h
  split at h
  ·exact h.1.block b a (fun e=>g e)
  ·obtain⟨x,rfl⟩:=h;exact x.2.block b a
end
def aX{α:Type} (W:World) (F:Nat→Prop) (E:TypeId) (r:Rd α) (xs:List α) (v:Value):Prop:=∃us,W.ownsRow 0 E r.n v xs.length us∧r.cells W F xs us
section
variable {α β:Type} {W W':World} {F F' G:Nat→Prop} {E E2:TypeId} {r:Rd α} {s:Rd β} {xs:List α} {ys:List β} {v v2:Value}
theorem aX.nil:aX W F E r [] (slice none 0 0):=⟨[],World.ownsRow_nil _ _ _ _,Rd.cells_nil⟩
theorem aX.lt(h:aX W F E r xs v){g:Nat}(a:v.ownBlock=some g):g<W.heap.size:=by
 obtain⟨us,b,_⟩:=h;exact (gy b g a).2
theorem aX.type(h:aX W F E r xs v){g:Nat}(a:v.ownBlock=some g):∃cs,W.heap[g]?=some (.cells cs E (0,0)):=by
 obtain⟨us,⟨_,b⟩,_⟩:=h;rcases b with ⟨rfl,_⟩|⟨d,cap,cur,rfl,_,e,_⟩
 ·cases a
 ·injection a with a
  have a:d=g:=a;subst a;exact⟨cur,e⟩
theorem aX.apart(h:aX W F E r xs v)(k:aX W G E2 s ys v2)(b:E≠E2){g:Nat}(d:v.ownBlock=some g):v2.ownBlock≠some g:=fun e=>by
 obtain⟨cs,f⟩:=h.type d;obtain⟨i,a⟩:=k.type e;rw[f]at a;injection a with a
 injection a with _ a
 exact b a
theorem aX.shape(h:aX W F E r xs v):∃p c,v=.slice p xs.length c:=by
 obtain⟨us,⟨_,a⟩,_⟩:=h;rcases a with ⟨rfl,b⟩|⟨d,cap,cur,rfl,_,_,e,_⟩
 ·exact⟨none,0,by rw[b]⟩
 ·exact⟨_,_,rfl⟩
theorem aX.keep(a:∀g,v.ownBlock=some g→W'.heap[g]?=W.heap[g]?)(d:∀b,F b→∀o,W.heap[b]?=some o→W'.heap[b]?=some o)(e:∀b,F b→F' b)(h:aX W F E r xs v):aX W' F' E r xs v:=by
 obtain⟨us,f,i⟩:=h;exact⟨us,fH f a,Rd.cells_sub e (Rd.cells_keep d i)⟩
theorem aX.other(h:aX W F E r xs v)(a:Chg (fun x=>v2.ownBlock=some x) W W')(f:∀g,v.ownBlock=some g→v2.ownBlock≠some g)(hF:∀b,F b→b<W.heap.size∧v2.ownBlock≠some b)(i:∀b,F b→F' b):aX W' F' E r xs v:=
 h.keep (fun g d=>a.block g (h.lt d) (f g d)) (fun b e _ j=>(a.block b (hF b e).1 (hF b e).2).trans j) i
theorem aX.below(h:aX W F E r xs v)(a:Ft W W')(hF:∀b,F b→b<W.heap.size)(d:∀b,F b→F' b):aX W' F' E r xs v:=
 h.keep (fun g e=>a.block g (h.lt e)) (fun b f _ i=>(a.block b (hF b f)).trans i) d
theorem aX.stored(h:aX W F E r xs v){M:Nat}(d:v.ownBlock≠some M)(a:∀b,F b→b≠M)(f:∀b,F b→F' b)(hw:∀b,b≠M→W'.heap[b]?=W.heap[b]?):aX W' F' E r xs v:=
 h.keep (fun g i=>hw g (fun e=>d (e ▸ i))) (fun b j _ k=>(hw b (a b j)).trans k) f
theorem aX.row(h:aX W F E r xs v)(a:∀b,F b→G b)(d:∀g,v.ownBlock=some g→G g):r.row W G xs v:=by
 obtain⟨us,e,f⟩:=h;exact Rd.row_own e (Rd.cells_sub a f) d
theorem aX.sub(h:aX W F E r xs v)(a:∀b,F b→F' b):aX W F' E r xs v:=h.keep (fun _ _=>rfl) (fun _ _ _ d=>d) a
end
section
variable {E S:TypeId} {sz bytes:Nat} {W W1 W' w5:World} {n c:Nat} {p:Option Addr} {row:List Value} {v:Value}
theorem uO(A:Elem E S sz bytes){o:Oper}{a:Act}{L:Nat}{G:Value→World→Prop}{vs xs:List Value}(s y:Operand)(l:o.op=.call { callee:=.builtin .append,args:=#[s,y],argTypes:=#[S,S] })
  (B:a.eval s=.slice p n c) (m:One E L vs W (a.eval y)) (C:vs.length=sz) (D:∀u∈vs,u.oneCell'=true) (h:W.ownsRow 0 E sz (.slice p n c) n xs) (H:n≤10000)
  (w:∀k W',ApS E sz W p n c (xs++vs) W'→ApV E sz W p n c (xs++vs) W' k→G k W'):RE.Upon Tryz.prog o a W G:=by
 obtain⟨g9,m,_,q⟩:=m;obtain⟨k,w',I,b,f⟩:=pI A (p:=p) (c:=c) (z:=vs) o.type h q C D H;have i:(execOp a.eval o).run Tryz.prog W=.ok (.value k) w':=by simp[execOp,l,resolve,invoke,builtin,B,m,I,Result.andThen]
 refine RE.upon_run i ?_;rcases f with ⟨j,g,rfl,rfl,d⟩|⟨j,cap,rfl,J⟩
 ·refine w _ _ ?_ ?_
  ·unfold ApS;rw[n9 j];exact⟨⟨d.os,d.tape,d.output,d.size,fun x K t=>d.block x K (fun e=>t e.symm)⟩,b⟩
  ·unfold ApV;rw[n9 j];exact⟨rfl,g,rfl⟩
 ·refine w _ _ ?_ ?_
  ·unfold ApS;rw[n8 j];exact⟨⟨w',J⟩,rfl⟩
  ·unfold ApV;rw[n8 j];exact⟨_,cap,rfl,EA _,b⟩
theorem ApS.chg(h:ApS E sz W1 p n c row W):Chg (fun x=>(slice p n c).ownBlock=some x) W1 W:=by
 unfold ApS at h
 split at h
 ·exact h.1
 ·obtain⟨x,rfl⟩:=h;exact Chg.of_below x.2
theorem ApV.from(h:ApV E sz W1 p n c row W v)(b:w5.heap.size≤W1.heap.size):ApV E sz w5 p n c row W v:=by
 unfold ApV at *
 split
 ·rename_i a;rw[n9 a]at h;exact h
 ·rename_i a
  rw[n8 a]at h;obtain⟨g,cap,d,e,f⟩:=h;exact⟨g,cap,d,EG b e,f⟩
theorem ApR.of_chg{F:Nat→Prop}(h:Chg F W W')(hF:∀b,F b→b<w5.heap.size):ApR w5 W W':=fun b e a=>h.block b a (fun d=>by have:=hF b d;omega)
theorem wM(b:ApS E sz W1 p n c row W)(a:ApV E sz w5 p n c row W v):∃g cap,v=slice (some ⟨g,0,none⟩) (n+1) cap∧((slice p n c).ownBlock=some g∨w5.heap.size≤g)∧Chg (fun x=>(slice p n c).ownBlock=some x) W1 W∧W.ownsRow 0 E sz (slice (some ⟨g,0,none⟩) (n+1) cap) (n+1) row:=by
 have f:=b.chg;unfold ApS at b;unfold ApV at a
 by_cases e:n<c
 ·rw[n9 e]at b a;obtain⟨h,d⟩:=b;obtain⟨rfl,g,rfl⟩:=a;exact⟨g,c,rfl,Or.inl rfl,h,d⟩
 ·rw[n8 e]at a;obtain⟨g,cap,rfl,d,i⟩:=a;exact⟨g,cap,rfl,Or.inr d,f,i⟩
end
