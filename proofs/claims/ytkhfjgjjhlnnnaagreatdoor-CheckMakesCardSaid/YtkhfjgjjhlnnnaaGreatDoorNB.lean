/- Parts of one proof, joined; conditions stand in each theorem. -/
import Derived.Test.YtkhfjgjjhlnnnaaGreatDoorNA
import Derived.Test.YtkhfjgjjhlnnnaaGreatDoorShelf
import Derived.Test.YtkhfjgjjhlnnnaaGreatDoorMA
import Derived.Great.BuildSlice
import Derived.Test.YtkhfjgjjhlnnnaaGreatDoorMT
import Derived.Test.YtkhfjgjjhlnnnaaGreatDoorNG
open Go renaming TypeId→AR,Value→vn,World→vk,Addr→z6
open Option renaming some→Y,none→U
open Go.Value renaming slice→A
open Go.Proofs.Tryz renaming prog→wq
namespace Go.Proofs.YtkhfjgjjhlnnnaaGreatDoor
open Go.RowKit
structure Elem (E S:AR) (n bytes:Nat):Prop where
 und:Tryz.prog.underlying S=Y (.slice E)
 info:∃i z,Tryz.prog.info? E=Y i∧i.zero=Y z∧i.size=n∧i.bytes=bytes∧z.cells.size=n
 pos:0<n
 small:n≤64∧bytes≤1000
theorem Elem.of{E S:AR}{n bytes:Nat}{z:vn}(hu:Tryz.prog.underlying S=Y (.slice E))(a:(Tryz.prog.info? E).map (fun i=>(i.zero,i.size,i.bytes))=Y (Y z,n,bytes))(b:z.cells.size=n)(d:0<n)(e:n≤64∧bytes≤1000):Elem E S n bytes:=by
 obtain⟨i,f,g,h,j⟩:=info_parts a;exact⟨hu,⟨i,z,f,g,h,j,b⟩,d,e⟩
theorem foldl_set:∀(l:List vn) (k:Nat) (a:Array vn),k+l.length≤a.size→∀i,((l.zipIdx k).foldl (fun cs (p:vn×Nat)=>cs.setIfInBounds (0+p.2) p.1) a)[i]?=if k≤i∧i<k+l.length then l[i-k]? else a[i]?
 | [],k,a,_,i=>by simp;omega
 | x::l,k,a,h,i=>by
  rw[FU]at h;rw[List.zipIdx_cons,List.foldl_cons,foldl_set l (k+1) _ (by simp;omega) i];rw[FU]
  by_cases d:i=k
  ·subst d;rw[r5 (by omega),r6 (by omega),Nat.zero_add,Array.getElem?_setIfInBounds_self,r6 (by omega),Nat.sub_self];rfl
  ·by_cases b:k+1≤i∧i<k+1+l.length
   ·rw[r6 b,r6 (by omega),show i-k=(i-(k+1))+1 by omega,F7]
   ·rw[r5 b,r5 (by omega),Nat.zero_add,Array.getElem?_setIfInBounds_ne (by omega)]
theorem CZ(n:Nat)(cells:Array vn)(v:vn)(e:cells.size=1*n)(d:v.cells.size=n):Instr.fill (fun i=>Y (i*n,n)) cells [(0,v)]=Y v.cells:=by
 have a:(decide (v.cells.size≠n)||decide (0*n+v.cells.size > cells.size))=false:=by
  have b:cells.size=n:=by omega
  rw[Nat.zero_mul,d,b];simp
 unfold Instr.fill;dsimp only;rw[a];unfold Instr.fill;simp only[FO,sn,Nat.zero_mul]
 congr 1
 rw[←Array.foldl_toList,Array.toList_zipIdx];apply Array.ext_getElem?;intro i;have h:=foldl_set v.cells.toList 0 cells (by rw[FQ,d,e];omega) i;rw[h];have f:v.cells.toList.length=v.cells.size:=FQ
 by_cases g:i<n
 ·rw[r6 (by omega)];simp
 ·rw[r5 (by omega),F8 (by omega),F8 (by omega)]
section
variable {E S:AR} {sz bytes:Nat}
def One(E:AR) (L:Nat) (vs:List vn) (W:vk) (v:vn):Prop:=∃g,v=A (Y ⟨g,0,U⟩) 1 1∧L≤g∧W.heap[g]?=Y (Obj.cells vs.toArray E (0,0))
theorem One.u{L:Nat}{vs:List vn}{W W':vk}{v:vn}(h:One E L vs W v)(b:Gc W W'):One E L vs W' v:=by
 obtain⟨g,d,e,a⟩:=h;exact⟨g,d,e,aa b a (Fi.1 a).1⟩
theorem dO(e:Elem E S sz bytes){o:Oper}{a:Act}{W:vk}{G:vn→vk→Prop}{L:Nat}{vs:List vn}(x:Operand)(i:o.op=.buildSlice S 1 #[(0,x)])(h:(a.eval x).cells=vs.toArray)(j:vs.length=sz)(k:L≤W.heap.size)
  (l:∀v W',Gc W W'→One E L vs W' v→G v W'):RE.Upon wq o a W G:=by
 obtain⟨i0,z,f,g,b,m,q⟩:=e.info;have d:(execOp a.eval o).run wq W=.ok (.value (A (Y ⟨W.heap.size,0,U⟩) 1 1)) (W.alloc (Obj.cells vs.toArray E)):=by
  unfold execOp;simp only[i,tv]
  rw[run_buildSlice W S E 1 _ vs.toArray i0 z e.und f g (by rw[b];have:=e.small;omega) (by rw[b];have:=e.pos;omega) (by
   have t:(#[(0,x)].map fun (x:Nat×Operand)=>(x.1,a.eval x.2)).toList=[(0,a.eval x)]:=by simp
   rw[t,b]
   rw[CZ sz _ _ (by simp) (by rw[h];simpa using j),h])]
  rfl
 exact RE.upon_run d (l _ _ ((Fl _ W).alloc (Fj _) _) ⟨_,V,k,qv W _⟩)
theorem qw(l:Elem E S sz bytes){W:vk}{p:Option z6}{n c g9:Nat}{xs z:List vn}(ty:AR)(d:W.ownsRow 0 E sz (A p n c) n xs)(X:W.heap[g9]?=Y (Obj.cells z.toArray E (0,0)))(ad:z.length=sz)(L:∀u∈z,u.oneCell'=true)(hn:n≤10000) :
  ∃k w',(Builtin.append_ #[S,S] ty #[A p n c,A (Y ⟨g9,0,U⟩) 1 1]).run wq W=.ok k w'∧w'.ownsRow 0 E sz k (n+1) (xs++z)∧
   ((n<c∧∃g,p=Y ⟨g,0,U⟩∧k=A p (n+1) c∧W.grownBy w' (Y g))∨(¬n<c∧∃cap,k=A (Y ⟨W.heap.size,0,U⟩) (n+1) cap∧Gc W w')):=by
 obtain⟨i0,zz,m,w,f,x,y⟩:=l.info;have B:=l.small;have C:=l.pos;have a:∀j u,z[j]?=Y u→W.cell? ((⟨g9,0,U⟩:z6).add j)=Y u:=fun j u hj=>by
  have e:(⟨g9,0,U⟩:z6).add j=⟨g9,j,U⟩:=by
   unfold Addr.add
   by_cases D:j=0
   ·subst D;rfl
   ·rw[r5 D];simp
  rw[e,Gb _ _ _ _ _ _ X]
  simpa using hj
 have H:(n+1)*bytes≤140737488355328:=by
  have:(n+1)*bytes≤10001*1000:=Nat.mul_le_mul (by omega) B.2;omega
 obtain⟨k,w',M,b,i⟩:=ju (P:=wq) W 0 S ty E i0 zz sz bytes l.und m w f x y C (A p n c) n xs d ⟨g9,0,U⟩ 1 1 z (by omega) a L (by unfold maxLen;omega) H (FA _) (by decide);refine⟨k,w',M,b,?_⟩;rcases i with ⟨g,cap,q,K,e3⟩|⟨cap,q,K⟩
 ·injection q with f1 f2 f3
  subst f1;subst f3;subst K
  left
  refine⟨?_,g,V,V,e3⟩;rcases b.2 with ⟨h,_⟩|⟨_,_,_,h,_,_,h2,_⟩
  ·cases h
  ·injection h with _ _ N
   omega
 ·right
  refine⟨fun hc=>?_,cap,q,K⟩;rcases d.2 with ⟨h,D⟩|⟨g,Q,cur,h,_,R,h2,N,h4,h5⟩
  ·injection h with _ _ N;omega
  ·injection h with f1 _ f3
   subst f1;subst f3
   have o:=run_append_room (P:=wq) W S ty E i0 l.und m g n c cur R ⟨g9,0,U⟩ 1 1 z (by rw[f];omega) a L (by omega) (by
    rw[f,h4];have:=Nat.mul_le_mul_right sz (show n+1≤c from hc);rw[Nat.add_mul,Nat.one_mul]at this
    omega)
   rw[M]at o;injection o with T _
   rw[q]at T;injection T with t _ _
   injection t with t
   injection t with t
   have:=(Fi.1 R).1;omega
def ApS(E:AR) (sz:Nat) (w4:vk) (p:Option z6) (n c:Nat) (row:List vn) (W:vk):Prop:=
 if n<c then Chg (fun x=>(A p n c).ownBlock=Y x) w4 W∧W.ownsRow 0 E sz (A p (n+1) c) (n+1) row else ∃x:Wb w4,W=x.1
def ApV(E:AR) (sz:Nat) (w4:vk) (p:Option z6) (n c:Nat) (row:List vn) (W:vk) (v:vn):Prop:=
 if n<c then v=A p (n+1) c∧∃g,p=Y ⟨g,0,U⟩ else ∃g cap,v=A (Y ⟨g,0,U⟩) (n+1) cap∧w4.heap.size≤g∧W.ownsRow 0 E sz v (n+1) row
def ApR(w4 W W':vk):Prop:=∀b,w4.heap.size≤b→b<W.heap.size→W'.heap[b]?=W.heap[b]?
theorem ApR.f{w4 W W':vk}(h:Gc W W'):ApR w4 W W':=fun b _ a=>h.block b a
theorem ApV.z{w4 W W':vk}{p:Option z6}{n c:Nat}{row:List vn}{v:vn}(h:ApV E sz w4 p n c row W v)(j:ApR w4 W W'):ApV E sz w4 p n c row W' v:=by
 unfold ApV at *
 split
 ·rename_i b;rw[r6 b]at h;exact h
 ·rename_i b
  rw[r5 b]at h;obtain⟨g,cap,d,e,f⟩:=h;refine⟨g,cap,d,e,dU f fun i a=>?_⟩;have k:=(eO f i a).2;rw[d]at a;injection a with a
  have a:g=i:=a;subst a;exact j g e k
theorem One.z{w4 W W':vk}{vs:List vn}{v:vn}(h:One E w4.heap.size vs W v)(d:ApR w4 W W'):One E w4.heap.size vs W' v:=by
 obtain⟨g,e,a,b⟩:=h;exact⟨g,e,a,(d g a (Fi.1 b).1).trans b⟩
theorem gq(L:Elem E S sz bytes){o:Oper}{a:Act}{W w4:vk}{G:vn→vk→Prop}{n c:Nat}{vs:List vn}{p:Option z6}{xs:List vn}(s y:Operand)(q:o.op=.call { callee:=.builtin .append,args:=#[s,y],argTypes:=#[S,S] })
  (M:a.eval s=A p n c) (t:One E w4.heap.size vs W (a.eval y)) (N:vs.length=sz) (P:∀u∈vs,u.oneCell'=true) (h:Gc w4 W) (i:w4.ownsRow 0 E sz (A p n c) n xs) (Q:n≤10000)
  (H:∀m W',ApS E sz w4 p n c (xs++vs) W'→ApR w4 W W'→ApV E sz w4 p n c (xs++vs) W' m→G m W'):RE.Upon wq o a W G:=by
 obtain⟨g9,t,_,w⟩:=t;obtain⟨m,w',R,f,j⟩:=qw L (p:=p) (c:=c) (z:=vs) o.type (db i h) w N P Q;have k:(execOp a.eval o).run wq W=.ok (.value m) w':=by simp[execOp,q,resolve,invoke,builtin,M,t,R,Result.andThen]
 refine RE.upon_run k ?_;rcases j with ⟨l,g,rfl,rfl,d⟩|⟨l,cap,rfl,B⟩
 ·have T:g<w4.heap.size:=(eO i g V).2;refine H _ _ ?_ (fun b B C=>d.block b C (fun e=>by injection e with e;omega)) ?_
  ·unfold ApS;rw[r6 l];refine⟨⟨d.os.trans h.os,d.tape.trans h.tape,d.output.trans h.output,Fu h.size d.size,fun x K D=>?_⟩,f⟩;exact (d.block x (Ft K h.size) (fun e=>D e.symm)).trans (h.block x K)
  ·unfold ApV;rw[r6 l];exact⟨V,g,V⟩
 ·refine H _ _ ?_ (ApR.f B) ?_
  ·unfold ApS;rw[r5 l];exact⟨⟨w',h.trans (B.mono h.size)⟩,V⟩
  ·unfold ApV;rw[r5 l];exact⟨_,cap,V,h.size,f⟩
theorem ik{w4 W:vk}{p:Option z6}{n c:Nat}{row:List vn}{v:vn}(a:ApS E sz w4 p n c row W)(b:ApV E sz w4 p n c row W v) :
  ∃g cap,v=A (Y ⟨g,0,U⟩) (n+1) cap∧((A p n c).ownBlock=Y g∨w4.heap.size≤g)∧Chg (fun x=>(A p n c).ownBlock=Y x) w4 W∧W.ownsRow 0 E sz (A (Y ⟨g,0,U⟩) (n+1) cap) (n+1) row:=by
 unfold ApS at a;unfold ApV at b
 by_cases e:n<c
 ·rw[r6 e]at a b;obtain⟨f,d⟩:=a;obtain⟨rfl,g,rfl⟩:=b;exact⟨g,c,V,Or.inl V,f,d⟩
 ·rw[r5 e]at a b;obtain⟨x,rfl⟩:=a;obtain⟨g,cap,rfl,d,h⟩:=b;exact⟨g,cap,V,Or.inr d,Chg.f x.2,h⟩
theorem ApS.u{w4 W W':vk}{p:Option z6}{n c:Nat}{row:List vn}(h:ApS E sz w4 p n c row W)(a:Gc W W'):ApS E sz w4 p n c row W':=by
 unfold ApS at *
 by_cases b:n<c
 ·rw[r6 b]at h ⊢;exact⟨h.1.b (Chg.f a),db h.2 a⟩
 ·rw[r5 b]at h ⊢;obtain⟨x,rfl⟩:=h;exact⟨⟨W',x.2.trans (a.mono x.2.size)⟩,V⟩
theorem ApS.h{w4 W:vk}{p:Option z6}{n c:Nat}{row:List vn}(h:ApS E sz w4 p n c row W):w4.heap.size≤W.heap.size:=by
 unfold ApS at h
 split at h
 ·exact h.1.h
 ·obtain⟨x,rfl⟩:=h;exact x.2.size
def phA(E:AR) (sz:Nat) (w4:vk) (p:Option z6) (n c:Nat) (vs row:List vn) (i j k:Nat) (W:vk) (ys:List vn):Prop:=
 if k=i then One E w4.heap.size vs W (ys.getD 0 undef) else if k=j then ApV E sz w4 p n c row W (ys.getD 0 undef) else True
theorem phA.z{w4:vk}{p:Option z6}{n c:Nat}{vs row:List vn}{i j k:Nat}{W W':vk}{ys:List vn}(h:phA E sz w4 p n c vs row i j k W ys)(b:ApR w4 W W'):phA E sz w4 p n c vs row i j k W' ys:=by
 unfold phA at *
 split
 ·rename_i a;rw[r6 a]at h;exact h.z b
 ·rename_i a
  rw[r5 a]at h
  split
  ·rename_i d;rw[r6 d]at h;exact h.z b
  ·trivial
def stA(E:AR) (sz:Nat) (w4:vk) (p:Option z6) (n c:Nat) (row:List vn) (s:Nat) (W:vk):Prop:=if s=0 then (∃x:Wb w4,W=x.1) else ApS E sz w4 p n c row W
theorem stA.u{w4:vk}{p:Option z6}{n c:Nat}{row:List vn}{s:Nat}{W W':vk}(h:stA E sz w4 p n c row s W)(b:Gc W W'):stA E sz w4 p n c row s W':=by
 unfold stA at *
 split
 ·rename_i a
  rw[r6 a]at h;obtain⟨x,rfl⟩:=h;exact⟨⟨W',x.2.trans (b.mono x.2.size)⟩,V⟩
 ·rename_i a
  rw[r5 a]at h;exact h.u b
theorem stA.h{w4:vk}{p:Option z6}{n c:Nat}{row:List vn}{s:Nat}{W:vk}(h:stA E sz w4 p n c row s W):w4.heap.size≤W.heap.size:=by
 unfold stA at h
 split at h
 ·obtain⟨x,rfl⟩:=h;exact x.2.size
 ·exact h.h
theorem stA.zero{w4:vk}{p:Option z6}{n c:Nat}{row:List vn}:stA E sz w4 p n c row 0 w4.drew:=⟨⟨w4.drew,(Fl _ _).drew⟩,V⟩
def Ks(w:vk) (K:Nat→Prop):={W:vk // ∀b,K b→W.heap[b]?=w.heap[b]?}
instance (w:vk) (K:Nat→Prop):Nonempty (Ks w K):=⟨⟨w,fun _ _=>rfl⟩⟩
theorem Ks.b{w:vk}{K:Nat→Prop}(x:Ks w K){b o:Nat}(a:K b){v:vn}(h:w.cell? ⟨b,o,U⟩=Y v):x.1.cell? ⟨b,o,U⟩=Y v:=by
 have e:x.1.cell? ⟨b,o,U⟩=w.cell? ⟨b,o,U⟩:=by unfold World.cell?;rw[x.2 b a]
 rw[e];exact h
theorem js{w4:vk}{p:Option z6}{n c:Nat}{row:List vn}{K:Nat→Prop}(d:∀b,K b→b<w4.heap.size∧(A p n c).ownBlock≠Y b):∀(m s:Nat) (W:vk),s≤m→stA E sz w4 p n c row s W→∃x:Ks w4 K,W=x.1:=fun m s W _ h=>by
 unfold stA at h;refine⟨⟨W,fun b f=>?_⟩,V⟩;obtain⟨a,g⟩:=d b f
 split at h
 ·obtain⟨x,rfl⟩:=h;exact x.2.block b a
 ·unfold ApS at h
  split at h
  ·exact h.1.q b a (fun e=>g e)
  ·obtain⟨x,rfl⟩:=h;exact x.2.block b a
end
def aI{α:Type} (W:vk) (F:Nat→Prop) (E:AR) (r:Rd α) (xs:List α) (v:vn):Prop:=∃us,W.ownsRow 0 E r.n v xs.length us∧r.y W F xs us
section
variable {α β:Type} {W W':vk} {F F' G:Nat→Prop} {E E2:AR} {r:Rd α} {s:Rd β} {xs:List α} {ys:List β} {v v2:vn}
theorem aI.nil:aI W F E r [] (A U 0 0):=⟨[],World.ownsRow_nil _ _ _ _,Rd.cells_nil⟩
theorem aI.lt(h:aI W F E r xs v){g:Nat}(a:v.ownBlock=Y g):g<W.heap.size:=by
 obtain⟨us,b,_⟩:=h;exact (eO b g a).2
theorem aI.f(h:aI W F E r xs v){g:Nat}(a:v.ownBlock=Y g):∃cs,W.heap[g]?=Y (Obj.cells cs E (0,0)):=by
 obtain⟨us,⟨_,b⟩,_⟩:=h;rcases b with ⟨rfl,_⟩|⟨d,cap,cur,rfl,_,e,_⟩
 ·cases a
 ·injection a with a
  have a:d=g:=a;subst a;exact⟨cur,e⟩
theorem aI.q(h:aI W F E r xs v)(k:aI W G E2 s ys v2)(b:E≠E2){g:Nat}(d:v.ownBlock=Y g):v2.ownBlock≠Y g:=fun e=>by
 obtain⟨cs,f⟩:=h.f d;obtain⟨i,a⟩:=k.f e;rw[f]at a;injection a with a
 injection a with _ a
 exact b a
theorem aI.b(h:aI W F E r xs v):∃p c,v=A p xs.length c:=by
 obtain⟨us,⟨_,a⟩,_⟩:=h;rcases a with ⟨rfl,b⟩|⟨d,cap,cur,rfl,_,_,e,_⟩
 ·exact⟨U,0,by rw[b]⟩
 ·exact⟨_,_,V⟩
theorem aI.z(a:∀g,v.ownBlock=Y g→W'.heap[g]?=W.heap[g]?)(d:∀b,F b→∀o,W.heap[b]?=Y o→W'.heap[b]?=Y o)(e:∀b,F b→F' b)(h:aI W F E r xs v):aI W' F' E r xs v:=by
 obtain⟨us,f,i⟩:=h;exact⟨us,dU f a,Rd.ss e (Rd.qv d i)⟩
theorem aI.other(h:aI W F E r xs v)(a:Chg (fun x=>v2.ownBlock=Y x) W W')(f:∀g,v.ownBlock=Y g→v2.ownBlock≠Y g)(hF:∀b,F b→b<W.heap.size∧v2.ownBlock≠Y b)(i:∀b,F b→F' b):aI W' F' E r xs v:=
 h.z (fun g d=>a.q g (h.lt d) (f g d)) (fun b e _ j=>(a.q b (hF b e).1 (hF b e).2).trans j) i
theorem aI.u(h:aI W F E r xs v)(a:Gc W W')(hF:∀b,F b→b<W.heap.size)(d:∀b,F b→F' b):aI W' F' E r xs v:=
 h.z (fun g e=>a.block g (h.lt e)) (fun b f _ i=>(a.block b (hF b f)).trans i) d
theorem aI.h(h:aI W F E r xs v){M:Nat}(d:v.ownBlock≠Y M)(a:∀b,F b→b≠M)(f:∀b,F b→F' b)(hw:∀b,b≠M→W'.heap[b]?=W.heap[b]?):aI W' F' E r xs v:=
 h.z (fun g i=>hw g (fun e=>d (e ▸ i))) (fun b j _ k=>(hw b (a b j)).trans k) f
theorem aI.C(h:aI W F E r xs v)(a:∀b,F b→G b)(d:∀g,v.ownBlock=Y g→G g):r.C W G xs v:=by
 obtain⟨us,e,f⟩:=h;exact Rd.row_own e (Rd.ss a f) d
theorem aI.K(h:aI W F E r xs v)(a:∀b,F b→F' b):aI W F' E r xs v:=h.z (fun _ _=>rfl) (fun _ _ _ d=>d) a
end
section
variable {E S:AR} {sz bytes:Nat} {W W1 W' w5:vk} {n c:Nat} {p:Option z6} {row:List vn} {v:vn}
theorem Dg(B:Elem E S sz bytes){o:Oper}{a:Act}{L:Nat}{G:vn→vk→Prop}{vs xs:List vn}(s y:Operand)(l:o.op=.call { callee:=.builtin .append,args:=#[s,y],argTypes:=#[S,S] })
  (C:a.eval s=A p n c) (m:One E L vs W (a.eval y)) (D:vs.length=sz) (H:∀u∈vs,u.oneCell'=true) (h:W.ownsRow 0 E sz (A p n c) n xs) (K:n≤10000)
  (w:∀k W',ApS E sz W p n c (xs++vs) W'→ApV E sz W p n c (xs++vs) W' k→G k W'):RE.Upon wq o a W G:=by
 obtain⟨g9,m,_,q⟩:=m;obtain⟨k,w',M,b,f⟩:=qw B (p:=p) (c:=c) (z:=vs) o.type h q D H K;have i:(execOp a.eval o).run wq W=.ok (.value k) w':=by simp[execOp,l,resolve,invoke,builtin,C,m,M,Result.andThen]
 refine RE.upon_run i ?_;rcases f with ⟨j,g,rfl,rfl,d⟩|⟨j,cap,rfl,N⟩
 ·refine w _ _ ?_ ?_
  ·unfold ApS;rw[r6 j];exact⟨⟨d.os,d.tape,d.output,d.size,fun x P t=>d.block x P (fun e=>t e.symm)⟩,b⟩
  ·unfold ApV;rw[r6 j];exact⟨V,g,V⟩
 ·refine w _ _ ?_ ?_
  ·unfold ApS;rw[r5 j];exact⟨⟨w',N⟩,V⟩
  ·unfold ApV;rw[r5 j];exact⟨_,cap,V,Fj _,b⟩
theorem ApS.chg(h:ApS E sz W1 p n c row W):Chg (fun x=>(A p n c).ownBlock=Y x) W1 W:=by
 unfold ApS at h
 split at h
 ·exact h.1
 ·obtain⟨x,rfl⟩:=h;exact Chg.f x.2
theorem ApV.from(h:ApV E sz W1 p n c row W v)(b:w5.heap.size≤W1.heap.size):ApV E sz w5 p n c row W v:=by
 unfold ApV at *
 split
 ·rename_i a;rw[r6 a]at h;exact h
 ·rename_i a
  rw[r5 a]at h;obtain⟨g,cap,d,e,f⟩:=h;exact⟨g,cap,d,Fu b e,f⟩
theorem ApR.of_chg{F:Nat→Prop}(h:Chg F W W')(hF:∀b,F b→b<w5.heap.size):ApR w5 W W':=fun b e a=>h.q b a (fun d=>by have:=hF b d;omega)
theorem DO(b:ApS E sz W1 p n c row W)(a:ApV E sz w5 p n c row W v):∃g cap,v=A (Y ⟨g,0,U⟩) (n+1) cap∧((A p n c).ownBlock=Y g∨w5.heap.size≤g)∧Chg (fun x=>(A p n c).ownBlock=Y x) W1 W∧W.ownsRow 0 E sz (A (Y ⟨g,0,U⟩) (n+1) cap) (n+1) row:=by
 have f:=b.chg;unfold ApS at b;unfold ApV at a
 by_cases e:n<c
 ·rw[r6 e]at b a;obtain⟨h,d⟩:=b;obtain⟨rfl,g,rfl⟩:=a;exact⟨g,c,V,Or.inl V,h,d⟩
 ·rw[r5 e]at a;obtain⟨g,cap,rfl,d,i⟩:=a;exact⟨g,cap,V,Or.inr d,f,i⟩
end
