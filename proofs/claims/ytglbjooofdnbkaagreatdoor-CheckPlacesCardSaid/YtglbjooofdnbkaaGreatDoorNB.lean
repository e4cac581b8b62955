/- Several texts joined, each with its own sentence and conditions ahead of it: GenB, GenC, GenD. -/
import Derived.Test.YtglbjooofdnbkaaGreatDoorNA
import Derived.Test.YtglbjooofdnbkaaGreatDoorShelf
import Derived.Test.YtglbjooofdnbkaaGreatDoorMA
import Derived.Great.BuildSlice
import Derived.Test.YtglbjooofdnbkaaGreatDoorMTG
import Derived.Test.YtglbjooofdnbkaaGreatDoorNG
namespace Go.Proofs.YtglbjooofdnbkaaGreatDoor
open Go.RowKit
structure Elem (E S:TypeId) (n bytes:Nat):Prop where
 und:Tryz.prog.underlying S=some (.slice E)
 info:∃i z,Tryz.prog.info? E=some i∧i.zero=some z∧i.size=n∧i.bytes=bytes∧z.cells.size=n
 pos:0<n
 small:n≤64∧bytes≤1000
theorem Elem.of {E S:TypeId}{n bytes:Nat}{z:Value}(hu:Tryz.prog.underlying S=some (.slice E))(hi:(Tryz.prog.info? E).map (fun i=>(i.zero,i.size,i.bytes))=some (some z,n,bytes))(hz:z.cells.size=n)(hn:0<n)(hs:n≤64∧bytes≤1000):Elem E S n bytes:=by
 obtain⟨i,h1,h2,h3,h4⟩:=info_parts hi
 exact⟨hu,⟨i,z,h1,h2,h3,h4,hz⟩,hn,hs⟩
theorem foldl_set:∀(l:List Value)(k:Nat)(a:Array Value),k+l.length≤a.size→∀i,((l.zipIdx k).foldl (fun cs (p:Value×Nat)=>cs.setIfInBounds (0+p.2) p.1) a)[i]? = if k≤i∧i<k+l.length then l[i-k]? else a[i]?
 | [],k,a,_,i=>by simp;omega
 | x::l,k,a,h,i=>by
  rw[List.length_cons] at h
  rw[List.zipIdx_cons,List.foldl_cons,foldl_set l (k+1) _ (by simp;omega) i]
  rw[List.length_cons]
  by_cases h1:i=k
  ·subst h1
   rw[if_neg (by omega),if_pos (by omega),Nat.zero_add,Array.getElem?_setIfInBounds_self,if_pos (by omega),Nat.sub_self]
   rfl
  ·by_cases h2:k+1≤i∧i<k+1+l.length
   ·rw[if_pos h2,if_pos (by omega),show i-k=(i-(k+1))+1 by omega,List.getElem?_cons_succ]
   ·rw[if_neg h2,if_neg (by omega),Nat.zero_add,Array.getElem?_setIfInBounds_ne (by omega)]
theorem fill_any (n:Nat)(cells:Array Value)(v:Value)(hc:cells.size=1*n)(hv:v.cells.size=n):Instr.fill (fun i=>some (i*n,n)) cells [(0,v)]=some v.cells:=by
 have hno:(decide (v.cells.size≠n)||decide (0*n+v.cells.size > cells.size))=false:=by
  have hc':cells.size=n:=by omega
  rw[Nat.zero_mul,hv,hc'];simp
 unfold Instr.fill
 dsimp only
 rw[hno]
 unfold Instr.fill
 simp only[Bool.false_eq_true,if_false,Nat.zero_mul]
 congr 1
 rw[←Array.foldl_toList,Array.toList_zipIdx]
 apply Array.ext_getElem?
 intro i
 have h:=foldl_set v.cells.toList 0 cells (by rw[Array.length_toList,hv,hc];omega) i
 rw[h]
 have hl:v.cells.toList.length=v.cells.size:=Array.length_toList
 by_cases hi:i<n
 ·rw[if_pos (by omega)];simp
 ·rw[if_neg (by omega),Array.getElem?_eq_none (by omega),Array.getElem?_eq_none (by omega)]
section
variable {E S:TypeId} {sz bytes:Nat}
def One (E:TypeId) (L:Nat) (vs:List Value) (W:World) (v:Value):Prop:=∃g,v=.slice (some ⟨g,0,none⟩) 1 1∧L≤g∧W.heap[g]? = some (.cells vs.toArray E (0,0))
theorem One.below {L:Nat}{vs:List Value}{W W':World}{v:Value}(h:One E L vs W v)(hb:Below W.heap.size W W'):One E L vs W' v:=by
 obtain⟨g,h1,h2,h3⟩:=h
 exact⟨g,h1,h2,heap_below hb h3 (Array.getElem?_eq_some_iff.1 h3).1⟩
theorem upon_one (hE:Elem E S sz bytes){o:Oper}{a:Act}{W:World}{G:Value→World→Prop}{L:Nat}{vs:List Value}(x:Operand)(ho:o.op=.buildSlice S 1 #[(0,x)])(hx:(a.eval x).cells=vs.toArray)(hl:vs.length=sz)(hL:L≤W.heap.size)
  (hG:∀v W',Below W.heap.size W W'→One E L vs W' v→G v W'):RE.Upon Tryz.prog o a W G:=by
 obtain⟨i0,z,hi0,hz0,hz1,hz2,hz3⟩:=hE.info
 have hrun:(execOp a.eval o).run Tryz.prog W=.ok (.value (.slice (some ⟨W.heap.size,0,none⟩) 1 1)) (W.alloc (.cells vs.toArray E)):=by
  unfold execOp
  simp only[ho,Sem.run_bind]
  rw[run_buildSlice W S E 1 _ vs.toArray i0 z hE.und hi0 hz0 (by rw[hz1];have:=hE.small;omega) (by rw[hz1];have:=hE.pos;omega) (by
   have hp:(#[(0,x)].map fun (x:Nat×Operand)=>(x.1,a.eval x.2)).toList=[(0,a.eval x)]:=by simp
   rw[hp,hz1]
   rw[fill_any sz _ _ (by simp) (by rw[hx];simpa using hl),hx])]
  rfl
 exact RE.upon_run hrun (hG _ _ ((Below.refl _ W).alloc (Nat.le_refl _) _) ⟨_,rfl,hL,heap_alloc_new W _⟩)
theorem append_gen (hE:Elem E S sz bytes){W:World}{p:Option Addr}{n c g9:Nat}{xs z:List Value}(ty:TypeId)(hown:W.ownsRow 0 E sz (.slice p n c) n xs)(hz:W.heap[g9]? = some (.cells z.toArray E (0,0)))(hzl:z.length=sz)(h1:∀u∈z,u.oneCell'=true)(hn:n≤10000) :
  ∃v' w',(Builtin.append_ #[S,S] ty #[.slice p n c,.slice (some ⟨g9,0,none⟩) 1 1]).run Tryz.prog W=.ok v' w'∧w'.ownsRow 0 E sz v' (n+1) (xs++z) ∧
   ((n<c∧∃g,p=some ⟨g,0,none⟩∧v'=.slice p (n+1) c∧W.grownBy w' (some g))∨(¬n<c∧∃cap,v'=.slice (some ⟨W.heap.size,0,none⟩) (n+1) cap∧Below W.heap.size W w')):=by
 obtain⟨i0,zz,hi0,hz0,hz1,hz2,hz3⟩:=hE.info
 have hsm:=hE.small
 have hps:=hE.pos
 have hnews:∀j u,z[j]? = some u→W.cell? ((⟨g9,0,none⟩:Addr).add j)=some u:=fun j u hj=>by
  have e:(⟨g9,0,none⟩:Addr).add j=⟨g9,j,none⟩:=by
   unfold Addr.add
   by_cases h0:j=0
   ·subst h0;rfl
   ·rw[if_neg h0];simp
  rw[e,cell_of_row _ _ _ _ _ _ hz]
  simpa using hj
 have hby:(n+1)*bytes≤140737488355328:=by
  have:(n+1)*bytes≤10001*1000:=Nat.mul_le_mul (by omega) hsm.2
  omega
 obtain⟨v',w',hr,hown',hcase⟩:=run_append_both (P:=Tryz.prog) W 0 S ty E i0 zz sz bytes hE.und hi0 hz0 hz1 hz2 hz3 hps (.slice p n c) n xs hown ⟨g9,0,none⟩ 1 1 z (by omega) hnews h1 (by unfold maxLen;omega) hby (Nat.zero_le _) (by decide)
 refine⟨v',w',hr,hown',?_⟩
 rcases hcase with ⟨g,cap,e1,e2,e3⟩|⟨cap,e1,e2⟩
 ·injection e1 with f1 f2 f3
  subst f1;subst f3;subst e2
  left
  refine⟨?_,g,rfl,rfl,e3⟩
  rcases hown'.2 with ⟨h,_⟩|⟨_,_,_,h,_,_,h2,_⟩
  ·cases h
  ·injection h with _ _ h3
   omega
 ·right
  refine⟨fun hc=>?_,cap,e1,e2⟩
  rcases hown.2 with ⟨h,h0⟩|⟨g,cap2,cur,h,_,hg,h2,h3,h4,h5⟩
  ·injection h with _ _ h3;omega
  ·injection h with f1 _ f3
   subst f1;subst f3
   have hr2:=run_append_room (P:=Tryz.prog) W S ty E i0 hE.und hi0 g n c cur hg ⟨g9,0,none⟩ 1 1 z (by rw[hz1];omega) hnews h1 (by omega) (by
    rw[hz1,h4]
    have:=Nat.mul_le_mul_right sz (show n+1≤c from hc)
    rw[Nat.add_mul,Nat.one_mul] at this
    omega)
   rw[hr] at hr2
   injection hr2 with e4 _
   rw[e1] at e4
   injection e4 with e5 _ _
   injection e5 with e5
   injection e5 with e5
   have:=(Array.getElem?_eq_some_iff.1 hg).1
   omega
def ApS (E:TypeId) (sz:Nat) (w4:World) (p:Option Addr) (n c:Nat) (row:List Value) (W:World):Prop:=
 if n<c then Chg (fun x=>(Value.slice p n c).ownBlock=some x) w4 W∧W.ownsRow 0 E sz (.slice p (n+1) c) (n+1) row else ∃x:Wb w4,W=x.1
def ApV (E:TypeId) (sz:Nat) (w4:World) (p:Option Addr) (n c:Nat) (row:List Value) (W:World) (v:Value):Prop:=
 if n<c then v=.slice p (n+1) c∧∃g,p=some ⟨g,0,none⟩ else ∃g cap,v=.slice (some ⟨g,0,none⟩) (n+1) cap∧w4.heap.size≤g∧W.ownsRow 0 E sz v (n+1) row
def ApR (w4 W W':World):Prop:=∀b,w4.heap.size≤b→b<W.heap.size→W'.heap[b]? = W.heap[b]?
theorem ApR.of_below {w4 W W':World}(h:Below W.heap.size W W'):ApR w4 W W':=fun b _ hb=>h.block b hb
theorem ApV.keep {w4 W W':World}{p:Option Addr}{n c:Nat}{row:List Value}{v:Value}(h:ApV E sz w4 p n c row W v)(hR:ApR w4 W W'):ApV E sz w4 p n c row W' v:=by
 unfold ApV at *
 split
 ·rename_i h3;rw[if_pos h3] at h;exact h
 ·rename_i h3
  rw[if_neg h3] at h
  obtain⟨g,cap,e1,e2,e3⟩:=h
  refine⟨g,cap,e1,e2,owns_keep e3 fun g' hg'=>?_⟩
  have hb:=(own_block e3 g' hg').2
  rw[e1] at hg'
  injection hg' with hg'
  have hg':g=g':=hg'
  subst hg'
  exact hR g e2 hb
theorem One.keep {w4 W W':World}{vs:List Value}{v:Value}(h:One E w4.heap.size vs W v)(hR:ApR w4 W W'):One E w4.heap.size vs W' v:=by
 obtain⟨g,e1,e2,e3⟩:=h
 exact⟨g,e1,e2,(hR g e2 (Array.getElem?_eq_some_iff.1 e3).1).trans e3⟩
theorem upon_ap (hE:Elem E S sz bytes){o:Oper}{a:Act}{W w4:World}{G:Value→World→Prop}{n c:Nat}{vs:List Value}{p:Option Addr}{xs:List Value}(s y:Operand)(hop:o.op=.call { callee:=.builtin .append,args:=#[s,y],argTypes:=#[S,S] })
  (hs:a.eval s=.slice p n c) (hy:One E w4.heap.size vs W (a.eval y)) (hl:vs.length=sz) (h1:∀u∈vs,u.oneCell'=true) (hW:Below w4.heap.size w4 W) (hown:w4.ownsRow 0 E sz (.slice p n c) n xs) (hn:n≤10000)
  (hG:∀v' W',ApS E sz w4 p n c (xs++vs) W'→ApR w4 W W'→ApV E sz w4 p n c (xs++vs) W' v'→G v' W'):RE.Upon Tryz.prog o a W G:=by
 obtain⟨g9,hy,_,hg9⟩:=hy
 obtain⟨v',w',hr,hown',hcase⟩:=append_gen hE (p:=p) (c:=c) (z:=vs) o.type (owns_below hown hW) hg9 hl h1 hn
 have hrun:(execOp a.eval o).run Tryz.prog W=.ok (.value v') w':=by
  simp[execOp,hop,resolve,invoke,builtin,hs,hy,hr,Result.andThen]
 refine RE.upon_run hrun ?_
 rcases hcase with ⟨hc,g,rfl,rfl,hgr⟩|⟨hc,cap,rfl,hb⟩
 ·have hg:g<w4.heap.size:=(own_block hown g rfl).2
  refine hG _ _ ?_ (fun b hb hb'=>hgr.block b hb' (fun e=>by injection e with e;omega)) ?_
  ·unfold ApS
   rw[if_pos hc]
   refine⟨⟨hgr.os.trans hW.os,hgr.tape.trans hW.tape,hgr.output.trans hW.output,Nat.le_trans hW.size hgr.size,fun x hx hne=>?_⟩,hown'⟩
   exact (hgr.block x (Nat.lt_of_lt_of_le hx hW.size) (fun e=>hne e.symm)).trans (hW.block x hx)
  ·unfold ApV
   rw[if_pos hc]
   exact⟨rfl,g,rfl⟩
 ·refine hG _ _ ?_ (ApR.of_below hb) ?_
  ·unfold ApS
   rw[if_neg hc]
   exact⟨⟨w',hW.trans (hb.mono hW.size)⟩,rfl⟩
  ·unfold ApV
   rw[if_neg hc]
   exact⟨_,cap,rfl,hW.size,hown'⟩
theorem ap_end {w4 W:World}{p:Option Addr}{n c:Nat}{row:List Value}{v:Value}(hS:ApS E sz w4 p n c row W)(hV:ApV E sz w4 p n c row W v) :
  ∃g cap,v=.slice (some ⟨g,0,none⟩) (n+1) cap∧((Value.slice p n c).ownBlock=some g∨w4.heap.size≤g)∧Chg (fun x=>(Value.slice p n c).ownBlock=some x) w4 W∧W.ownsRow 0 E sz (.slice (some ⟨g,0,none⟩) (n+1) cap) (n+1) row:=by
 unfold ApS at hS
 unfold ApV at hV
 by_cases hc:n<c
 ·rw[if_pos hc] at hS hV
  obtain⟨h1,h2⟩:=hS
  obtain⟨rfl,g,rfl⟩:=hV
  exact⟨g,c,rfl,Or.inl rfl,h1,h2⟩
 ·rw[if_neg hc] at hS hV
  obtain⟨x,rfl⟩:=hS
  obtain⟨g,cap,rfl,h2,h3⟩:=hV
  exact⟨g,cap,rfl,Or.inr h2,Chg.of_below x.2,h3⟩
theorem ApS.below {w4 W W':World}{p:Option Addr}{n c:Nat}{row:List Value}(h:ApS E sz w4 p n c row W)(hb:Below W.heap.size W W'):ApS E sz w4 p n c row W':=by
 unfold ApS at *
 by_cases hc:n<c
 ·rw[if_pos hc] at h ⊢
  exact⟨h.1.trans (Chg.of_below hb),owns_below h.2 hb⟩
 ·rw[if_neg hc] at h ⊢
  obtain⟨x,rfl⟩:=h
  exact⟨⟨W',x.2.trans (hb.mono x.2.size)⟩,rfl⟩
theorem ApS.size {w4 W:World}{p:Option Addr}{n c:Nat}{row:List Value}(h:ApS E sz w4 p n c row W):w4.heap.size≤W.heap.size:=by
 unfold ApS at h
 split at h
 ·exact h.1.size
 ·obtain⟨x,rfl⟩:=h;exact x.2.size
def phA (E:TypeId) (sz:Nat) (w4:World) (p:Option Addr) (n c:Nat) (vs row:List Value) (i j k:Nat) (W:World) (ys:List Value):Prop:=
 if k=i then One E w4.heap.size vs W (ys.getD 0 undef) else if k=j then ApV E sz w4 p n c row W (ys.getD 0 undef) else True
theorem phA.keep {w4:World}{p:Option Addr}{n c:Nat}{vs row:List Value}{i j k:Nat}{W W':World}{ys:List Value}(h:phA E sz w4 p n c vs row i j k W ys)(hR:ApR w4 W W'):phA E sz w4 p n c vs row i j k W' ys:=by
 unfold phA at *
 split
 ·rename_i h1;rw[if_pos h1] at h;exact h.keep hR
 ·rename_i h1
  rw[if_neg h1] at h
  split
  ·rename_i h2;rw[if_pos h2] at h;exact h.keep hR
  ·trivial
def stA (E:TypeId) (sz:Nat) (w4:World) (p:Option Addr) (n c:Nat) (row:List Value) (s:Nat) (W:World):Prop:=if s=0 then (∃x:Wb w4,W=x.1) else ApS E sz w4 p n c row W
theorem stA.below {w4:World}{p:Option Addr}{n c:Nat}{row:List Value}{s:Nat}{W W':World}(h:stA E sz w4 p n c row s W)(hb:Below W.heap.size W W'):stA E sz w4 p n c row s W':=by
 unfold stA at *
 split
 ·rename_i h1
  rw[if_pos h1] at h
  obtain⟨x,rfl⟩:=h
  exact⟨⟨W',x.2.trans (hb.mono x.2.size)⟩,rfl⟩
 ·rename_i h1
  rw[if_neg h1] at h
  exact h.below hb
theorem stA.size {w4:World}{p:Option Addr}{n c:Nat}{row:List Value}{s:Nat}{W:World}(h:stA E sz w4 p n c row s W):w4.heap.size≤W.heap.size:=by
 unfold stA at h
 split at h
 ·obtain⟨x,rfl⟩:=h;exact x.2.size
 ·exact h.size
theorem stA.zero {w4:World}{p:Option Addr}{n c:Nat}{row:List Value}:stA E sz w4 p n c row 0 w4.drew:=⟨⟨w4.drew,(Below.refl _ _).drew⟩,rfl⟩
def Ks (w:World) (K:Nat→Prop):={W:World // ∀b,K b→W.heap[b]? = w.heap[b]?}
instance (w:World) (K:Nat→Prop):Nonempty (Ks w K):=⟨⟨w,fun _ _=>rfl⟩⟩
theorem Ks.cell {w:World}{K:Nat→Prop}(x:Ks w K){b o:Nat}(hb:K b){v:Value}(h:w.cell? ⟨b,o,none⟩=some v):x.1.cell? ⟨b,o,none⟩=some v:=by
 have e:x.1.cell? ⟨b,o,none⟩=w.cell? ⟨b,o,none⟩:=by unfold World.cell?;rw[x.2 b hb]
 rw[e];exact h
theorem ap_ks {w4:World}{p:Option Addr}{n c:Nat}{row:List Value}{K:Nat→Prop}(hK:∀b,K b→b<w4.heap.size∧(Value.slice p n c).ownBlock≠some b):∀(m s:Nat)(W:World),s≤m→stA E sz w4 p n c row s W→∃x:Ks w4 K,W=x.1:=fun m s W _ h=>by
 unfold stA at h
 refine⟨⟨W,fun b hb=>?_⟩,rfl⟩
 obtain⟨h1,h2⟩:=hK b hb
 split at h
 ·obtain⟨x,rfl⟩:=h
  exact x.2.block b h1
 ·unfold ApS at h
  split at h
  ·exact h.1.block b h1 (fun e=>h2 e)
  ·obtain⟨x,rfl⟩:=h
   exact x.2.block b h1
end
def RowIn {α:Type} (W:World) (F:Nat→Prop) (E:TypeId) (r:Rd α) (xs:List α) (v:Value):Prop:=∃us,W.ownsRow 0 E r.n v xs.length us∧r.cells W F xs us
section
variable {α β:Type} {W W':World} {F F' G:Nat→Prop} {E E2:TypeId} {r:Rd α} {s:Rd β} {xs:List α} {ys:List β} {v v2:Value}
theorem RowIn.nil:RowIn W F E r [] (.slice none 0 0):=⟨[],World.ownsRow_nil _ _ _ _,Rd.cells_nil⟩
theorem RowIn.lt (h:RowIn W F E r xs v){g:Nat}(hg:v.ownBlock=some g):g<W.heap.size:=by
 obtain⟨us,h1,_⟩:=h
 exact (own_block h1 g hg).2
theorem RowIn.type (h:RowIn W F E r xs v){g:Nat}(hg:v.ownBlock=some g):∃cs,W.heap[g]? = some (.cells cs E (0,0)):=by
 obtain⟨us,⟨_,h1⟩,_⟩:=h
 rcases h1 with ⟨rfl,_⟩|⟨g',cap,cur,rfl,_,hc,_⟩
 ·cases hg
 ·injection hg with hg
  have hg:g'=g:=hg
  subst hg
  exact⟨cur,hc⟩
theorem RowIn.apart (h:RowIn W F E r xs v)(k:RowIn W G E2 s ys v2)(hne:E≠E2){g:Nat}(hg:v.ownBlock=some g):v2.ownBlock≠some g:=fun e=>by
 obtain⟨cs,h1⟩:=h.type hg
 obtain⟨ds,h2⟩:=k.type e
 rw[h1] at h2
 injection h2 with h2
 injection h2 with _ h2
 exact hne h2
theorem RowIn.shape (h:RowIn W F E r xs v):∃p c,v=.slice p xs.length c:=by
 obtain⟨us,⟨_,h1⟩,_⟩:=h
 rcases h1 with ⟨rfl,h0⟩|⟨g',cap,cur,rfl,_,_,h2,_⟩
 ·exact⟨none,0,by rw[h0]⟩
 ·exact⟨_,_,rfl⟩
theorem RowIn.keep (hv:∀g,v.ownBlock=some g→W'.heap[g]? = W.heap[g]?)(hk:∀b,F b→∀o,W.heap[b]? = some o→W'.heap[b]? = some o)(hs:∀b,F b→F' b)(h:RowIn W F E r xs v):RowIn W' F' E r xs v:=by
 obtain⟨us,h1,h2⟩:=h
 exact⟨us,owns_keep h1 hv,Rd.cells_sub hs (Rd.cells_keep hk h2)⟩
theorem RowIn.other (h:RowIn W F E r xs v)(hc:Chg (fun x=>v2.ownBlock=some x) W W')(hv:∀g,v.ownBlock=some g→v2.ownBlock≠some g)(hF:∀b,F b→b<W.heap.size∧v2.ownBlock≠some b)(hs:∀b,F b→F' b):RowIn W' F' E r xs v:=
 h.keep (fun g hg=>hc.block g (h.lt hg) (hv g hg)) (fun b hb _ ho=>(hc.block b (hF b hb).1 (hF b hb).2).trans ho) hs
theorem RowIn.below (h:RowIn W F E r xs v)(hb:Below W.heap.size W W')(hF:∀b,F b→b<W.heap.size)(hs:∀b,F b→F' b):RowIn W' F' E r xs v:=
 h.keep (fun g hg=>hb.block g (h.lt hg)) (fun b hf _ ho=>(hb.block b (hF b hf)).trans ho) hs
theorem RowIn.stored (h:RowIn W F E r xs v){M:Nat}(hM:v.ownBlock≠some M)(hFM:∀b,F b→b≠M)(hs:∀b,F b→F' b)(hw:∀b,b≠M→W'.heap[b]? = W.heap[b]?):RowIn W' F' E r xs v:=
 h.keep (fun g hg=>hw g (fun e=>hM (e ▸ hg))) (fun b hf _ ho=>(hw b (hFM b hf)).trans ho) hs
theorem RowIn.row (h:RowIn W F E r xs v)(hs:∀b,F b→G b)(hg:∀g,v.ownBlock=some g→G g):r.row W G xs v:=by
 obtain⟨us,h1,h2⟩:=h
 exact Rd.row_own h1 (Rd.cells_sub hs h2) hg
theorem RowIn.sub (h:RowIn W F E r xs v)(hs:∀b,F b→F' b):RowIn W F' E r xs v:=h.keep (fun _ _=>rfl) (fun _ _ _ ho=>ho) hs
end
section
variable {E S:TypeId} {sz bytes:Nat} {W W1 W' w5:World} {n c:Nat} {p:Option Addr} {row:List Value} {v:Value}
theorem upon_ap2 (hE:Elem E S sz bytes){o:Oper}{a:Act}{L:Nat}{G:Value→World→Prop}{vs xs:List Value}(s y:Operand)(hop:o.op=.call { callee:=.builtin .append,args:=#[s,y],argTypes:=#[S,S] })
  (hs:a.eval s=.slice p n c) (hy:One E L vs W (a.eval y)) (hl:vs.length=sz) (h1:∀u∈vs,u.oneCell'=true) (hown:W.ownsRow 0 E sz (.slice p n c) n xs) (hn:n≤10000)
  (hG:∀v' W',ApS E sz W p n c (xs++vs) W'→ApV E sz W p n c (xs++vs) W' v'→G v' W'):RE.Upon Tryz.prog o a W G:=by
 obtain⟨g9,hy,_,hg9⟩:=hy
 obtain⟨v',w',hr,hown',hcase⟩:=append_gen hE (p:=p) (c:=c) (z:=vs) o.type hown hg9 hl h1 hn
 have hrun:(execOp a.eval o).run Tryz.prog W=.ok (.value v') w':=by
  simp[execOp,hop,resolve,invoke,builtin,hs,hy,hr,Result.andThen]
 refine RE.upon_run hrun ?_
 rcases hcase with ⟨hc,g,rfl,rfl,hgr⟩|⟨hc,cap,rfl,hb⟩
 ·refine hG _ _ ?_ ?_
  ·unfold ApS
   rw[if_pos hc]
   exact⟨⟨hgr.os,hgr.tape,hgr.output,hgr.size,fun x hx hne=>hgr.block x hx (fun e=>hne e.symm)⟩,hown'⟩
  ·unfold ApV
   rw[if_pos hc]
   exact⟨rfl,g,rfl⟩
 ·refine hG _ _ ?_ ?_
  ·unfold ApS
   rw[if_neg hc]
   exact⟨⟨w',hb⟩,rfl⟩
  ·unfold ApV
   rw[if_neg hc]
   exact⟨_,cap,rfl,Nat.le_refl _,hown'⟩
theorem ApS.chg (h:ApS E sz W1 p n c row W):Chg (fun x=>(Value.slice p n c).ownBlock=some x) W1 W:=by
 unfold ApS at h
 split at h
 ·exact h.1
 ·obtain⟨x,rfl⟩:=h;exact Chg.of_below x.2
theorem ApV.from (h:ApV E sz W1 p n c row W v)(hs:w5.heap.size≤W1.heap.size):ApV E sz w5 p n c row W v:=by
 unfold ApV at *
 split
 ·rename_i h1;rw[if_pos h1] at h;exact h
 ·rename_i h1
  rw[if_neg h1] at h
  obtain⟨g,cap,h2,h3,h4⟩:=h
  exact⟨g,cap,h2,Nat.le_trans hs h3,h4⟩
theorem ApR.of_chg {F:Nat→Prop}(h:Chg F W W')(hF:∀b,F b→b<w5.heap.size):ApR w5 W W':=fun b hb hb'=>h.block b hb' (fun hf=>by have:=hF b hf;omega)
theorem ap_end2 (hS:ApS E sz W1 p n c row W)(hV:ApV E sz w5 p n c row W v):∃g cap,v=.slice (some ⟨g,0,none⟩) (n+1) cap∧((Value.slice p n c).ownBlock=some g∨w5.heap.size≤g)∧Chg (fun x=>(Value.slice p n c).ownBlock=some x) W1 W∧W.ownsRow 0 E sz (.slice (some ⟨g,0,none⟩) (n+1) cap) (n+1) row:=by
 have hC:=hS.chg
 unfold ApS at hS
 unfold ApV at hV
 by_cases hc:n<c
 ·rw[if_pos hc] at hS hV
  obtain⟨h1,h2⟩:=hS
  obtain⟨rfl,g,rfl⟩:=hV
  exact⟨g,c,rfl,Or.inl rfl,h1,h2⟩
 ·rw[if_neg hc] at hV
  obtain⟨g,cap,rfl,h2,h3⟩:=hV
  exact⟨g,cap,rfl,Or.inr h2,hC,h3⟩
end
end Go.Proofs.YtglbjooofdnbkaaGreatDoor
