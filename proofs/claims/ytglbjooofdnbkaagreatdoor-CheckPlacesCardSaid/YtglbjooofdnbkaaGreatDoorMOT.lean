/- An argument that is a node, read as data, is a tree. No condition. -/
import Derived.Test.YtglbjooofdnbkaaGreatDoorMM
import Derived.ChangeArms
import Derived.RowKit
namespace Go.Proofs.YtglbjooofdnbkaaGreatDoor
set_option maxRecDepth 100000
open Go.ChangeShapes Go.WideShapes Go.ChangeAt Go.RowKit
theorem list_of_lt {α:Type}{p:Nat→α→Prop}:∀{n:Nat},(∀i,i<n→∃x,p i x)→∃l:List α,l.length=n∧∀i x,l[i]? = some x→p i x:=by
 intro n
 induction n with
 | zero=>intro _;exact⟨[],rfl,fun i x h=>by simp at h⟩
 | succ n ih =>
  intro h
  obtain⟨l,hl,hp⟩:=ih (fun i hi=>h i (Nat.lt_succ_of_lt hi))
  obtain⟨x,hx⟩:=h n (Nat.lt_succ_self n)
  refine⟨l++[x],by simp[hl],fun i y hy=>?_⟩
  by_cases hi:i<n
  ·rw[List.getElem?_append_left (by omega)] at hy
   exact hp i y hy
  ·rw[List.getElem?_append_right (by omega)] at hy
   have hi2:i=n:=by
    have:=(List.getElem?_eq_some_iff.1 hy).1
    simp at this;omega
   subst hi2
   simp[hl] at hy
   subst hy
   exact hx
theorem cellsNode:Tryz.prog.cellsOf 25=5:=by kernel_rfl
theorem open_nodes {H:Type}{enc:TypeId×Value→H}{w:World}{sp:Nat→Bool}{hd:Bool}:∀(fuel:Nat)(cs:List Value)(x:DataW H×List MemPlace),DataW.trod enc Tryz.prog w 0 sp hd fuel 25 cs=some x →
  ∃T s,cs=nodeCells T s∧Fits T∧KidsAt w w.heap.size fuel T.kids s:=by
 intro fuel
 induction fuel using Nat.strongRecOn with
 | _ fuel ih =>
 intro cs x h
 obtain⟨xs,n,rfl,rfl,hl,hxl,hf⟩:=DataW.trod_struct Tryz.underlying25 h
 rw[cellsNode] at hl
 match cs,hl with
 | [v0,v1,v2,v3,v4],_ =>
  have hx:∀i,i<5→∃y,xs[i]? = some y:=fun i hi=>⟨xs[i]'(by rw[hxl];exact hi),List.getElem?_eq_getElem _⟩
  obtain⟨y0,e0⟩:=hx 0 (by omega)
  obtain⟨y1,e1⟩:=hx 1 (by omega)
  obtain⟨y2,e2⟩:=hx 2 (by omega)
  obtain⟨y3,e3⟩:=hx 3 (by omega)
  obtain⟨y4,e4⟩:=hx 4 (by omega)
  have c0:Tryz.prog.cellsOf 22=1:=by kernel_rfl
  have c1:Tryz.prog.cellsOf 9=1:=by kernel_rfl
  have c2:Tryz.prog.cellsOf 3=1:=by kernel_rfl
  have c4:Tryz.prog.cellsOf 23=1:=by kernel_rfl
  have f0:DataW.trod enc Tryz.prog w 0 sp hd n 22 (([v0,v1,v2,v3,v4].drop 0).take (Tryz.prog.cellsOf 22))=some y0:=(hf 0 _ rfl).trans e0
  rw[c0] at f0
  change DataW.trod enc Tryz.prog w 0 sp hd n 22 [v0]=some y0 at f0
  have f1:DataW.trod enc Tryz.prog w 0 sp hd n 9 (([v0,v1,v2,v3,v4].drop 1).take (Tryz.prog.cellsOf 9))=some y1:=(hf 1 _ rfl).trans e1
  rw[c1] at f1
  change DataW.trod enc Tryz.prog w 0 sp hd n 9 [v1]=some y1 at f1
  have f2:DataW.trod enc Tryz.prog w 0 sp hd n 3 (([v0,v1,v2,v3,v4].drop 2).take (Tryz.prog.cellsOf 3))=some y2:=(hf 2 _ rfl).trans e2
  rw[c2] at f2
  change DataW.trod enc Tryz.prog w 0 sp hd n 3 [v2]=some y2 at f2
  have f3:DataW.trod enc Tryz.prog w 0 sp hd n 3 (([v0,v1,v2,v3,v4].drop 3).take (Tryz.prog.cellsOf 3))=some y3:=(hf 3 _ rfl).trans e3
  rw[c2] at f3
  change DataW.trod enc Tryz.prog w 0 sp hd n 3 [v3]=some y3 at f3
  have f4:DataW.trod enc Tryz.prog w 0 sp hd n 23 (([v0,v1,v2,v3,v4].drop 4).take (Tryz.prog.cellsOf 23))=some y4:=(hf 4 _ rfl).trans e4
  rw[c4] at f4
  change DataW.trod enc Tryz.prog w 0 sp hd n 23 [v4]=some y4 at f4
  obtain⟨k,g0,_,w0⟩:=DataW.trod_int Tryz.underlying22 f0
  obtain⟨t,g1,_,w1⟩:=DataW.trod_string Tryz.underlying9 f1
  obtain⟨nm,g2,_,w2⟩:=DataW.trod_int Tryz.underlying3 f2
  obtain⟨pl,g3,_,w3⟩:=DataW.trod_int Tryz.underlying3 f3
  have g4:=DataW.trod_slice Tryz.underlying23 f4
  simp only[List.cons.injEq,and_true] at g0 g1 g2 g3 g4
  subst g0 g1 g2 g3
  have u0:0≤k∧k≤255:=by
   have h:=w0
   unfold Lit.wf at h
   rw[Bool.and_eq_true] at h
   exact⟨of_decide_eq_true h.1,of_decide_eq_true h.2⟩
  have u2:-9223372036854775808≤nm∧nm≤9223372036854775807:=by
   have h:=w2
   unfold Lit.wf at h
   rw[Bool.and_eq_true] at h
   exact⟨of_decide_eq_true h.1,of_decide_eq_true h.2⟩
  have u3:-9223372036854775808≤pl∧pl≤9223372036854775807:=by
   have h:=w3
   unfold Lit.wf at h
   rw[Bool.and_eq_true] at h
   exact⟨of_decide_eq_true h.1,of_decide_eq_true h.2⟩
  obtain⟨k',rfl⟩:∃k':Nat,k=k':=⟨k.toNat,by omega⟩
  have mk:∀ks,KidsAt w w.heap.size (n+1) ks v4→∃T s,[Value.int .u8 k',.string t,.int .i64 nm,.int .i64 pl,v4]=nodeCells T s∧Fits T∧KidsAt w w.heap.size (n+1) T.kids s:=
   fun ks hk=>⟨.mk k' t nm pl ks,v4,rfl,⟨by show k'<256;omega,w1,by show _≤nm;omega,by show nm<_;omega,by show _≤pl;omega,by show pl<_;omega⟩,hk⟩
  rcases g4 with ⟨rfl,_⟩|⟨a,len,cap,elems,rest,n',hn,rfl,_,_,hlc,hcm,hel,hat,_⟩
  ·exact mk [] (Or.inl ⟨rfl,_,_,rfl⟩)
  ·subst hn
   have hall:∀i,i<len→∃y:Tree×Value,Fits y.1∧KidsAt w w.heap.size n' y.1.kids y.2∧∀m u,(nodeCells y.1 y.2)[m]? = some u→w.cell? ((a.add (i*5)).add m)=some u:=by
    intro i hi
    have h1:=hat i hi
    rw[List.getElem?_eq_getElem (by omega),cellsNode] at h1
    obtain⟨cs',h2,h3⟩:=Option.bind_eq_some_iff.1 h1
    obtain⟨T,s,rfl,hfT,hkT⟩:=ih n' (by omega) cs' _ h3
    obtain⟨_,_,h5⟩:=World.cells?_some h2
    refine⟨(T,s),hfT,hkT,fun m u hm=>?_⟩
    have hm5:m<5:=(List.getElem?_eq_some_iff.1 hm).1
    exact (h5 m hm5).trans hm
   obtain⟨l,hll,hp⟩:=list_of_lt hall
   refine mk (l.map (·.1)) ?_
   by_cases h0:len=0
   ·subst h0
    have:l=[]:=List.eq_nil_of_length_eq_zero hll
    subst this
    exact Or.inl ⟨rfl,_,_,rfl⟩
   ·obtain⟨b,off,spot⟩:=a
    have hc0:∃u,w.cell? (((⟨b,off,spot⟩:Addr).add (0*5)).add 0)=some u:=by
     obtain⟨y,hy⟩:∃y,l[0]? = some y:=⟨l[0]'(by omega),List.getElem?_eq_getElem _⟩
     exact⟨_,(hp 0 y hy).2.2 0 _ rfl⟩
    obtain⟨u,hu⟩:=hc0
    have hsp:spot=none:=World.cell?_spot (a:=⟨b,off,spot⟩) (by simpa [Addr.add] using hu)
    subst hsp
    have hb:b<w.heap.size:=World.block_lt_of_cell? w _ (by simpa [Addr.add] using hu)
    refine Or.inr ⟨b,off,cap,?_,hb,by simpa [hll] using hlc,hcm,by simp[hll],fun i T hT=>?_⟩
    ·intro e
     have:=congrArg List.length e
     simp[hll] at this
     exact h0 this
    ·rw[List.getElem?_map] at hT
     obtain⟨y,hy,rfl⟩:=Option.map_eq_some_iff.1 hT
     obtain⟨q1,q2,q3⟩:=hp i y hy
     have q:∀m u,(nodeCells y.1 y.2)[m]? = some u→w.cell? ⟨b,off+i*5+m,none⟩=some u:=fun m u hm=>by
      have:=q3 m u hm
      rwa [add_plain,add_plain] at this
     exact⟨q1,y.2,q 0 _ rfl,q 1 _ rfl,q 2 _ rfl,q 3 _ rfl,q 4 _ rfl,q2.deeper (Nat.le_succ _)⟩
theorem open_node {H:Type}{enc:TypeId×Value→H}{w:World}{sp:Nat→Bool}{hd:Bool}{r:Reach}{base:Nat}{v:Value}{d:DataW H}{ps:List MemPlace}(hval:Value.okWide Tryz.prog w r base 25 v)(h:DataW.Trod enc Tryz.prog w 0 sp hd 25 v d ps) :
  ∃(n:Nat) (T:Tree),NodeAt w w.heap.size n T v:=by
 obtain⟨fuel,hf⟩:=h
 obtain⟨T,s,hc,hT,hk⟩:=open_nodes fuel _ _ hf
 obtain⟨cs,rfl,_⟩:=okWide_struct Tryz.underlying25 hval
 refine⟨fuel,T,hT,s,?_,hk⟩
 have:cs.toList=nodeCells T s:=hc
 show Value.agg cs=.agg (nodeCells T s).toArray
 rw[←this]
end Go.Proofs.YtglbjooofdnbkaaGreatDoor
