/- Parts of one proof, joined; conditions stand in each theorem. -/
import Derived.Test.YtoahnjkclckodaaGreatDoorMM
import Derived.ChangeArms
import Derived.RowKit
import Derived.Test.YtoahnjkclckodaaGreatDoorNA
import Derived.SizedLaws
import Derived.Test.YtoahnjkclckodaaGreatDoorIT
open Option renaming some→A
open Go renaming TypeId→xD,Value→tS,World→J
open Go.Proofs.Tryz renaming prog→va
namespace Go.Proofs.YtoahnjkclckodaaGreatDoor
set_option maxRecDepth 100000
open Go.ChangeShapes Go.WideShapes Go.ChangeAt Go.RowKit
theorem Ce{α:Type}{p:Nat→α→Prop}:∀{n:Nat},(∀i,i<n→∃x,p i x)→∃l:List α,l.length=n∧∀i x,l[i]?=A x→p i x:=by
 intro n
 induction n with
 | zero=>intro _;exact⟨[],Z,fun i x h=>by simp at h⟩
 | succ n d =>
  intro h;obtain⟨l,c,f⟩:=d (fun i hi=>h i (Nat.lt_succ_of_lt hi));obtain⟨x,g⟩:=h n (Nat.lt_succ_self n);refine⟨l++[x],by simp[c],fun i y a=>?_⟩
  by_cases hi:i<n
  ·rw[Kl (by omega)]at a;exact f i y a
  ·rw[Kd (by omega)]at a;have b:i=n:=by
    have:=(J3.1 a).1;simp at this;omega
   subst b;simp[c]at a;subst a;exact g
def qQ{H:Type} (t:xD) (d:DataW H):Prop:=∀n∈d.weights va t,n≤reachBytes
def eZ{α:Type} (D:Nat) (t:xD) (r:Rd α) (Q:α→Prop):Prop:=
 ∀(H:Type) (enc:xD×tS→H) (w:J) (sp:Nat→Bool) (c:Bool) (fuel:Nat),fuel≤D→∀(cs:List tS) (x:DataW H×List MemPlace),DataW.trod enc va w 0 sp c fuel t cs=A x→qQ t x.1→∃a,r.at_ w (fun b=>b<w.heap.size) a cs∧Q a
theorem rq{H:Type}{e:xD}{n:Nat}:∀(l:List (DataW H)) (d:DataW H),d∈l→n∈d.weights va e→n∈DataW.weightsAll va e l
 | [],d,h,_=>by cases h
 | x::l,d,h,a=>by
  rw[DataW.weightsAll,List.mem_append];rcases Kk.1 h with rfl|h
  ·exact Or.inl a
  ·exact Or.inr (rq l d h a)
section
variable {α β:Type} {D:Nat} {t e:xD} {r:Rd α} {s:Rd β} {Q:α→Prop} {Q':β→Prop}
theorem eU(a:Tryz.prog.underlying t=A (.int IntKind.i64)):eZ D t Rd.int (fun _=>True):=by
 intro H enc w sp d fuel _ cs x b _;obtain⟨n,rfl,_,hw⟩:=DataW.trod_int a b;unfold Lit.wf at hw;rw[J4]at hw;have c:-9223372036854775808≤n:=o1 hw.1;have f:n≤9223372036854775807:=o1 hw.2;exact⟨n,⟨Z,c,by omega⟩,trivial⟩
theorem GH(a:Tryz.prog.underlying t=A (.int IntKind.u8)):eZ D t Rd.u8 (fun _=>True):=by
 intro H enc w sp d fuel _ cs x b _;obtain⟨n,rfl,_,hw⟩:=DataW.trod_int a b;unfold Lit.wf at hw;rw[J4]at hw;have c:0≤n:=o1 hw.1;have f:n≤255:=o1 hw.2;exact⟨n,⟨Z,c,by omega⟩,trivial⟩
theorem uQ(a:Tryz.prog.underlying t=A .string):eZ D t Rd.str (fun _=>True):=by
 intro H enc w sp d fuel _ cs x c _;obtain⟨b,rfl,_,hw⟩:=DataW.trod_string a c;exact⟨b,⟨Z,hw⟩,trivial⟩
theorem kl{f:β→α}(g:α→β)(d:∀a,f (g a)=a)(h:eZ D t r Q):eZ D t (r.as f) (fun b=>Q (f b)):=by
 intro H enc w sp j fuel k cs x l c;obtain⟨a,m,n⟩:=h H enc w sp j fuel k cs x l c;exact⟨g a,by show r.at_ w _ (f (g a)) cs;rw[d];exact m,by show Q (f (g a));rw[d];exact n⟩
theorem gI(hu:Tryz.prog.underlying t=A (.slice e))(L:Tryz.prog.cellsOf e=r.n)(hn:0<r.n)(o:0<Tryz.prog.bytesOf e)(he:eZ D e r Q):eZ D t r.list (fun l=>l.length≤reachBytes∧∀a∈l,Q a):=by
 intro H enc w sp M fuel hf cs x N f;rcases DataW.trod_slice hu N with ⟨rfl,_⟩|⟨a,len,cap,elems,rest,P,R,rfl,rfl,_,p,q,S,v,_⟩
 ·exact⟨[],⟨_,Z,Rd.tk⟩,J0 _,fun a h=>by cases h⟩
 ·have hw:((elems.map (·.1)).length+(rest.map (·.1)).length)*Tryz.prog.bytesOf e≤reachBytes:=f _ (by simp[DataW.weights,hu]);have hlen:len≤reachBytes:=by
   have z:len*1≤((elems.map (·.1)).length+(rest.map (·.1)).length)*Tryz.prog.bytesOf e:=Nat.mul_le_mul (by rw[List.length_map];omega) o;omega
  have g:∀i,i<len→∃y:α×List tS,(r.at_ w (fun b=>b<w.heap.size) y.1 y.2∧Q y.1)∧∀m u,y.2[m]?=A u→w.cell? ((a.add (i*r.n)).add m)=A u:=by
   intro i hi;have z:=v i hi;rw[JR (by omega),L]at z;obtain⟨j,V,W⟩:=Option.bind_eq_some_iff.1 z
   obtain⟨y,c,X⟩:=he H enc w sp M P (by omega) j _ W (fun m hm=>f m (by
    simp only[DataW.weights,hu,Kk,List.mem_append]
    exact Or.inr (Or.inl (rq _ _ (List.mem_map.2 ⟨_,List.getElem_mem _,Z⟩) hm))))
   obtain⟨_,_,h5⟩:=World.cells?_some V;refine⟨(y,j),⟨c,X⟩,fun m u hm=>?_⟩;have B:m<r.n:=by
    have:=(J3.1 hm).1;rw[r.len c]at this;exact this
   exact (h5 m B).trans hm
  obtain⟨l,d,k⟩:=Ce g;refine⟨l.map (·.1),⟨_,Z,?_⟩,by rw[List.length_map];omega,fun a ha=>?_⟩
  rotate_left
  ·obtain⟨y,c,rfl⟩:=List.mem_map.1 ha;obtain⟨i,hi⟩:=List.getElem?_of_mem c;exact (k i y hi).1.2
  by_cases F:len=0
  ·subst F;have:l=[]:=Kb d;subst this;exact Or.inl ⟨Z,_,_,Z⟩
  ·obtain⟨b,off,spot⟩:=a;have C:∃u,w.cell? (((⟨b,off,spot⟩:Addr).add (0*r.n)).add 0)=A u:=by
    obtain⟨y,c⟩:∃y,l[0]?=A y:=⟨l[0]'(by omega),JR _⟩;have hl:=r.len (k 0 y c).1.1;exact⟨_,(k 0 y c).2 0 (y.2[0]'(by omega)) (JR _)⟩
   obtain⟨u,hu⟩:=C;have E:spot=none:=World.cell?_spot (a:=⟨b,off,spot⟩) (by simpa [Addr.add]using hu);subst E;have G:b<w.heap.size:=World.block_lt_of_cell? w _ (by simpa [Addr.add]using hu);refine Or.inr ⟨b,off,cap,?_,G,G,by simpa [d]using p,q,by simp[d],fun i T K=>?_⟩
   ·intro e;have:=o4 List.length e;simp[d]at this;exact F this
   ·rw[List.getElem?_map]at K;obtain⟨y,c,rfl⟩:=o7.1 K;obtain⟨⟨q1,_⟩,q3⟩:=k i y c;refine⟨y.2,q1,fun m u hm=>?_⟩;have:=q3 m u hm
    rwa [add_plain,add_plain]at this
def FO{α:Type} (D:Nat) (fs:Array Field) (_i off:Nat) (r:Rd α) (Q:α→Prop):Prop:=
 ∀(H:Type) (enc:xD×tS→H) (w:J) (sp:Nat→Bool) (c:Bool) (n:Nat),n≤D→∀(cs:List tS) (xs:List (DataW H×List MemPlace)),xs.length=fs.size→cs.length=off+r.n→
  (∀(j:Nat) (f:Field),fs[j]?=A f→DataW.trod enc va w 0 sp c n f.type ((cs.drop f.offset).take (Tryz.prog.cellsOf f.type))=xs[j]?)→(∀(j:Nat) (f:Field) (y:DataW H×List MemPlace),fs[j]?=A f→xs[j]?=A y→qQ f.type y.1)→∃a,r.at_ w (fun b=>b<w.heap.size) a (cs.drop off)∧Q a
variable {fs:Array Field} {i off:Nat}
theorem Hw{H:Type}{enc:xD×tS→H}{w:J}{sp:Nat→Bool}{d:Bool}{n:Nat}{cs:List tS}{xs:List (DataW H×List MemPlace)}(g:(fs[i]?.map fun f=>(f.type,f.offset))=A (t,off))(m:xs.length=fs.size)
  (h:∀(j:Nat) (f:Field),fs[j]?=A f→DataW.trod enc va w 0 sp d n f.type ((cs.drop f.offset).take (Tryz.prog.cellsOf f.type))=xs[j]?) (b:∀(j:Nat) (f:Field) (y:DataW H×List MemPlace),fs[j]?=A f→xs[j]?=A y→qQ f.type y.1):∃y,DataW.trod enc va w 0 sp d n t ((cs.drop off).take (Tryz.prog.cellsOf t))=A y∧qQ t y.1:=by
 obtain⟨f,a,c⟩:=o7.1 g;injection c with k l
 subst k;subst l;have hi:=(JL.1 a).1;refine⟨xs[i]'(by omega),?_,b i f _ a (JR _)⟩;rw[h i f a];exact JR _
theorem j9(d:(fs[i]?.map fun f=>(f.type,f.offset))=A (t,off))(g:Tryz.prog.cellsOf t=r.n)(j:eZ D t r Q):FO D fs i off r Q:=by
 intro H enc w sp k n l cs xs m o h a;obtain⟨y,c,b⟩:=Hw d m h a;rw[g,J5 (by rw[List.length_drop];omega)]at c;exact j H enc w sp k n l _ _ c b
theorem eM(q:(fs[i]?.map fun f=>(f.type,f.offset))=A (t,off))(u:Tryz.prog.cellsOf t=r.n)(v:eZ D t r Q)(x:FO D fs (i+1) (off+r.n) s Q'):FO D fs i off (r.rv s) (fun p=>Q p.1∧Q' p.2):=by
 intro H enc w sp k n l cs xs m z h c;obtain⟨y,o,d⟩:=Hw q m h c;rw[u]at o;obtain⟨a,B,g⟩:=v H enc w sp k n l _ _ o d;have C:cs.length=off+(r.n+s.n):=z;obtain⟨b,E,j⟩:=x H enc w sp k n l cs xs m (by omega) h c;refine⟨(a,b),⟨(cs.drop off).take r.n,cs.drop (off+r.n),?_,B,E⟩,g,j⟩;rw[←List.drop_drop,List.take_append_drop]
theorem fG(hu:Tryz.prog.underlying t=A (.struct fs))(v:Tryz.prog.cellsOf t=r.n)(h:∀b,D=b+1→FO b fs 0 0 r Q):eZ D t r Q:=by
 intro H enc w sp o fuel z cs x p c;obtain⟨xs,n,rfl,rfl,B,g,q⟩:=DataW.trod_struct hu p;obtain⟨b,rfl⟩:∃b,D=b+1:=⟨D-1,by omega⟩
 obtain⟨a,u⟩:=h b Z H enc w sp o n (by omega) cs xs g (by omega) q (fun j f y k l m hm=>c m (by
  simp only[DataW.weights,hu]
  exact DataW.weights_mem_each (j:=j) (t:=f.type) (d:=y.1) (by simp[k]) (by rw[List.getElem?_map,l];rfl) m hm))
 exact⟨a,u⟩
end
theorem eZ.imp{α:Type}{D:Nat}{t:xD}{r:Rd α}{Q Q':α→Prop}(h:eZ D t r Q)(b:∀a,Q a→Q' a):eZ D t r Q':=fun H enc w sp c fuel d cs x f g=>by
 obtain⟨a,j,k⟩:=h H enc w sp c fuel d cs x f g;exact⟨a,j,b a k⟩
theorem vL(D:Nat):eZ D 88 bK (fun _=>True):=
 (kl (fun a=>⟨a.1,a.2.1,a.2.2⟩) (fun _=>rfl) (fG Tryz.underlying88 (by kernel_rfl) fun b _ =>
  eM (t:=86) (by kernel_rfl) (by kernel_rfl) (GH (by kernel_rfl)) (eM (t:=2) (by kernel_rfl) (by kernel_rfl) (eU (by kernel_rfl)) (j9 (t:=9) (by kernel_rfl) (by kernel_rfl) (uQ (by kernel_rfl)))))).imp fun _ _=>trivial
def Ia(r:eb):Prop:=r.a.length≤reachBytes∧r.b.length≤reachBytes∧∀f∈r.a,f.c.length≤reachBytes
theorem sJ(D:Nat):eZ D 47 aG (fun f=>f.c.length≤reachBytes):=
 (kl (fun a=>⟨a.1,a.2.1,a.2.2⟩) (fun _=>rfl) (fG Tryz.underlying47 (by kernel_rfl) fun b _ =>
  eM (t:=3) (by kernel_rfl) (by kernel_rfl) (eU (by kernel_rfl)) (eM (t:=3) (by kernel_rfl) (by kernel_rfl) (eU (by kernel_rfl))
   (j9 (t:=45) (by kernel_rfl) (by kernel_rfl) (gI (by kernel_rfl) (by kernel_rfl) (by decide) (o1 (by kernel_rfl)) (vL b)))))).imp fun _ h=>h.2.2.1
theorem Dh(D:Nat):eZ D 50 dx (fun t=>t.b.length≤reachBytes):=
 (kl (fun a=>⟨a.1,a.2⟩) (fun _=>rfl) (fG Tryz.underlying50 (by kernel_rfl) fun b _ =>
  eM (t:=3) (by kernel_rfl) (by kernel_rfl) (eU (by kernel_rfl)) (j9 (t:=48) (by kernel_rfl) (by kernel_rfl) (gI (e:=3) (by kernel_rfl) (by kernel_rfl) (by decide) (o1 (by kernel_rfl)) (eU (by kernel_rfl)))))).imp fun _ h=>h.2.1
theorem zi(D:Nat):eZ D 52 bJ Ia:=
 (kl (fun a=>⟨a.1,a.2.1,a.2.2.1,a.2.2.2⟩) (fun _=>rfl) (fG Tryz.underlying52 (by kernel_rfl) fun b _ =>
  eM (t:=32) (by kernel_rfl) (by kernel_rfl) (eU (by kernel_rfl)) (eM (t:=3) (by kernel_rfl) (by kernel_rfl) (eU (by kernel_rfl))
   (eM (t:=22) (by kernel_rfl) (by kernel_rfl) (gI (by kernel_rfl) (by kernel_rfl) (by decide) (o1 (by kernel_rfl)) (sJ b))
    (j9 (t:=45) (by kernel_rfl) (by kernel_rfl) (gI (by kernel_rfl) (by kernel_rfl) (by decide) (o1 (by kernel_rfl)) (vL b))))))).imp fun _ h=>⟨h.2.2.1.1,h.2.2.2.1,h.2.2.1.2⟩
theorem CE(D:Nat):eZ D 54 ea (fun s=>Ia s.a):=
 (kl (fun a=>⟨a.1,a.2.1,a.2.2⟩) (fun _=>rfl) (fG Tryz.underlying54 (by kernel_rfl) fun b _ =>
  eM (t:=3) (by kernel_rfl) (by kernel_rfl) (eU (by kernel_rfl)) (eM (t:=3) (by kernel_rfl) (by kernel_rfl) (eU (by kernel_rfl))
   (j9 (t:=52) (by kernel_rfl) (by kernel_rfl) (zi b))))).imp fun _ h=>h.2.2
theorem zH(D:Nat):eZ D 25 (Rd.str.rv (Rd.int.rv (aG.list.rv dx.list))) (fun s=>(s.2.2.1.length≤reachBytes∧∀f∈s.2.2.1,f.c.length≤reachBytes)∧s.2.2.2.length≤reachBytes∧∀t∈s.2.2.2,t.b.length≤reachBytes):=
 (fG Tryz.underlying25 (by kernel_rfl) fun a _ =>
  eM (t:=9) (by kernel_rfl) (by kernel_rfl) (uQ (by kernel_rfl)) (eM (t:=3) (by kernel_rfl) (by kernel_rfl) (eU (by kernel_rfl))
   (eM (t:=22) (by kernel_rfl) (by kernel_rfl) (gI (by kernel_rfl) (by kernel_rfl) (by decide) (o1 (by kernel_rfl)) (sJ a))
    (j9 (t:=23) (by kernel_rfl) (by kernel_rfl) (gI (by kernel_rfl) (by kernel_rfl) (by decide) (o1 (by kernel_rfl)) (Dh a)))))).imp fun _ h=>h.2.2
theorem Bl(D:Nat):eZ D 28 bG LenM:=
 (kl (fun a=>⟨a.1.1,a.1.2.1,a.1.2.2.1,a.1.2.2.2,a.2.1,a.2.2⟩) (fun _=>rfl) (fG Tryz.underlying28 (by kernel_rfl) fun b _ =>
  eM (t:=25) (by kernel_rfl) (by kernel_rfl) (zH b)
   (eM (t:=26) (by kernel_rfl) (by kernel_rfl) (gI (by kernel_rfl) (by kernel_rfl) (by decide) (o1 (by kernel_rfl)) (CE b))
    (j9 (t:=3) (by kernel_rfl) (by kernel_rfl) (eU (by kernel_rfl)))))).imp fun _ h=>⟨h.1.1.1,h.1.2.1,h.2.1.1,h.1.1.2,h.1.2.2,fun s c=>h.2.1.2 s c⟩
theorem ER{H:Type}{enc:xD×tS→H}{w:J}{sp:Nat→Bool}{g:Bool}{r:Reach}{base:Nat}{v:tS}{d:DataW H}{j:List MemPlace}(a:Value.okWide va w r base 28 v)(h:DataW.Trod enc va w 0 sp g 28 v d j)(c:qQ 28 d) :
  ∃(m:au) (vs:List tS),v=Value.agg vs.toArray∧bG.at_ w (fun b=>b<w.heap.size) m vs∧LenM m:=by
 obtain⟨fuel,k⟩:=h;obtain⟨m,l,f⟩:=Bl fuel H enc w sp g fuel (JM _) _ _ k c;obtain⟨cs,rfl,_⟩:=okWide_struct Tryz.underlying28 a;exact⟨m,cs.toList,by simp,l,f⟩
