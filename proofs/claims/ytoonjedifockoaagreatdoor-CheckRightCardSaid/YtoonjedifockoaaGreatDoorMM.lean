/- Parts of one proof, joined; conditions stand in each theorem. -/
import Derived.Test.YtoonjedifockoaaGreatDoorMJ
import Derived.Test.YtoonjedifockoaaGreatDoorMRI
import Derived.Great.BuildSlice
import Derived.Laws.Rows
import Derived.ChangeArms
import Derived.RowKit
import Derived.Test.YtoonjedifockoaaGreatDoorNA
import Derived.SizedLaws
namespace Go.Proofs.YtoonjedifockoaaGreatDoor
open Go.IntKind(i64)
open Go.Value(int string slice)
set_option maxRecDepth 100000
open Go.RowKit
theorem aD.more{w:World}{B:Nat}:∀{d:Nat} {a:List ac} {c:Value},aD w B d a c→aD w B (d+1) a c:=by
 intro d
 induction d with
 | zero =>
  rintro a c ⟨g,sp,cap,f⟩;exact Or.inl ⟨g,sp,cap,f⟩
 | succ d j =>
  rintro a c (h|⟨b,off,cap,f,k,m,n,p,q⟩)
  ·exact Or.inl h
  ·refine Or.inr ⟨b,off,cap,f,k,m,n,p,fun i T u=>?_⟩;obtain⟨v,s,x,y,c2,z,c4,A⟩:=q i T u;exact⟨v,s,x,y,c2,z,c4,j A⟩
inductive RTy where
 | node (d:Nat) (T:ac)
 | kids (d:Nat) (Ts:List ac)
 | box
 | val (v:Value)
 | raw
def tidy(l:List Oper) (a:Nat):Bool:=
 (List.range l.length).all fun i=>match l[i]? with
  | none=>true
  | some o=>o.after.all (fun e=>decide (e.on<i)) &&
    (decide (i+1=l.length)||match o.dst with
     | some t=>decide (t<a)&&(List.range l.length).all (fun j=>decide (j=i)||(match l[j]? with|some b=>decide (b.dst≠some t)|none=>true))
     | none=>false)
theorem Dg{l:List Oper}{a i:Nat}{o:Oper}(h:tidy l a=true)(m:l[i]?=some o) :
  (∀e∈o.after,e.on<i)∧(i+1<l.length→∃t,o.dst=some t∧t<a∧∀(j:Nat) (g:Oper),j≠i→l[j]?=some g→g.dst≠some t):=by
 have p:i<l.length:=(EP.1 m).1;have n:=Fe.1 h i (List.mem_range.2 p);simp only[m,EQ,Bool.or_eq_true,oe]at n;obtain⟨q,b⟩:=n;refine⟨fun e he=>?_,fun u=>?_⟩
 ·have:=Array.all_eq_true_iff_forall_mem.1 q e he
  simpa using this
 ·rcases b with b|b
  ·omega
  ·cases c:o.dst with
   | none=>rw[c]at b;cases b
   | some t =>
    rw[c]at b;simp only[EQ,oe,Fe,List.mem_range,Bool.or_eq_true]at b;refine⟨t,rfl,b.1,fun j g v d=>?_⟩;have k:j<l.length:=(EP.1 d).1;rcases b.2 j k with f|f
    ·exact absurd f v
    ·rw[d]at f;simpa using f
theorem lL{l:List Oper}{a:Nat}(h:tidy l a=true){listed:Array Bool}(b:listed.size=l.toArray.size)(j:Region.ready .any l.toArray listed=[]):∀i,i<l.length→listed.getD i false=true:=by
 intro i
 induction i using Nat.strongRecOn with
 | _ i k =>
  intro m
  cases d:listed.getD i false with
  | true=>rfl
  | false =>
   exfalso
   obtain⟨o,f⟩:∃o,l[i]?=some o:=⟨l[i],EE m⟩;obtain⟨n,_⟩:=Dg h f;have g:listed.size=l.length:=by simpa using b
   have:i∈Region.ready .any l.toArray listed:=by
    refine mem_ready.2 ⟨?_,o,by simpa using f,fun e he _=>?_⟩
    ·have c:i<listed.size:=by omega
     simp[c]at d ⊢;exact d
    ·have p:=n e he;exact k e.on p (by omega)
   rw[j]at this
   cases this
theorem fg{listed:Array Bool}{i:Nat}(h:i<listed.size):(listed.setIfInBounds i true).getD i false=true:=by simp[h]
theorem bg{listed:Array Bool}{i j:Nat}(h:i≠j):(listed.setIfInBounds i true).getD j false=listed.getD j false:=by simp[h]
section
variable {l:List Oper} {a0:Act} {w0:World} {ty:Nat→RTy} {i:Nat} {o:Oper}
end
section
variable {l:List Oper} {a0:Act} {w0:World} {ty:Nat→RTy} {i:Nat} {o:Oper}
end
open Go.ChangeShapes Go.WideShapes Go.ChangeAt
theorem qd{α:Type}{p:Nat→α→Prop}:∀{n:Nat},(∀i,i<n→∃x,p i x)→∃l:List α,l.length=n∧∀i x,l[i]?=some x→p i x:=by
 intro n
 induction n with
 | zero=>intro _;exact⟨[],rfl,fun i x h=>by simp at h⟩
 | succ n f =>
  intro h;obtain⟨l,c,g⟩:=f (fun i d=>h i (Nat.lt_succ_of_lt d));obtain⟨x,j⟩:=h n (Nat.lt_succ_self n);refine⟨l++[x],by simp[c],fun i y a=>?_⟩
  by_cases d:i<n
  ·rw[Fi (by omega)]at a;exact g i y a
  ·rw[EZ (by omega)]at a;have b:i=n:=by
    have:=(EP.1 a).1;simp at this;omega
   subst b;simp[c]at a;subst a;exact j
def nD{H:Type} (t:TypeId) (d:DataW H):Prop:=∀n∈d.weights Tryz.prog t,n≤reachBytes
def dy{α:Type} (D:Nat) (t:TypeId) (r:Rd α) (Q:α→Prop):Prop:=
 ∀(H:Type) (enc:TypeId×Value→H) (w:World) (sp:Nat→Bool) (c:Bool) (fuel:Nat),fuel≤D→∀(cs:List Value) (x:DataW H×List MemPlace),DataW.trod enc Tryz.prog w 0 sp c fuel t cs=some x→nD t x.1→∃a,r.at_ w (fun b=>b<w.heap.size) a cs∧Q a
theorem oo{H:Type}{e:TypeId}{n:Nat}:∀(l:List (DataW H)) (d:DataW H),d∈l→n∈d.weights Tryz.prog e→n∈DataW.weightsAll Tryz.prog e l
 | [],d,h,_=>by cases h
 | x::l,d,h,a=>by
  rw[DataW.weightsAll,List.mem_append];rcases Fh.1 h with rfl|h
  ·exact Or.inl a
  ·exact Or.inr (oo l d h a)
section
variable {α β:Type} {D:Nat} {t e:TypeId} {r:Rd α} {s:Rd β} {Q:α→Prop} {Q':β→Prop}
theorem dy.less{a:Nat}(h:dy D t r Q)(b:a≤D):dy a t r Q:=fun H enc w sp c fuel d cs x f=>h H enc w sp c fuel (EG d b) cs x f
theorem fe(a:Tryz.prog.underlying t=some (.int i64)):dy D t Rd.int (fun _=>True):=by
 intro H enc w sp d fuel _ cs x b _;obtain⟨n,rfl,_,hw⟩:=DataW.trod_int a b;unfold Lit.wf at hw;rw[EQ]at hw;have c:-9223372036854775808≤n:=oj hw.1;have f:n≤9223372036854775807:=oj hw.2;exact⟨n,⟨rfl,c,by omega⟩,trivial⟩
theorem i9(a:Tryz.prog.underlying t=some (.int .u8)):dy D t Rd.u8 (fun _=>True):=by
 intro H enc w sp d fuel _ cs x b _;obtain⟨n,rfl,_,hw⟩:=DataW.trod_int a b;unfold Lit.wf at hw;rw[EQ]at hw;have c:0≤n:=oj hw.1;have f:n≤255:=oj hw.2;exact⟨n,⟨rfl,c,by omega⟩,trivial⟩
theorem mn(a:Tryz.prog.underlying t=some .string):dy D t Rd.str (fun _=>True):=by
 intro H enc w sp d fuel _ cs x c _;obtain⟨b,rfl,_,hw⟩:=DataW.trod_string a c;exact⟨b,⟨rfl,hw⟩,trivial⟩
theorem gx{f:β→α}(g:α→β)(d:∀a,f (g a)=a)(h:dy D t r Q):dy D t (r.as f) (fun b=>Q (f b)):=by
 intro H enc w sp j fuel k cs x m c;obtain⟨a,n,p⟩:=h H enc w sp j fuel k cs x m c;exact⟨g a,by show r.at_ w _ (f (g a)) cs;rw[d];exact n,by show Q (f (g a));rw[d];exact p⟩
theorem fK(hu:Tryz.prog.underlying t=some (.slice e))(K:Tryz.prog.cellsOf e=r.n)(Z:0<r.n)(p:0<Tryz.prog.bytesOf e)(he:dy D e r Q):dy D t r.list (fun l=>l.length≤reachBytes∧∀a∈l,Q a):=by
 intro H enc w sp L fuel hf cs x M f;rcases DataW.trod_slice hu M with ⟨rfl,_⟩|⟨a,len,cap,elems,rest,N,O,rfl,rfl,_,q,v,P,z,_⟩
 ·exact⟨[],⟨_,rfl,Rd.row_nil⟩,EM _,fun a h=>by cases h⟩
 ·have hw:((elems.map (·.1)).length+(rest.map (·.1)).length)*Tryz.prog.bytesOf e≤reachBytes:=f _ (by simp[DataW.weights,hu]);have hlen:len≤reachBytes:=by
   have A:len*1≤((elems.map (·.1)).length+(rest.map (·.1)).length)*Tryz.prog.bytesOf e:=Nat.mul_le_mul (by rw[List.length_map];omega) p;omega
  have g:∀i,i<len→∃y:α×List Value,(r.at_ w (fun b=>b<w.heap.size) y.1 y.2∧Q y.1)∧∀m u,y.2[m]?=some u→w.cell? ((a.add (i*r.n)).add m)=some u:=by
   intro i B;have A:=z i B;rw[EE (by omega),K]at A;obtain⟨j,R,S⟩:=Option.bind_eq_some_iff.1 A
   obtain⟨y,c,U⟩:=he H enc w sp L N (by omega) j _ S (fun m hm=>f m (by
    simp only[DataW.weights,hu,Fh,List.mem_append]
    exact Or.inr (Or.inl (oo _ _ (List.mem_map.2 ⟨_,List.getElem_mem _,rfl⟩) hm))))
   obtain⟨_,_,V⟩:=World.cells?_some R;refine⟨(y,j),⟨c,U⟩,fun m u hm=>?_⟩;have C:m<r.n:=by
    have:=(EP.1 hm).1;rw[r.len c]at this;exact this
   exact (V m C).trans hm
  obtain⟨l,d,k⟩:=qd g;refine⟨l.map (·.1),⟨_,rfl,?_⟩,by rw[List.length_map];omega,fun a W=>?_⟩
  rotate_left
  ·obtain⟨y,c,rfl⟩:=List.mem_map.1 W;obtain⟨i,B⟩:=List.getElem?_of_mem c;exact (k i y B).1.2
  by_cases G:len=0
  ·subst G;have:l=[]:=EX d;subst this;exact Or.inl ⟨rfl,_,_,rfl⟩
  ·obtain⟨b,off,spot⟩:=a;have E:∃u,w.cell? (((⟨b,off,spot⟩:Addr).add (0*r.n)).add 0)=some u:=by
    obtain⟨y,c⟩:∃y,l[0]?=some y:=⟨l[0]'(by omega),EE _⟩;have hl:=r.len (k 0 y c).1.1;exact⟨_,(k 0 y c).2 0 (y.2[0]'(by omega)) (EE _)⟩
   obtain⟨u,hu⟩:=E;have F:spot=none:=World.cell?_spot (a:=⟨b,off,spot⟩) (by simpa [Addr.add]using hu);subst F;have I:b<w.heap.size:=World.block_lt_of_cell? w _ (by simpa [Addr.add]using hu);refine Or.inr ⟨b,off,cap,?_,I,I,by simpa [d]using q,v,by simp[d],fun i T J=>?_⟩
   ·intro e;have:=oT List.length e;simp[d]at this;exact G this
   ·rw[List.getElem?_map]at J;obtain⟨y,c,rfl⟩:=Option.map_eq_some_iff.1 J;obtain⟨⟨X,_⟩,Y⟩:=k i y c;refine⟨y.2,X,fun m u hm=>?_⟩;have:=Y m u hm
    rwa [add_plain,add_plain]at this
def FO{α:Type} (D:Nat) (fs:Array Field) (_i off:Nat) (r:Rd α) (Q:α→Prop):Prop:=
 ∀(H:Type) (enc:TypeId×Value→H) (w:World) (sp:Nat→Bool) (c:Bool) (n:Nat),n≤D→∀(cs:List Value) (xs:List (DataW H×List MemPlace)),xs.length=fs.size→cs.length=off+r.n→
  (∀(j:Nat) (f:Field),fs[j]?=some f→DataW.trod enc Tryz.prog w 0 sp c n f.type ((cs.drop f.offset).take (Tryz.prog.cellsOf f.type))=xs[j]?)→(∀(j:Nat) (f:Field) (y:DataW H×List MemPlace),fs[j]?=some f→xs[j]?=some y→nD f.type y.1)→∃a,r.at_ w (fun b=>b<w.heap.size) a (cs.drop off)∧Q a
variable {fs:Array Field} {i off:Nat}
theorem CM{H:Type}{enc:TypeId×Value→H}{w:World}{sp:Nat→Bool}{d:Bool}{n:Nat}{cs:List Value}{xs:List (DataW H×List MemPlace)}(g:(fs[i]?.map fun f=>(f.type,f.offset))=some (t,off))(p:xs.length=fs.size)
  (h:∀(j:Nat) (f:Field),fs[j]?=some f→DataW.trod enc Tryz.prog w 0 sp d n f.type ((cs.drop f.offset).take (Tryz.prog.cellsOf f.type))=xs[j]?) (b:∀(j:Nat) (f:Field) (y:DataW H×List MemPlace),fs[j]?=some f→xs[j]?=some y→nD f.type y.1):∃y,DataW.trod enc Tryz.prog w 0 sp d n t ((cs.drop off).take (Tryz.prog.cellsOf t))=some y∧nD t y.1:=by
 obtain⟨f,a,c⟩:=Option.map_eq_some_iff.1 g;injection c with k m
 subst k;subst m;have q:=(Ez.1 a).1;refine⟨xs[i]'(by omega),?_,b i f _ a (EE _)⟩;rw[h i f a];exact EE _
theorem it(d:(fs[i]?.map fun f=>(f.type,f.offset))=some (t,off))(g:Tryz.prog.cellsOf t=r.n)(j:dy D t r Q):FO D fs i off r Q:=by
 intro H enc w sp k n m cs xs p q h a;obtain⟨y,c,b⟩:=CM d p h a;rw[g,ER (by rw[List.length_drop];omega)]at c;exact j H enc w sp k n m _ _ c b
theorem cN(v:(fs[i]?.map fun f=>(f.type,f.offset))=some (t,off))(x:Tryz.prog.cellsOf t=r.n)(z:dy D t r Q)(A:FO D fs (i+1) (off+r.n) s Q'):FO D fs i off (r.pair s) (fun p=>Q p.1∧Q' p.2):=by
 intro H enc w sp k n m cs xs q B h c;obtain⟨y,u,d⟩:=CM v q h c;rw[x]at u;obtain⟨a,C,g⟩:=z H enc w sp k n m _ _ u d;have E:cs.length=off+(r.n+s.n):=B;obtain⟨b,F,j⟩:=A H enc w sp k n m cs xs q (by omega) h c;refine⟨(a,b),⟨(cs.drop off).take r.n,cs.drop (off+r.n),?_,C,F⟩,g,j⟩;rw[←List.drop_drop,List.take_append_drop]
theorem ef(hu:Tryz.prog.underlying t=some (.struct fs))(A:Tryz.prog.cellsOf t=r.n)(h:∀b,D=b+1→FO b fs 0 0 r Q):dy D t r Q:=by
 intro H enc w sp q fuel B cs x u c;obtain⟨xs,n,rfl,rfl,C,g,v⟩:=DataW.trod_struct hu u;obtain⟨b,rfl⟩:∃b,D=b+1:=⟨D-1,by omega⟩
 obtain⟨a,z⟩:=h b rfl H enc w sp q n (by omega) cs xs g (by omega) v (fun j f y k p m hm=>c m (by
  simp only[DataW.weights,hu]
  exact DataW.weights_mem_each (j:=j) (t:=f.type) (d:=y.1) (by simp[k]) (by rw[List.getElem?_map,p];rfl) m hm))
 exact⟨a,z⟩
end
def Bu(c:aC):Prop:=c.args.length≤reachBytes
def CS(r:aj):Prop:=r.conds.length≤reachBytes∧r.acts.length≤reachBytes∧∀c∈r.conds,Bu c
def yH(R:cd):Prop:=R.types.length≤reachBytes∧R.rules.length≤reachBytes∧∀r∈R.rules,CS r
theorem dy.imp{α:Type}{D:Nat}{t:TypeId}{r:Rd α}{Q Q':α→Prop}(h:dy D t r Q)(b:∀a,Q a→Q' a):dy D t r Q':=fun H enc w sp c fuel d cs x f g=>by
 obtain⟨a,j,k⟩:=h H enc w sp c fuel d cs x f g;exact⟨a,j,b a k⟩
theorem rQ(D:Nat):dy D 46 sR (fun _=>True):=
 (gx (fun a=>⟨a.1,a.2.1,a.2.2⟩) (fun _=>rfl) (ef Tryz.underlying46 (by kernel_rfl) fun b _ =>
  cN (t:=44) (by kernel_rfl) (by kernel_rfl) (i9 (by kernel_rfl)) (cN (t:=2) (by kernel_rfl) (by kernel_rfl) (fe (by kernel_rfl)) (it (t:=9) (by kernel_rfl) (by kernel_rfl) (mn (by kernel_rfl)))))).imp fun _ _=>trivial
theorem lw:∀D,dy D 50 (ay D) (fun _=>True)
 | 0=>by
  intro H enc w sp d fuel f cs x b _;obtain⟨_,n,rfl,_⟩:=DataW.trod_struct Tryz.underlying50 b;omega
 | D+1 =>
  have h:dy (D+1) 50 (js (ay D).list) (fun _=>True):=
   (gx (fun a=>⟨a.1,a.2.1,a.2.2.1,a.2.2.2.1,a.2.2.2.2⟩) (fun _=>rfl) (ef Tryz.underlying50 (by kernel_rfl) fun c g =>
    cN (t:=43) (by kernel_rfl) (by kernel_rfl) (i9 (by kernel_rfl)) (cN (t:=46) (by kernel_rfl) (by kernel_rfl) (rQ c) (cN (t:=3) (by kernel_rfl) (by kernel_rfl) (fe (by kernel_rfl))
     (cN (t:=47) (by kernel_rfl) (by kernel_rfl) (i9 (by kernel_rfl)) (it (t:=48) (by kernel_rfl) (by kernel_rfl) (fK (by kernel_rfl) (by rw[cB];kernel_rfl) (by rw[cB];omega) (oj (by kernel_rfl)) ((lw D).less (by omega))))))))).imp fun _ _=>trivial
  h
theorem AL(D:Nat):dy D 55 dm (fun _=>True):=
 (gx (fun a=>⟨a.1,a.2.1,a.2.2⟩) (fun _=>rfl) (ef Tryz.underlying55 (by kernel_rfl) fun b _ =>
  cN (t:=53) (by kernel_rfl) (by kernel_rfl) (i9 (by kernel_rfl)) (cN (t:=3) (by kernel_rfl) (by kernel_rfl) (fe (by kernel_rfl)) (it (t:=46) (by kernel_rfl) (by kernel_rfl) (rQ b))))).imp fun _ _=>trivial
theorem jp(d:Nat):(bp d).n=10:=by show 1+(1+(1+(ay d).n))=10;rw[cB]
theorem yb(D:Nat):dy D 52 (bp D) Bu:=
 (gx (fun a=>⟨a.1,a.2.1,a.2.2.1,a.2.2.2⟩) (fun _=>rfl) (ef Tryz.underlying52 (by show _=(bp D).n;rw[jp];kernel_rfl) fun b c =>
  cN (t:=41) (by kernel_rfl) (by kernel_rfl) (i9 (by kernel_rfl)) (cN (t:=3) (by kernel_rfl) (by kernel_rfl) (fe (by kernel_rfl))
   (cN (t:=42) (by kernel_rfl) (by kernel_rfl) (fK (by kernel_rfl) (by kernel_rfl) (by decide) (oj (by kernel_rfl)) (AL b)) (it (t:=50) (by kernel_rfl) (by rw[cB];kernel_rfl) ((lw D).less (by omega))))))).imp fun _ h=>h.2.2.1.1
theorem uV(d:Nat):(bS d).n=4:=rfl
theorem zT(D:Nat):dy D 58 (bS D) (fun _=>True):=
 (gx (fun a=>⟨a.1,a.2.1,a.2.2.1,a.2.2.2⟩) (fun _=>rfl) (ef Tryz.underlying58 (by kernel_rfl) fun b c =>
  cN (t:=56) (by kernel_rfl) (by kernel_rfl) (i9 (by kernel_rfl)) (cN (t:=3) (by kernel_rfl) (by kernel_rfl) (fe (by kernel_rfl)) (cN (t:=3) (by kernel_rfl) (by kernel_rfl) (fe (by kernel_rfl))
   (it (t:=48) (by kernel_rfl) (by kernel_rfl) (fK (by kernel_rfl) (by rw[cB];kernel_rfl) (by rw[cB];omega) (oj (by kernel_rfl)) ((lw D).less (by omega)))))))).imp fun _ _=>trivial
theorem yK(D:Nat):dy D 40 bo (fun _=>True):=
 (gx (fun a=>⟨a.1,a.2⟩) (fun _=>rfl) (ef Tryz.underlying40 (by kernel_rfl) fun b _=>cN (t:=9) (by kernel_rfl) (by kernel_rfl) (mn (by kernel_rfl)) (it (t:=3) (by kernel_rfl) (by kernel_rfl) (fe (by kernel_rfl))))).imp fun _ _=>trivial
theorem xo(D:Nat):dy D 38 (bh D) CS:=
 (gx (fun a=>⟨a.1,a.2.1,a.2.2.1,a.2.2.2.1,a.2.2.2.2⟩) (fun _=>rfl) (ef Tryz.underlying38 (by kernel_rfl) fun b c =>
  cN (t:=9) (by kernel_rfl) (by kernel_rfl) (mn (by kernel_rfl)) (cN (t:=3) (by kernel_rfl) (by kernel_rfl) (fe (by kernel_rfl)) (cN (t:=3) (by kernel_rfl) (by kernel_rfl) (fe (by kernel_rfl))
   (cN (t:=35) (by kernel_rfl) (by kernel_rfl) (fK (by kernel_rfl) (by rw[jp];kernel_rfl) (by rw[jp];omega) (oj (by kernel_rfl)) ((yb D).less (by omega)))
    (it (t:=36) (by kernel_rfl) (by kernel_rfl) (fK (by kernel_rfl) (by rw[uV];kernel_rfl) (by rw[uV];omega) (oj (by kernel_rfl)) ((zT D).less (by omega))))))))).imp fun _ h=>⟨h.2.2.2.1.1,h.2.2.2.2.1,h.2.2.2.1.2⟩
theorem wh(D:Nat):dy D 25 (iW D) yH:=
 (gx (fun a=>⟨a.1,a.2⟩) (fun _=>rfl) (ef Tryz.underlying25 (by kernel_rfl) fun b c =>
  cN (t:=22) (by kernel_rfl) (by kernel_rfl) (fK (by kernel_rfl) (by kernel_rfl) (by decide) (oj (by kernel_rfl)) (yK b))
   (it (t:=23) (by kernel_rfl) (by kernel_rfl) (fK (by kernel_rfl) (by kernel_rfl) (by show 0<5;omega) (oj (by kernel_rfl)) ((xo D).less (by omega)))))).imp fun _ h=>⟨h.1.1,h.2.1,h.2.2⟩
theorem xq{H:Type}{enc:TypeId×Value→H}{w:World}{sp:Nat→Bool}{g:Bool}{r:Reach}{base:Nat}{v:Value}{d:DataW H}{j:List MemPlace}(a:Value.okWide Tryz.prog w r base 25 v)(h:DataW.Trod enc Tryz.prog w 0 sp g 25 v d j)(c:nD 25 d) :
  ∃(n:Nat) (R:cd) (vs:List Value),v=.agg vs.toArray∧(iW n).at_ w (fun b=>b<w.heap.size) R vs∧yH R:=by
 obtain⟨fuel,k⟩:=h;obtain⟨R,m,f⟩:=wh fuel H enc w sp g fuel (EA _) _ _ k c;obtain⟨cs,rfl,_⟩:=okWide_struct Tryz.underlying25 a;exact⟨fuel,R,cs.toList,by simp,m,f⟩
