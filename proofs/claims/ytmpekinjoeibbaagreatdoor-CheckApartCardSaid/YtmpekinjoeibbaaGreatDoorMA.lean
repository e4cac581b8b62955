/- Parts of one proof, joined; conditions stand in each theorem. -/
import Derived.WalkKit
import Derived.WalkSpells
import Derived.WalkLawsBesides
import Derived.Maps.AppendAt
import Derived.Lib.Hide
import Derived.ArgAppend
import Derived.Deep.AppendLies
import Derived.Test.YtmpekinjoeibbaaGreatDoorProg
import Derived.Test.YtmpekinjoeibbaaGreatDoorShelf
import Derived.Deep.QuietTactic
import Derived.BigQuiet
import Derived.LoopTactic
import Derived.Laws.IdiomStrings
open Option renaming some→A,none→V
open Bool renaming false→r7,true→r5
open Go renaming World→p7,Value→r3,TypeId→vn,Addr→vv,Calls→r9
open Go.Obj renaming cells→p8
open Go.World renaming setCell→xD,cell?→xj
open Or renaming inl→tE,inr→tS
open Go.Ending renaming returned→tF
open Go.Value renaming bool→ur,slice→O,string→p9,int→I,pointer→tv,func→wP,tuple→wF
open Go.IntKind renaming i64→Y,u8→J
open Go.Proofs.Tryz renaming prog→r6
open Decidable renaming decide→r8
namespace Go.Proofs.YtmpekinjoeibbaaGreatDoor
set_option maxHeartbeats 1000000
set_option maxRecDepth 100000
open Go.RowKit
theorem zzx{α:Sort _}(a:α):∃x,x=a:=⟨a,rfl⟩
theorem zzy{α:Sort _}(a:α):∃x,a=x:=⟨a,rfl⟩
theorem Z{α:Sort _}{a:α}:a=a:=rfl
abbrev ot:=@Go.heap_alloc_new
abbrev ox:=@if_neg
abbrev oA:=@if_pos
abbrev oB:=@decide_eq_false
abbrev oE:=@decide_eq_true_eq
abbrev oF:=@Option.some.injEq
abbrev oT:=@Go.World.grownBy.refl
abbrev oX:=@if_false
abbrev o1:=@Go.World.grownBy.trans
abbrev o2:=@Go.World.size_alloc
abbrev o3:=@decide_eq_true_iff
abbrev o4:=@if_true
abbrev o5:=@or_false
abbrev o6:=@Prod.mk.injEq
abbrev o7:=@Go.heap_setCell_other
abbrev o8:=@Go.Sem.run_bind
abbrev o9:=@congrArg
abbrev ph:=@Go.Sem.run_pure
abbrev pk:=@true_and
abbrev pr:=@beq_eq_false_iff_ne
abbrev pt:=@Option.some.inj
abbrev pv:=@beq_iff_eq
abbrev ES:=@Array.getElem?_eq_some_iff
abbrev ET:=@Nat.le_refl
abbrev EU:=@Below.refl
abbrev EV:=@List.setIfInBounds_toArray
abbrev EW:=@Below.heap_setCell
abbrev EX:=@List.getElem?_eq_getElem
abbrev EY:=@Nat.lt_of_lt_of_le
abbrev EZ:=@Nat.le_trans
abbrev Fc:=@List.set_cons_succ
abbrev Fe:=@List.set_cons_zero
abbrev Ff:=@Calls.mono
abbrev Fg:=@List.take_succ_cons
abbrev Fh:=@List.drop_succ_cons
abbrev Fi:=@Nat.zero_le
abbrev Fj:=@ByteArray.toList_eq
abbrev Fl:=@List.length_append
abbrev Fo:=@List.getElem?_eq_some_iff
abbrev Fp:=@Bool.and_eq_true
abbrev Fq:=@List.take_of_length_le
abbrev Ft:=@List.drop_zero
abbrev Fu:=@List.take_zero
abbrev Fv:=@List.mem_of_getElem?
abbrev Fw:=@Nat.le_succ
abbrev Fx:=@Bool.false_eq_true
abbrev Fy:=@List.eq_nil_of_length_eq_zero
abbrev Fz:=@Array.length_toList
abbrev FA:=@List.getElem?_append_right
abbrev FB:=@Nat.le_of_lt
abbrev FC:=@List.length_cons
abbrev FD:=@Bool.eq_iff_iff
abbrev FG:=@List.all_eq_true
abbrev FH:=@List.not_mem_nil
abbrev FI:=@List.take_add_one
abbrev FK:=@List.mem_cons
abbrev FM:=@List.getElem?_append_left
abbrev FN:=@List.getElem?_cons_succ
abbrev FO:=@Array.getElem?_eq_none
abbrev FP:=@List.length_singleton
abbrev FQ:=@Below.heap_alloc
abbrev FR:=@cell_of_row
def Hid(p:Prop):Prop:=p
theorem Hid.o{p:Prop}(h:Hid p):p:=h
theorem Hd{p:Prop}(h:p):Hid p:=h
theorem zz2{p0 p1:Prop}(a0:p0)(a1:p1):Hid p0∧Hid p1:=⟨a0,a1⟩
theorem zz3{p0 p1 p2:Prop}(a0:p0)(a1:p1)(a2:p2):Hid p0∧Hid p1∧Hid p2:=⟨a0,a1,a2⟩
theorem zz4{p0 p1 p2 p3:Prop}(a0:p0)(a1:p1)(a2:p2)(a3:p3):Hid p0∧Hid p1∧Hid p2∧Hid p3:=⟨a0,a1,a2,a3⟩
theorem zz5{p0 p1 p2 p3 p4:Prop}(a0:p0)(a1:p1)(a2:p2)(a3:p3)(a4:p4):Hid p0∧Hid p1∧Hid p2∧Hid p3∧Hid p4:=⟨a0,a1,a2,a3,a4⟩
theorem zz6{p0 p1 p2 p3 p4 p5:Prop}(a0:p0)(a1:p1)(a2:p2)(a3:p3)(a4:p4)(a5:p5):Hid p0∧Hid p1∧Hid p2∧Hid p3∧Hid p4∧Hid p5:=⟨a0,a1,a2,a3,a4,a5⟩
theorem zz7{p0 p1 p2 p3 p4 p5 p6:Prop}(a0:p0)(a1:p1)(a2:p2)(a3:p3)(a4:p4)(a5:p5)(a6:p6):Hid p0∧Hid p1∧Hid p2∧Hid p3∧Hid p4∧Hid p5∧Hid p6:=⟨a0,a1,a2,a3,a4,a5,a6⟩
abbrev FS(w W:World):Prop:=Below w.heap.size w W
def hasB(st:ByteArray) (c:UInt8):Bool:=st.data.toList.contains c
theorem sG(p:ByteArray→Bool)(l:List ByteArray)(k:Nat)(x:ByteArray)(a:l[k]?=A x)(h:(l.take k).any p=r7):(l.take (k+1)).any p=p x:=by rw[FI,a,List.any_append,h];simp
theorem yH(p:ByteArray→Bool)(l:List ByteArray)(k:Nat)(x:ByteArray)(a:l[k]?=A x)(h:p x=r5):l.any p=true:=
 List.any_eq_true.2 ⟨x,Fv a,h⟩
theorem below_drewN{B:Nat}{a w:p7}(h:Below B a w)(n:Nat):Below B a (w.drewN n):=⟨h.os,h.tape,h.output,h.size,h.block⟩
theorem EC(s:ByteArray)(a b i:Nat)(h:i<(s.extract a b).size)(c:a+i<s.size):(s.extract a b)[i]=s[a+i]:=by simp only[ByteArray.getElem_eq_getElem_data,ByteArray.data_extract,Array.getElem_extract]
theorem iQ(t:ByteArray)(h:0<t.size):t.toList.isEmpty=false:=by
 rw[Fj]
 cases b:t.data.toList with
 | nil =>
  have:t.data.toList.length=0:=by rw[b];rfl
  rw[Fz]at this;have c:t.size=t.data.size:=rfl;omega
 | cons a l=>rfl
theorem cell_new1(w:p7)(v:r3)(t:vn):(w.alloc (p8 #[v] t)).cell? ⟨w.heap.size,0,V⟩=A v:=by
 have h:(w.alloc (p8 #[v] t)).heap[w.heap.size]?=A (p8 #[v] t):=ot w _;exact FR _ _ 0 _ _ _ h
theorem heap_set{w:p7}{g:Nat}{cs:Array r3}{t:vn}(h:w.heap[g]?=A (p8 cs t (0,0)))(i:Nat)(u:r3) :
  (w.setCell ⟨g,i,V⟩ u).heap[g]?=A (p8 (cs.setIfInBounds i u) t (0,0)):=by
 simp[xD,Array.getElem?_modify,h]
theorem gj{a w:p7}{g:Nat}(h:a.grownBy w (A g))(i:Nat)(u:r3):a.grownBy (w.setCell ⟨g,i,V⟩ u) (A g):=
 ⟨h.os,h.tape,h.output,by simpa [xD]using h.size,fun j c b=>(EW w ⟨g,i,V⟩ u j (fun e=>b (by rw[e]))).trans (h.block j c b)⟩
theorem grown_drewN{a w:p7}{row:Option Nat}(h:a.grownBy w row)(n:Nat):a.grownBy (w.drewN n) row:=⟨h.os,h.tape,h.output,h.size,h.block⟩
theorem ag{B i:Nat}{w w':p7}{o:Option Obj}(a:Below B w w')(h:w.heap[i]?=o)(b:i<B):w'.heap[i]?=o:=(a.block i b).trans h
def aB(p:UInt8→Bool) (s:ByteArray) (k:Nat):Nat:=k+((s.data.toList.drop k).takeWhile p).length
theorem drop_cons(s:ByteArray)(k:Nat)(h:k<s.size):s.data.toList.drop k=s[k]::s.data.toList.drop (k+1):=by rw[List.drop_eq_getElem_cons (by simpa using h)];rfl
theorem drop_end(s:ByteArray)(k:Nat)(h:s.size≤k):s.data.toList.drop k=[]:=List.drop_eq_nil_of_le (by simpa using h)
theorem gn(p:UInt8→Bool)(s:ByteArray)(k:Nat)(h:k<s.size)(a:p s[k]=r5):aB p s (k+1)=aB p s k:=by unfold aB;rw[drop_cons s k h];simp[a];omega
theorem sf(p:UInt8→Bool)(s:ByteArray)(k:Nat)(h:k<s.size)(a:p s[k]=r7):aB p s k=k:=by unfold aB;rw[drop_cons s k h];simp[a]
theorem lT(p:UInt8→Bool)(s:ByteArray)(k:Nat)(h:s.size≤k):aB p s k=k:=by unfold aB;rw[drop_end s k h];rfl
theorem fa(p:UInt8→Bool)(s:ByteArray)(k:Nat):k≤aB p s k:=by unfold aB;omega
theorem dl(p:UInt8→Bool)(s:ByteArray)(k:Nat)(h:k≤s.size):aB p s k≤s.size:=by
 unfold aB;have a:=(List.takeWhile_sublist p (l:=s.data.toList.drop k)).length_le;have b:(s.data.toList.drop k).length=s.size-k:=by simp
 omega
theorem grown_below{a w w':p7}{row:Option Nat}(b:a.grownBy w row)(c:FS w w'):a.grownBy w' row:=
 ⟨c.os.trans b.os,c.tape.trans b.tape,c.output.trans b.output,EZ b.size c.size,fun i e d=>(c.block i (EY e b.size)).trans (b.block i e d)⟩
theorem aL{a w:p7}(h:FS a w)(row:Option Nat):a.grownBy w row:=⟨h.os,h.tape,h.output,h.size,fun i b _=>h.block i b⟩
theorem aJ{w w':p7}{i:Nat}{row:Option Nat}{o:Obj}(b:w.grownBy w' row)(h:w.heap[i]?=A o)(a:A i≠row):w'.heap[i]?=A o:=
 (b.block i (ES.1 h).1 a).trans h
theorem iz{w:p7}{i j:Nat}{cs b:Array r3}{t u:vn}(h:w.heap[i]?=A (p8 cs t (0,0)))(k:w.heap[j]?=A (p8 b u (0,0)))(a:t≠u):i≠j:=by
 rintro rfl;rw[h]at k;injection k with k
 injection k with _ k
 exact a k
theorem cells3{w:p7}{T:Nat}{a b c:r3}{t:vn}(h:w.heap[T]?=A (p8 #[a,b,c] t (0,0))) :
  w.cell? ⟨T,0,V⟩=A a∧w.cell? ⟨T,1,V⟩=A b∧w.cell? ⟨T,2,V⟩=A c∧w.frozen? ⟨T,0,V⟩=r7∧w.frozen? ⟨T,1,V⟩=r7∧w.frozen? ⟨T,2,V⟩=false:=by
 simp[xj,World.frozen?,h]
theorem dK{a w:p7}{row:Option Nat}(h:a.grownBy w row){T:Nat}(d:a.heap.size≤T)(i:Nat)(u:r3):a.grownBy (w.setCell ⟨T,i,V⟩ u) row:=
 ⟨h.os,h.tape,h.output,by simpa [xD]using h.size,fun j c b=>(EW w ⟨T,i,V⟩ u j (by show j≠T;omega)).trans (h.block j c b)⟩
theorem aH{w:p7}{g T:Nat}{o:Obj}(h:w.heap[g]?=A o)(a:T≠g)(i:Nat)(u:r3):(w.setCell ⟨T,i,V⟩ u).heap[g]?=A o:=
 (EW w ⟨T,i,V⟩ u g (fun e=>a e.symm)).trans h
theorem ib(w:p7)(o:Obj)(i:Nat):(w.alloc o).heap[i]?=if i=w.heap.size then A o else w.heap[i]?:=by
 show (w.heap.push o)[i]?=_
 rw[Array.getElem?_push]
theorem dp(w:p7)(l:List r3)(t:vn):∀(j:Nat) (u:r3),l[j]?=A u→(w.alloc (p8 l.toArray t)).cell? ((⟨w.heap.size,0,V⟩:vv).add j)=A u:=by
 intro j u h;have b:(w.alloc (p8 l.toArray t)).heap[w.heap.size]?=A (p8 l.toArray t (0,0)):=ot w _;have e:((⟨w.heap.size,0,V⟩:vv).add j)=⟨w.heap.size,j,V⟩:=by
  unfold Addr.add
  by_cases a:j=0
  ·rw[oA a,a]
  ·rw[ox a];simp
 rw[e,FR _ _ _ _ _ _ b]
 simpa using h
theorem bM{w:p7}{T:Nat}{cs:Array r3}{t:vn}(h:w.heap[T]?=A (p8 cs t (0,0)))(i:Nat):w.frozen? ⟨T,i,V⟩=false:=by simp[World.frozen?,h]
theorem ownsRow_base{w:p7}{b b':Nat}{e:vn}{size n:Nat}{v:r3}{xs:List r3}(h:w.ownsRow b e size v n xs)(c:b'≤b):w.ownsRow b' e size v n xs:=by
 obtain⟨d,a⟩:=h;refine⟨d,?_⟩;rcases a with a|⟨g,cap,cur,hv,f,r⟩
 ·exact tE a
 ·exact tS ⟨g,cap,cur,hv,EZ c f,r⟩
theorem bI{a b:Bool}(h:a=b):tF (ur a)=tF (ur b):=by rw[h]
theorem ownsRow_below{w w':p7}{b:Nat}{e:vn}{size n:Nat}{v:r3}{xs:List r3}(h:w.ownsRow b e size v n xs)(a:FS w w'):w'.ownsRow b e size v n xs:=by
 refine h.kept (aL a V) ?_
 cases hv:v.ownBlock with
 | none=>exact tE Z
 | some k=>exact tS (by simp)
theorem rR(w:p7)(o:Obj)(l:List r3)(t:vn):∀(j:Nat) (u:r3),l[j]?=A u→((w.alloc o).alloc (p8 l.toArray t)).cell? ((⟨w.heap.size+1,0,V⟩:vv).add j)=A u:=by
 have h:=dp (w.alloc o) l t;rw[o2]at h;exact h
section
variable {P:Program} (w:p7)
theorem kO(base:Nat)(t ty e:vn)(i:TypeInfo)(z:r3)(size bytes:Nat)(E:P.underlying t=A (.slice e))(F:P.info? e=A i)(N:i.zero=A z)
  (o:i.size=size) (G:i.bytes=bytes) (H:z.cells.size=size) (R:0<size)
  (v:r3) (n:Nat) (xs:List r3) (b:w.ownsRow base e size v n xs)
  (a:vv) (m c:Nat) (news:List r3) (s:news.length=m*size) (d:∀j u,news[j]?=A u→w.cell? (a.add j)=A u) (S:∀u∈news,u.oneCell'=r5)
  (x:n+m≤maxLen) (h:(n+m)*bytes≤140737488355328) (p:base≤w.heap.size) (hm:0<m) :
  ∃C w',(Builtin.append_ #[t,t] ty #[v,O (A a) m c]).run P w=.ok C w'∧w'.ownsRow base e size C (n+m) (xs++news)∧
   ((∃g cap,v=O (A ⟨g,0,V⟩) n cap∧C=O (A ⟨g,0,V⟩) (n+m) cap∧w.grownBy w' (A g))∨
    (∃cap,C=O (A ⟨w.heap.size,0,V⟩) (n+m) cap∧FS w w')):=by
 subst o;subst G;have D:n+m≤9223372036854775807:=by simp only[maxLen]at x;omega
 have hlen:(xs++news).length=(n+m)*i.size:=by rw[Fl,b.1,s,Nat.add_mul]
 have grown:∀(old:Nat),old<n+m→
   (w.drew.alloc (p8 (xs.toArray++news.toArray++Builtin.zeroCells z.cells (grownCap w (n+m) old e-(n+m))) e)).ownsRow base e i.size
    (O (A ⟨w.heap.size,0,V⟩) (n+m) (grownCap w (n+m) old e)) (n+m) (xs++news)∧
   FS w (w.drew.alloc (p8 (xs.toArray++news.toArray++Builtin.zeroCells z.cells (grownCap w (n+m) old e-(n+m))) e)):=by
  intro old ho;have K:=grownCap_ge w (n+m) old e;have q:grownCap w (n+m) old e≤maxLen:=grownCap_le_maxLen w (n+m) old e x;refine⟨⟨hlen,tS ⟨w.heap.size,_,_,Z,p,ot w.drew _,K,q,?_,?_⟩⟩,(EU _ w).drew.alloc (ET _) _⟩
  ·simp only[Array.size_append,List.size_toArray,size_zeroCells,H,b.1,s,←Nat.add_mul]
   congr 1
   omega
  ·simp only[Array.toList_append,List.append_assoc];rw[←List.append_assoc,←hlen];exact List.take_left
 rcases b.2 with ⟨rfl,rfl⟩|⟨g,cap,cur,rfl,L,Q,T,q,M,r⟩
 ·have U:xs=[]:=Fy (by simpa using b.1);subst U;have y:=run_append_nil (P:=P) w t ty e i z E F N a m c news s d (by omega) (by omega) (by have W:=h;simp only[Nat.zero_add]at W;omega);have l:=grown 0 (by omega);simp only[Nat.zero_add,List.nil_append,Array.empty_append]at l ⊢;exact⟨_,_,y,l.1,tS ⟨_,Z,l.2⟩⟩
 ·by_cases f:n+m≤cap
  ·have B:n*i.size+news.length≤cur.size:=by rw[s,M,←Nat.add_mul];exact Nat.mul_le_mul_right _ f
   have y:=run_append_room (P:=P) w t ty e i E F g n cap cur Q a m c news s d S f B;refine⟨_,_,y,⟨hlen,tS ⟨g,cap,_,Z,L,setRow_heap w g cur _ e _ Q,f,q,?_,?_⟩⟩,tE ⟨g,cap,Z,Z,⟨Z,Z,Z,by simp,fun k _ X=>setRow_other w g k _ (fun e=>X (by simp[e]))⟩⟩⟩
   ·simp only[List.size_toArray,Fl,List.length_take,List.length_drop,Fz];omega
   ·rw[r,←hlen];exact List.take_left
  ·have holds:∀j u,xs[j]?=A u→w.cell? ((⟨g,0,V⟩:vv).add j)=A u:=b.cells (g:=g) Z;have y:=run_append_grow (P:=P) w t ty e i z E F N ⟨g,0,V⟩ n cap xs b.1 holds a m c news s d (by omega) (by omega) (growslice_fits (by omega) h);have l:=grown cap (by omega);exact⟨_,_,y,l.1,tS ⟨_,Z,l.2⟩⟩
theorem aA{ops:Array Oper}{rest:List Oper}{o:Oper}{a:Act}{Q:Exit→Act→p7→Prop}(q:o.guard=V)(s x:Operand)(t:vn)
  (E:o.op=.call { callee:=.builtin .append,args:=#[s,x],argTypes:=#[t,t] })
  (base:Nat) (e:vn) (i:TypeInfo) (z:r3) (size bytes:Nat) (F:P.underlying t=A (.slice e)) (G:P.info? e=A i) (H:i.zero=A z)
  (d:i.size=size) (r:i.bytes=bytes) (y:z.cells.size=size) (B:0<size)
  (v:r3) (n:Nat) (xs:List r3) (L:a.eval s=v) (p:w.ownsRow base e size v n xs)
  (C:vv) (m c:Nat) (news:List r3) (M:a.eval x=O (A C) m c) (N:news.length=m*size) (f:∀j u,news[j]?=A u→w.cell? (C.add j)=A u) (R:∀u∈news,u.oneCell'=r5)
  (D:n+m≤maxLen) (b:(n+m)*bytes≤140737488355328) (k:base≤w.heap.size) (hm:0<m)
  (h:∀l w',w'.ownsRow base e size l (n+m) (xs++news)→
   ((∃g cap,v=O (A ⟨g,0,V⟩) n cap∧l=O (A ⟨g,0,V⟩) (n+m) cap∧w.grownBy w' (A g))∨(∃cap,l=O (A ⟨w.heap.size,0,V⟩) (n+m) cap∧FS w w'))→
   wpList P ops Q rest (a.put o.dst l) w') :
  wpList P ops Q (o::rest) a w:=by
 refine wpList_plain q fun K S=>?_
 obtain⟨l,w',T,U,W⟩:=kO (P:=P) w base t o.type e i z size bytes F G H d r y B v n xs p C m c news N f R D b k hm;unfold Oper.wp execOp;simp only[E,resolve,invoke,builtin,o8,ph,Result.andThen_ok,List.map_toArray,List.map_cons,List.map_nil,L,M,T];exact S _ _ (h l w' U W)
end
structure Chg (F:Nat→Prop) (w w':p7):Prop where
 os:w'.os=w.os
 tape:w'.tape=w.tape
 a:w'.output=w.output
 u:w.heap.size≤w'.heap.size
 q:∀b,b<w.heap.size→¬F b→w'.heap[b]?=w.heap[b]?
theorem Chg.y(F:Nat→Prop)(w:p7):Chg F w w:=⟨Z,Z,Z,ET _,fun _ _ _=>rfl⟩
theorem Chg.h{F:Nat→Prop}{a b c:p7}(h:Chg F a b)(k:Chg F b c):Chg F a c:=
 ⟨k.os.trans h.os,k.tape.trans h.tape,k.a.trans h.a,EZ h.u k.u,fun i d e=>(k.q i (EY d h.u) e).trans (h.q i d e)⟩
theorem Chg.N{F G:Nat→Prop}{a b:p7}(h:Chg F a b)(c:∀i,F i→G i):Chg G a b:=⟨h.os,h.tape,h.a,h.u,fun i d e=>h.q i d fun k=>e (c i k)⟩
theorem Chg.b{F:Nat→Prop}{a b:p7}(h:FS a b):Chg F a b:=⟨h.os,h.tape,h.output,h.size,fun i c _=>h.block i c⟩
theorem Chg.t{F:Nat→Prop}{a b:p7}(h:Chg F a b){p:vv}(c:F p.block∨a.heap.size≤p.block)(v:r3):Chg F a (b.setCell p v):=
 ⟨h.os,h.tape,h.a,by simpa [xD]using h.u,fun i e d=>(o7 _ _ _ _ (by rintro rfl;rcases c with c|c;exact d c;omega)).trans (h.q i e d)⟩
theorem Chg.C{F:Nat→Prop}{B:Nat}{w a b:p7}(hw:Below B w a)(h:Chg F a b)(hF:∀i,F i→B≤i)(hB:B≤a.heap.size):Below B w b:=
 ⟨h.os.trans hw.os,h.tape.trans hw.tape,h.a.trans hw.output,EZ hw.size h.u,fun i c=>(h.q i (EY c hB) fun k=>by have:=hF i k;omega).trans (hw.block i c)⟩
theorem eH{w:p7}{base n size:Nat}{e:vn}{v:r3}{xs:List r3}(h:w.ownsRow base e size v n xs):∀g,v.ownBlock=A g→base≤g∧g<w.heap.size:=by
 intro g a;rcases h.2 with ⟨rfl,_⟩|⟨d,cap,cur,rfl,b,c,_⟩
 ·cases a
 ·injection a with a
  subst a;exact⟨b,(ES.1 c).1⟩
theorem bE{w w':p7}{B:Nat}{e:vn}{z n:Nat}{v:r3}{xs:List r3}(h:w.ownsRow B e z v n xs)(a:∀g,v.ownBlock=A g→w'.heap[g]?=w.heap[g]?):w'.ownsRow B e z v n xs:=by
 refine⟨h.1,?_⟩;rcases h.2 with b|⟨g,cap,cur,rfl,c,d,rest⟩
 ·exact tE b
 ·exact tS ⟨g,cap,cur,Z,c,(a g Z).trans d,rest⟩
theorem ab{w w':p7}{B:Nat}{e:vn}{z n:Nat}{v:r3}{xs:List r3}(h:w.ownsRow B e z v n xs)(a:FS w w'):w'.ownsRow B e z v n xs:=
 bE h fun g b=>a.block g (h.lt g b).2
theorem cells5{w:p7}{T:Nat}{a b c d e:r3}{t:vn}(h:w.heap[T]?=A (p8 #[a,b,c,d,e] t (0,0))) :
  w.cell? ⟨T,0,V⟩=A a∧w.cell? ⟨T,1,V⟩=A b∧w.cell? ⟨T,2,V⟩=A c∧w.cell? ⟨T,3,V⟩=A d∧w.cell? ⟨T,4,V⟩=A e:=by
 simp[xj,h]
theorem ay(w:p7)(a b:Obj):((w.alloc a).alloc b).heap[w.heap.size]?=A a∧((w.alloc a).alloc b).heap[w.heap.size+1]?=A b∧True:=
 ⟨by rw[ib,o2,ox (by omega),ib,oA Z],by rw[ib,o2,oA Z],trivial⟩
theorem ae{w:p7}{T:Nat}{cs:Array r3}{t:vn}(h:w.heap[T]?=A (p8 cs t (0,0)))(i:Nat):w.frozen? ⟨T,i,V⟩=false:=by simp[World.frozen?,h]
theorem tZ(Q k:Nat)(s:ByteArray)(w:p7)(a:w.cell? ⟨Q,0,V⟩=A (p9 s))(b:w.cell? ⟨Q,1,V⟩=A (I Y k))(c:k≤s.size)(d:s.size≤16384) :
  r9 r6 94 #[tv (A ⟨Q,0,V⟩)] w fun e w'=>e=tF (I Y ((s.size:Int)-k))∧∃n,w'=w.drewN n:=by
 go_enter Tryz.func94,Tryz.ntmps94
 go_wp2
 go_quiet (fail)
 go_wp2
 ·go_ret;refine⟨?_,_,Z⟩;have:s.size≤k:=by assumption
  have e:(s.size:Int)-k=0:=by omega
  rw[e];rfl
 ·go_quiet (fail)
  go_wp2
  go_ret;exact⟨Z,_,World.drewN_drewN ..⟩
theorem qg(R Q k:Nat)(s:ByteArray)(w:p7)(f:w.cell? ⟨R,0,V⟩=A (tv (A ⟨Q,0,V⟩)))(g:w.cell? ⟨R,1,V⟩=A (p9 s))(a:w.cell? ⟨Q,0,V⟩=A (p9 s))(b:w.cell? ⟨Q,1,V⟩=A (I Y k))(c:k≤s.size)(d:s.size≤16384) :
  r9 r6 166 #[tv (A ⟨R,0,V⟩)] w fun e w'=>e=tF (I Y k)∧∃n,w'=w.drewN n:=by
 go_enter Tryz.func166,Tryz.ntmps166
 go_wp2
 go_quiet ((go_at_call 94;refine Calls.quiet_of (tZ Q k s _ a b c d)))
 go_wp2
 go_ret;refine⟨?_,_,Z⟩;have e:(s.size:Int)-(↑s.size - ↑k)=k:=by omega
 simp;omega
theorem CX(R Q k:Nat)(s:ByteArray)(w:p7)(a:w.cell? ⟨R,0,V⟩=A (tv (A ⟨Q,0,V⟩)))(b:w.cell? ⟨R,1,V⟩=A (p9 s))(c:w.cell? ⟨Q,0,V⟩=A (p9 s))(d:w.cell? ⟨Q,1,V⟩=A (I Y k))(f:k≤s.size)(g:s.size≤16384) :
  r9 r6 162 #[tv (A ⟨R,0,V⟩)] w fun e w'=>e=tF (p9 (s.extract k s.size))∧∃n,w'=w.drewN n:=by
 go_enter Tryz.func162,Tryz.ntmps162
 go_wp2
 go_quiet ((go_at_call 166;refine Calls.quiet_of (qg R Q k s _ a b c d f g)))
 go_wp2
 go_ret;refine⟨Z,_,Z⟩
theorem sE(l:List UInt8)(c:UInt8):r8 (0≤Lib.indexByte l c)=l.contains c:=by
 induction l with
 | nil=>rfl
 | cons a l d =>
  have j:=Lib.indexByte_ge l c;simp only[Lib.indexByte,List.contains_cons,←d]
  by_cases h:a=c
  ·subst h;simp
  ·have f:(a==c)=false:=by simpa using h
   have g:(c==a)=false:=by simpa using fun e=>h e.symm
   simp only[f,g,Fx,oX,Bool.false_or]
   by_cases b:Lib.indexByte l c=-1
   ·simp[b]
   ·have i:(Lib.indexByte l c == -1)=false:=by simpa using b
    simp only[i,Fx,oX];apply decide_eq_decide.2;omega
theorem j0(st:ByteArray)(c:UInt8):r8 (0≤Lib.indexByte st.data.toList c)=hasB st c:=sE _ _
theorem gX(st:ByteArray)(c:UInt8)(w:p7) :
  r9 r6 157 #[p9 st,I J (c.toNat:Int)] w fun e w'=>(e=tF (I Y (Lib.indexByte st.data.toList c)))∧w=w':=
 (Tryz.strings_IndexByte st (c.toNat:Int) w).mono fun e w' ⟨a,b⟩=>⟨by simpa using a,b.symm⟩
theorem uD(T:Nat)(st t:ByteArray)(w:p7)(b:w.cell? ⟨T,0,V⟩=A (p9 t))(c:0<t.size) :
  r9 r6 208 #[p9 st,tv (A ⟨T,0,V⟩)] w fun e w'=>e=tF (ur (hasB st t[0]))∧w=w':=by
 have a:=Hd (j0 st t[0])
 go_enter Tryz.func208,Tryz.ntmps208
 go_wp2_with (go_at_call 157;refine (gX _ _ _).mono ?_;rintro e w' ⟨rfl,rfl⟩)
 go_ret;exact⟨by rw[←a.o];rfl,Z⟩
theorem Cn(B T n cap:Nat)(a:List ByteArray)(t:ByteArray)(w:p7)(hB:w.heap[B]?=A (p8 (a.map p9).toArray 9 (0,0)))(h:a.length=n)(r:n≤100)
  (j:w.cell? ⟨T,0,V⟩=A (p9 t)) (l:0<t.size) :
  r9 r6 225 #[O (A ⟨B,0,V⟩) n cap,wP (.func 208) #[] #[tv (A ⟨T,0,V⟩)]] w fun e w'=>(∃i:Int,e=tF (I Y i)∧r8 (0≤i)=a.any (hasB · t[0]))∧w=w':=by
 have b:∀i,i<n→∃st,a[i]?=A st∧w.cell? ⟨B,i,V⟩=A (p9 st):=by
  intro i x;refine⟨a[i]'(by omega),EX (by omega),?_⟩;simp[xj,hB,List.getElem?_eq_getElem (show i<a.length by omega)]
 obtain⟨s,u⟩:=zz2 b h;clear b hB h
 go_enter Tryz.func225,Tryz.ntmps225
 go_wp2
 go_loop [8,5] (fun i _=>∃k:Nat,k≤n∧i=I Y k∧(a.take k).any (hasB · t[0])=r7) (fun i _=>n-(intOf i).toNat)
 case atStart=>exact⟨0,Fi _,Z,Z⟩
 case round =>
  obtain⟨k,y,rfl,c⟩:=hrel;have m:=Hd c;clear c
  by_cases f:k<n
  ·obtain⟨st,d,v⟩:=s.o k f;have p:=Hd d;clear d
   cases q:hasB st t[0]
   ·have g:=Hd q;go_wp2_with (go_at_call 208;refine (uD T _ t _ j l).mono ?_;rintro e w' ⟨rfl,rfl⟩)
    go_round
    case rel=>exact⟨k+1,by omega,by go_num,by rw[sG _ _ _ _ p.o m.o];exact g.o⟩
    case measure=>simp[intOf];omega
   ·have g:=Hd q;go_wp2_with (go_at_call 208;refine (uD T _ t _ j l).mono ?_;rintro e w' ⟨rfl,rfl⟩)
    go_ret;refine⟨⟨k,Z,?_⟩,Z⟩;rw[yH (hasB · t[0]) _ _ _ p.o g.o];simp
  ·go_wp2
   go_ret;refine⟨⟨-1,Z,?_⟩,Z⟩;have e:a.take k=a:=Fq (by rw[u.o];omega);have:=m.o;rw[e]at this;rw[this];rfl
theorem sO(B T n cap:Nat)(a:List ByteArray)(t:ByteArray)(w:p7)(hB:w.heap[B]?=A (p8 (a.map p9).toArray 9 (0,0)))(c:a.length=n)(b:n≤100)
  (f:w.cell? ⟨T,0,V⟩=A (p9 t)) (g:0<t.size) :
  r9 r6 207 #[O (A ⟨B,0,V⟩) n cap,wP (.func 208) #[] #[tv (A ⟨T,0,V⟩)]] w fun e w'=>e=tF (ur (a.any (hasB · t[0])))∧w=w':=by
 have h:=Hd (Cn B T n cap a t w hB c b f g);clear c hB
 go_enter Tryz.func207,Tryz.ntmps207
 go_wp2_with (go_at_call 225;refine Ff h.o ?_;rintro e w' ⟨⟨i,rfl,d⟩,rfl⟩;have j:=Hd d;clear d)
 go_ret;exact⟨by rw[←j.o];rfl,Z⟩
def Rdr(w:p7) (R Q:Nat) (s:ByteArray) (k:Nat):Prop:=
 w.heap[R]?=A (p8 #[tv (A ⟨Q,0,V⟩),p9 s] 147 (0,0))∧∃p:Int,w.heap[Q]?=A (p8 #[p9 s,I Y k,I Y p] 203 (0,0))
theorem Rdr.ne{w:p7}{R Q:Nat}{s:ByteArray}{k:Nat}(h:Rdr w R Q s k):R≠Q:=by
 obtain⟨b,p,a⟩:=h;rintro rfl;rw[b]at a;simp at a
theorem Rdr.h{w:p7}{R Q:Nat}{s:ByteArray}{k:Nat}(h:Rdr w R Q s k) :
  w.cell? ⟨R,0,V⟩=A (tv (A ⟨Q,0,V⟩))∧w.cell? ⟨R,1,V⟩=A (p9 s)∧w.cell? ⟨Q,0,V⟩=A (p9 s)∧w.cell? ⟨Q,1,V⟩=A (I Y k)∧
  (∃p:Int,w.cell? ⟨Q,2,V⟩=A (I Y p))∧w.frozen? ⟨Q,1,V⟩=r7∧w.frozen? ⟨Q,2,V⟩=r7∧R<w.heap.size∧Q<w.heap.size:=by
 obtain⟨d,p,c⟩:=h;have a:=(ES.1 d).1;have b:=(ES.1 c).1;exact⟨by simp[xj,d],by simp[xj,d],by simp[xj,c],by simp[xj,c],⟨p,by simp[xj,c]⟩,by simp[World.frozen?,c],by simp[World.frozen?,c],a,b⟩
theorem Rdr.t{w w':p7}{R Q:Nat}{s:ByteArray}{k:Nat}(h:Rdr w R Q s k)(c:FS w w'):Rdr w' R Q s k:=by
 obtain⟨_,_,_,_,_,_,_,a,b⟩:=h.h;obtain⟨d,p,e⟩:=h;exact⟨by rw[c.block R a];exact d,p,by rw[c.block Q b];exact e⟩
theorem uz(R Q k:Nat)(s:ByteArray)(w:p7)(h:Rdr w R Q s k)(a:k≤s.size)(b:s.size≤16384) :
  r9 r6 162 #[tv (A ⟨R,0,V⟩)] w fun e w'=>e=tF (p9 (s.extract k s.size))∧FS w w':=by
 obtain⟨c,d,f,q1,⟨p,g⟩,f1,f2,i,j⟩:=h.h;refine (CX R Q k s w c d f q1 a b).mono ?_;rintro e w' ⟨rfl,n,rfl⟩;exact⟨Z,below_drewN (EU _ _) n⟩
theorem AD(R Q k:Nat)(s:ByteArray)(w:p7)(h:Rdr w R Q s k)(c:k=s.size)(d:s.size≤16384)(f:r3) :
  r9 r6 161 #[tv (A ⟨R,0,V⟩),f] w fun e w'=>e=tF (ur r7)∧FS w w':=by
 have a:(s.extract k s.size).toList=[]:=by subst c;simp
 have g:(s.extract k s.size).toList.isEmpty=true:=by simp[a]
 have i:=Hd (uz R Q k s w h (by omega) d);clear h a;generalize s.extract k s.size=t at *
 go_enter Tryz.func161,Tryz.ntmps161
 go_wp2_with (first|(go_at_call 162;refine Ff i.o ?_;rintro e w' ⟨rfl,b⟩))
 go_ret;exact⟨Z,b.alloc b.size _⟩
theorem xH(R Q k:Nat)(s:ByteArray)(w:p7)(h:Rdr w R Q s k)(v:k<s.size)(l:s.size≤16384)(B n cap:Nat)(a:List ByteArray)(hB:w.heap[B]?=A (p8 (a.map p9).toArray 9 (0,0)))(j:a.length=n)(d:n≤100) :
  r9 r6 161 #[tv (A ⟨R,0,V⟩),O (A ⟨B,0,V⟩) n cap] w fun e w'=>e=tF (ur (a.any (hasB · s[k])))∧FS w w':=by
 have f:B<w.heap.size:=(ES.1 hB).1;obtain⟨m,p⟩:=zz2 hB j;have g:(s.extract k s.size).size=s.size-k:=by simp
 have i:0<(s.extract k s.size).size:=by omega
 have b:(s.extract k s.size)[0]=s[k]:=EC s k s.size 0 i (by omega);have q:(s.extract k s.size).toList.isEmpty=false:=iQ _ i;have r:=Hd (uz R Q k s w h (by omega) l);clear hB j;rw[←b];generalize s.extract k s.size=t at *;clear g b
 go_enter Tryz.func161,Tryz.ntmps161
 go_wp2_with (first
  | (go_at_call 162;refine Ff r.o ?_;rintro e w' ⟨rfl,c⟩)
  | (go_at_call 207;refine (sO B _ n cap a t _ ((FQ _ _ _ (by have:=c.size;omega)).trans (ag c m.o f)) p.o d (cell_new1 _ _ _) i).mono ?_;rintro e u ⟨rfl,rfl⟩))
 go_ret;exact⟨Z,c.alloc c.size _⟩
theorem jS(Q k:Nat)(p:Int)(s:ByteArray)(w:p7)(h:w.heap[Q]?=A (p8 #[p9 s,I Y k,I Y p] 203 (0,0)))(b:k<s.size)(c:s.size≤16384) :
  r9 r6 164 #[tv (A ⟨Q,0,V⟩)] w fun e w'=>e=tF (wF #[I J (s[k].toNat:Int),.nilIface])∧w.grownBy w' (A Q)∧w'.heap[Q]?=A (p8 #[p9 s,I Y (k+1:Nat),I Y (-1)] 203 (0,0)):=by
 have d:w.cell? ⟨Q,0,V⟩=A (p9 s):=by simp[xj,h]
 have q1:w.cell? ⟨Q,1,V⟩=A (I Y k):=by simp[xj,h]
 have f:w.cell? ⟨Q,2,V⟩=A (I Y p):=by simp[xj,h]
 have f1:w.frozen? ⟨Q,1,V⟩=false:=by simp[World.frozen?,h]
 have f2:w.frozen? ⟨Q,2,V⟩=false:=by simp[World.frozen?,h]
 have H:=Hd h;clear h;have a:r8 ((s.size:Int)≤k)=false:=by simp;omega
 go_enter Tryz.func164,Tryz.ntmps164
 go_wp2
 go_quiet (fail)
 go_wp2
 go_quiet (fail)
 go_wp2
 go_ret2
 refine⟨Z,gj (grown_drewN (gj (oT w _) _ _) _) _ _,?_⟩;rw[heap_set (w:=World.drewN _ _) (heap_set H.o 2 (I Y (-1)))];rfl
def pY(w:p7) (Q:Nat):Nat:=match w.cell? ⟨Q,1,V⟩ with|some (I _ n)=>n.toNat|_=>0
theorem Rdr.pos{w:p7}{R Q:Nat}{s:ByteArray}{k:Nat}(h:Rdr w R Q s k):pY w Q=k:=by
 obtain⟨_,_,_,q1,_⟩:=h.h;simp[pY,q1]
theorem Rdr.N{w w':p7}{R Q:Nat}{s:ByteArray}{k d:Nat}{p:Int}(h:Rdr w R Q s k)(f:w.grownBy w' (A Q))(g:w'.heap[Q]?=A (p8 #[p9 s,I Y d,I Y p] 203 (0,0))):Rdr w' R Q s d:=by
 obtain⟨_,_,_,_,_,_,_,a,b⟩:=h.h;have c:=h.ne;obtain⟨i,p,j⟩:=h;exact⟨(f.block R a (by intro e;injection e with e;exact c e)).trans i,_,g⟩
theorem tP(R Q k:Nat)(s:ByteArray)(w:p7)(h:Rdr w R Q s k)(a:k≤s.size)(b:s.size≤16384) :
  r9 r6 166 #[tv (A ⟨R,0,V⟩)] w fun e w'=>e=tF (I Y k)∧FS w w':=by
 obtain⟨c,d,f,q1,⟨p,g⟩,f1,f2,i,j⟩:=h.h;refine (qg R Q k s w c d f q1 a b).mono ?_;rintro e w' ⟨rfl,n,rfl⟩;exact⟨Z,below_drewN (EU _ _) n⟩
theorem Rdr.q{w:p7}{R Q:Nat}{s:ByteArray}{k:Nat}(h:Rdr w R Q s k):∃p:Int,w.heap[Q]?=A (p8 #[p9 s,I Y k,I Y p] 203 (0,0)):=h.2
theorem take_any(R Q k:Nat)(s:ByteArray)(w:p7)(h:Rdr w R Q s k)(hk:k≤s.size)(m:s.size≤16384)(B n cap:Nat)(a:List ByteArray)(hB:w.heap[B]?=A (p8 (a.map p9).toArray 9 (0,0)))(hn:a.length=n)(S:n≤100) :
  r9 r6 165 #[tv (A ⟨R,0,V⟩),O (A ⟨B,0,V⟩) n cap] w fun e w'=>e=tF (p9 (s.extract k (aB (fun c=>a.any (hasB · c)) s k)))∧w.grownBy w' (A Q)∧Rdr w' R Q s (aB (fun c=>a.any (hasB · c)) s k):=by
 have T:A B≠A Q:=by
  obtain⟨p,hq⟩:=h.q;intro e;injection e with e
  exact iz hB hq (by decide) e
 obtain⟨HB,HN⟩:=zz2 hB hn;clear hB hn
 go_enter Tryz.func165,Tryz.ntmps165
 go_wp2_with (first
  | (go_at_call 166;refine (tP R Q k s _ h hk m).mono ?_;rintro e w1 ⟨rfl,g⟩))
 have t:=h.t g
 go_loopw [16] (fun _ wr=>∃j,k≤j∧j≤s.size∧aB (fun c=>a.any (hasB · c)) s j=aB (fun c=>a.any (hasB · c)) s k∧Rdr wr R Q s j∧w.grownBy wr (A Q)) (fun _ wr=>s.size-pY wr Q)
 case atStart=>exact⟨k,ET _,hk,Z,t,aL g _⟩
 case round =>
  obtain⟨j,af,u,v,f,G⟩:=hrel;obtain⟨U,W⟩:=zz2 v (aJ G HB.o T);clear v g t
  by_cases H:j<s.size
  ·have K:=Hd (fun (x:Bool) (hx:(a.any (hasB · s[j]))=x)=>(xH R Q j s wr f H m B n cap a W.o HN.o S).mono (R':=fun e w'=>e=tF (ur x)∧FS wr w') (fun e w' hh=>by rw[←hx];exact hh))
   cases r:a.any (hasB · s[j])
   ·obtain⟨X,y⟩:=zz2 r (K.o _ r);clear K r
    go_wp2_with (first
     | (go_at_call 161;refine Ff y.o ?_;rintro e w2 ⟨rfl,b⟩))
    obtain⟨L,M,N,q1,⟨p,q2⟩,f1,f2,z,C⟩:=(f.t b).h
    go_quiet ((go_at_call 166;refine Calls.quiet_of (qg R Q j s _ L M N q1 u m)))
    go_wp2
    go_ret;have e:aB (fun c=>a.any (hasB · c)) s k=j:=by rw[←U.o];exact sf _ s j H X.o
    rw[e];exact⟨Z,grown_drewN (grown_below G b) _,f.t (below_drewN b _)⟩
   ·obtain⟨X,y⟩:=zz2 r (K.o _ r);clear K r
    go_wp2_with (first
     | (go_at_call 161;refine Ff y.o ?_;rintro e w2 ⟨rfl,b⟩;have d:=f.t b;obtain⟨L,M,N,q1,⟨p,q2⟩,f1,f2,z,C⟩:=d.h;obtain⟨p',D⟩:=d.q;have ad:=Hd D;clear D)
     | (go_at_call 164;refine (jS Q j _ s _ ad.o H m).mono ?_;rintro e w3 ⟨rfl,i,E⟩;have F:=Hd E;clear E))
    refine⟨⟨j+1,by omega,by omega,?_,d.N i F.o,o1 (grown_below G b) i⟩,?_⟩
    ·rw[←U.o];exact gn _ s j H X.o
    ·rw[(d.N i F.o).pos,f.pos];omega
  ·have l:j=s.size:=by omega
   have HJ:=Hd l;have y:=Hd (AD R Q j s wr f l m (O (A ⟨B,0,V⟩) n cap));clear l
   go_wp2_with (first
    | (go_at_call 161;refine Ff y.o ?_;rintro e w2 ⟨rfl,b⟩))
   obtain⟨L,M,N,q1,⟨p,q2⟩,f1,f2,z,C⟩:=(f.t b).h
   go_quiet ((go_at_call 166;refine Calls.quiet_of (qg R Q j s _ L M N q1 u m)))
   go_wp2
   go_ret;have e:aB (fun c=>a.any (hasB · c)) s k=j:=by rw[←U.o];exact lT _ s j (by omega)
   rw[e];exact⟨Z,grown_drewN (grown_below G b) _,f.t (below_drewN b _)⟩
theorem Rdr.b{w:p7}{R Q:Nat}{s:ByteArray}{k:Nat}(h:Rdr w R Q s k){T i:Nat}(u:r3)(a:T≠R)(b:T≠Q):Rdr (w.setCell ⟨T,i,V⟩ u) R Q s k:=by
 obtain⟨c,p,d⟩:=h;exact⟨aH c a _ _,p,aH d b _ _⟩
theorem Rdr.move{w w':p7}{R Q:Nat}{s:ByteArray}{k:Nat}{row:Option Nat}(h:Rdr w R Q s k)(a:w.grownBy w' row)(b:A R≠row)(c:A Q≠row):Rdr w' R Q s k:=by
 obtain⟨d,p,e⟩:=h;exact⟨aJ a d b,p,aJ a e c⟩
theorem qi(l:List UInt8)(c:UInt8):Lib.indexByte l c=if l.contains c then ((l.takeWhile (· != c)).length:Int) else -1:=by
 induction l with
 | nil=>rfl
 | cons a l d =>
  simp only[Lib.indexByte,List.contains_cons,d]
  by_cases h:a=c
  ·subst h;simp
  ·have f:(a==c)=false:=by simpa using h
   have g:(c==a)=false:=by simpa using fun e=>h e.symm
   have i:(a != c)=true:=by simpa using h
   simp only[f,g,Fx,oX,Bool.false_or,List.takeWhile_cons,i,o4,FC]
   by_cases b:l.contains c
   ·simp only[b,o4];rw[ox (by simp)];omega
   ·simp only[b];simp
theorem zH(l:List UInt8)(c:UInt8)(h:l.contains c=r7):l.takeWhile (· != c)=l:=by
 induction l with
 | nil=>rfl
 | cons a l b =>
  simp only[List.contains_cons,Bool.or_eq_false_iff]at h;have d:(a != c)=true:=by
   have:=h.1;simp only[bne_iff_ne];rintro rfl;simp at this
  rw[List.takeWhile_cons,oA d,b h.2]
theorem Co(l:List UInt8)(c:UInt8)(h:l.contains c=r5):(l.takeWhile (· != c)).length<l.length:=by
 induction l with
 | nil=>simp at h
 | cons a l b =>
  by_cases e:a=c
  ·subst e;simp
  ·have d:(a != c)=true:=by simpa using e
   rw[List.takeWhile_cons,oA d];have f:l.contains c=true:=by
    simp only[List.contains_cons,Bool.or_eq_true]at h;rcases h with h|h
    ·exact absurd (by simpa using h:c=a).symm e
    ·exact h
   have:=b f;simp;omega
theorem CV(t:ByteArray)(i:Nat)(w:p7)(a:Lib.indexByte t.data.toList 10=(i:Int))(hle:i<t.size)(k:t.size≤16384) :
  r9 r6 209 #[p9 t,p9 ⟨#[10]⟩] w fun e w'=>(∃b c,e=tF (wF #[p9 (t.extract 0 i),b,c]))∧FS w w':=by
 have f:=Hd ((Tryz.stringslite_Index_one t 10 w).mono (R':=fun e w'=>e=tF (I Y (i:Int))∧w=w') (fun e w' d=>⟨by rw[←a];exact d.1,d.2.symm⟩));clear a;have g:(0:Int)≤i:=by omega
 have h:(i:Int)≤t.size:=by omega
 have j:(i:Int)+1≤t.size:=by omega
 have l:(ByteArray.mk #[10]).size=1:=rfl
 go_enter Tryz.func209,Tryz.ntmps209
 go_wp2_with (first
  | (go_at_call 226;refine Ff f.o ?_;rintro e w' ⟨rfl,rfl⟩))
 go_quiet (fail)
 go_wp2
 go_ret3
 exact⟨⟨_,_,Z⟩,below_drewN (EU _ _) _⟩
theorem DL(t:ByteArray)(w:p7)(a:Lib.indexByte t.data.toList 10=-1) :
  r9 r6 209 #[p9 t,p9 ⟨#[10]⟩] w fun e w'=>(∃b c,e=tF (wF #[p9 t,b,c]))∧FS w w':=by
 have f:=Hd ((Tryz.stringslite_Index_one t 10 w).mono (R':=fun e w'=>e=tF (I Y (-1))∧w=w') (fun e w' d=>⟨by rw[←a];exact d.1,d.2.symm⟩));clear a
 go_enter Tryz.func209,Tryz.ntmps209
 go_wp2_with (first
  | (go_at_call 226;refine Ff f.o ?_;rintro e w' ⟨rfl,rfl⟩))
 go_ret3
 exact⟨⟨_,_,Z⟩,EU _ _⟩
theorem Dv(t:ByteArray)(w:p7)(i:t.size≤16384) :
  r9 r6 163 #[p9 t,p9 ⟨#[10]⟩] w fun e w'=>(∃n b c,e=tF (wF #[p9 n,b,c])∧n.size=(t.data.toList.takeWhile (· != 10)).length)∧FS w w':=by
 have g:∀W:p7,r9 r6 209 #[p9 t,p9 ⟨#[10]⟩] W fun e w'=>(∃n b c,e=tF (wF #[p9 n,b,c])∧n.size=(t.data.toList.takeWhile (· != 10)).length)∧FS W w':=by
  intro W;have d:=qi t.data.toList 10
  by_cases f:t.data.toList.contains 10
  ·rw[oA f]at d;have j:(t.data.toList.takeWhile (· != 10)).length<t.size:=by simpa using Co _ _ f
   refine (CV t _ W d j i).mono ?_;rintro e w' ⟨⟨b,c,rfl⟩,a⟩;exact⟨⟨_,b,c,Z,by simp;omega⟩,a⟩
  ·rw[ox f]at d;refine (DL t W d).mono ?_;rintro e w' ⟨⟨b,c,rfl⟩,a⟩;exact⟨⟨_,b,c,Z,by rw[zH _ _ (by simpa using f)];simp⟩,a⟩
 have k:=Hd g;clear g
 go_enter Tryz.func163,Tryz.ntmps163
 go_wp2_with (first
  | (go_at_call 209;refine (k.o _).mono ?_;rintro e w' ⟨⟨n,b,c,rfl,h⟩,a⟩;have l:=Hd h;clear h))
 go_ret3
 exact⟨⟨n,b,c,Z,l.o⟩,a⟩
def cY(c:UInt8):Bool:=c==9||c==10||c==13||c==32
def gy:Nat→ByteArray→Nat→Nat
 | 0,_,k=>k
 | f+1,s,k=>if h:k<s.size then (if cY s[k] then gy f s (k+1) else if s[k]==35 then gy f s (aB (· != 10) s k) else k) else k
def skip(s:ByteArray) (k:Nat):Nat:=gy (s.size-k) s k
theorem je(s:ByteArray)(k:Nat)(h:k<s.size)(a:s[k]=35):k+1≤aB (· != 10) s k:=by
 rw[←gn (· != 10) s k h (by rw[a];rfl)];exact fa _ _ _
theorem wN(s:ByteArray):∀(f k:Nat),s.size-k≤f→gy f s k=skip s k:=by
 have H:∀(n f g k:Nat),s.size-k≤n→s.size-k≤f→s.size-k≤g→gy f s k=gy g s k:=by
  intro n
  induction n with
  | zero =>
   intro f g k e _ _;have a:¬k<s.size:=by omega
   cases f<;>cases g<;>simp[gy,a]
  | succ n c =>
   intro f g k e d j
   by_cases a:k<s.size
   ·obtain⟨f,rfl⟩:∃h,f=h+1:=⟨f-1,by omega⟩;obtain⟨g,rfl⟩:∃i,g=i+1:=⟨g-1,by omega⟩;simp only[gy,a,dif_pos]
    split
    ·exact c f g (k+1) (by omega) (by omega) (by omega)
    ·split
     ·rename_i _ b
      have:=je s k a (by simpa using b);exact c f g _ (by omega) (by omega) (by omega)
     ·rfl
   ·cases f<;>cases g<;>simp[gy,a]
 exact fun f k d=>H _ _ _ k (ET _) d (ET _)
theorem kj(s:ByteArray)(k:Nat)(h:k<s.size)(a:cY s[k]=r5):skip s k=skip s (k+1):=by
 conv=>lhs;unfold skip
 rw[show s.size-k=(s.size-(k+1))+1 from by omega];simp only[gy,h,dif_pos,a,o4];rfl
theorem kN(s:ByteArray)(k:Nat)(h:k<s.size)(a:s[k]=35):skip s k=skip s (aB (· != 10) s k):=by
 have d:=je s k h a
 conv=>lhs;unfold skip
 rw[show s.size-k=(s.size-(k+1))+1 from by omega];have c:cY s[k]=false:=by rw[a];rfl
 have b:(s[k]==35)=true:=by rw[a];rfl
 simp only[gy,h,dif_pos,c,b,o4,Fx,oX];exact wN s _ _ (by omega)
theorem jf(s:ByteArray)(k:Nat)(h:k<s.size)(a:cY s[k]=r7)(b:(s[k]==35)=r7):skip s k=k:=by
 unfold skip;rw[show s.size-k=(s.size-(k+1))+1 from by omega];simp[gy,h,a,b]
theorem eM(s:ByteArray)(k:Nat)(h:s.size≤k):skip s k=k:=by
 unfold skip;rw[show s.size-k=0 from by omega];rfl
theorem sk(s:ByteArray):∀(n k:Nat),s.size-k≤n→skip s (aB cY s k)=skip s k:=by
 intro n
 induction n with
 | zero=>intro k h;rw[lT _ _ _ (by omega)]
 | succ n c =>
  intro k h
  by_cases a:k<s.size
  ·by_cases b:cY s[k]=r5
   ·rw[←gn _ _ _ a b,c (k+1) (by omega),kj s k a b]
   ·rw[sf _ _ _ a (by simpa using b)]
  ·rw[lT _ _ _ (by omega)]
theorem kl(s:ByteArray):∀(n k:Nat),s.size-k≤n→k≤skip s k:=by
 intro n
 induction n with
 | zero=>intro k h;rw[eM _ _ (by omega)];exact ET _
 | succ n c =>
  intro k h
  by_cases a:k<s.size
  ·by_cases d:cY s[k]=r5
   ·rw[kj s k a d];have:=c (k+1) (by omega);omega
   ·by_cases b:s[k]=35
    ·have e:=je s k a b;rw[kN s k a b];have:=c (aB (· != 10) s k) (by omega);omega
    ·rw[jf s k a (by simpa using d) (by simpa using b)];exact ET _
  ·rw[eM _ _ (by omega)];exact ET _
theorem xw(s:ByteArray):∀(n k:Nat),s.size-k≤n→k≤s.size→skip s k≤s.size:=by
 intro n
 induction n with
 | zero=>intro k h a;rw[eM _ _ (by omega)];exact a
 | succ n c =>
  intro k h hle
  by_cases a:k<s.size
  ·by_cases d:cY s[k]=r5
   ·rw[kj s k a d];exact c (k+1) (by omega) (by omega)
   ·by_cases b:s[k]=35
    ·have e:=je s k a b;rw[kN s k a b];exact c _ (by omega) (dl _ _ _ hle)
    ·rw[jf s k a (by simpa using d) (by simpa using b)];exact hle
  ·rw[eM _ _ (by omega)];exact hle
theorem Dz(s:ByteArray):∀(n k:Nat),s.size-k≤n→∀h:skip s k<s.size,cY s[skip s k]=r7∧(s[skip s k]==35)=false:=by
 intro n
 induction n with
 | zero=>intro k f h;rw[eM _ _ (by omega)]at h;omega
 | succ n d =>
  intro k f h
  by_cases a:k<s.size
  ·by_cases c:cY s[k]=r5
   ·have e:=kj s k a c;simp only[e]at h ⊢;exact d (k+1) (by omega) h
   ·by_cases b:s[k]=35
    ·have g:=je s k a b;have e:=kN s k a b;simp only[e]at h ⊢;exact d _ (by omega) h
    ·have e:=jf s k a (by simpa using c) (by simpa using b);simp only[e];exact⟨by simpa using c,by simpa using b⟩
  ·rw[eM _ _ (by omega)]at h;omega
theorem km(R Q k:Nat)(s:ByteArray)(w:p7)(h:Rdr w R Q s k)(g:k<s.size)(i:s.size≤16384)(a:List ByteArray)(arr:Array r3)(b:arr=(a.map p9).toArray)(n cap:Nat)(j:a.length=n)(c:n≤100)
  (x:Bool) (l:a.any (hasB · s[k])=x) :
  r9 r6 161 #[tv (A ⟨R,0,V⟩),O (A ⟨w.heap.size,0,V⟩) n cap] (w.alloc (p8 arr 9)) fun e w'=>e=tF (ur x)∧FS w w':=by
 subst b;have d:FS w (w.alloc (p8 (a.map p9).toArray 9)):=(EU _ w).alloc (ET _) _;refine (xH R Q k s _ (h.t d) g i w.heap.size n cap a (ot w _) j c).mono ?_;rintro e w' ⟨rfl,f⟩;exact⟨by rw[l],d.trans (f.mono d.size)⟩
theorem qm(R Q k:Nat)(s:ByteArray)(w:p7)(h:Rdr w R Q s k)(d:k=s.size)(f:s.size≤16384)(arr:Array r3)(c:r3) :
  r9 r6 161 #[tv (A ⟨R,0,V⟩),c] (w.alloc (p8 arr 9)) fun e w'=>e=tF (ur r7)∧FS w w':=by
 have a:FS w (w.alloc (p8 arr 9)):=(EU _ w).alloc (ET _) _;refine (AD R Q k s _ (h.t a) d f c).mono ?_;rintro e w' ⟨rfl,b⟩;exact⟨Z,a.trans (b.mono a.size)⟩
theorem pg(R Q k:Nat)(s:ByteArray)(w:p7)(h:Rdr w R Q s k)(f:k≤s.size)(g:s.size≤16384)(a:List ByteArray)(arr:Array r3)(b:arr=(a.map p9).toArray)(n cap:Nat)(i:a.length=n)(d:n≤100)
  (p:UInt8→Bool) (j:(fun c=>a.any (hasB · c))=p) :
  r9 r6 165 #[tv (A ⟨R,0,V⟩),O (A ⟨w.heap.size,0,V⟩) n cap] (w.alloc (p8 arr 9)) fun e w'=>e=tF (p9 (s.extract k (aB p s k)))∧w.grownBy w' (A Q)∧Rdr w' R Q s (aB p s k):=by
 subst b;subst j;have l:FS w (w.alloc (p8 (a.map p9).toArray 9)):=(EU _ w).alloc (ET _) _;refine (take_any R Q k s _ (h.t l) f g w.heap.size n cap a (ot w _) i d).mono ?_;rintro e w' ⟨rfl,m,o⟩;exact⟨Z,(World.grownBy_alloc w _ _).trans m,o⟩
theorem gv(R Q k:Nat)(s:ByteArray)(w:p7)(h:Rdr w R Q s k)(d:k<s.size)(f:s.size≤16384)(a:List ByteArray)(x:Bool)(g:a.any (hasB · s[k])=x)(arr:Array r3)(b:arr=(a.map p9).toArray)(n cap:Nat)(i:a.length=n)(c:n≤100)
  (B:Nat) (hB:w.heap.size=B) :
  r9 r6 161 #[tv (A ⟨R,0,V⟩),O (A ⟨B,0,V⟩) n cap] (w.alloc (p8 arr 9)) fun e w'=>e=tF (ur x)∧FS w w':=by
 subst hB;exact km R Q k s w h d f a arr b n cap i c x g
theorem take_at(R Q k:Nat)(s:ByteArray)(w:p7)(h:Rdr w R Q s k)(f:k≤s.size)(g:s.size≤16384)(a:List ByteArray)(p:UInt8→Bool)(i:(fun c=>a.any (hasB · c))=p)(arr:Array r3)(b:arr=(a.map p9).toArray)(n cap:Nat)(j:a.length=n)(d:n≤100)
  (B:Nat) (hB:w.heap.size=B) :
  r9 r6 165 #[tv (A ⟨R,0,V⟩),O (A ⟨B,0,V⟩) n cap] (w.alloc (p8 arr 9)) fun e w'=>e=tF (p9 (s.extract k (aB p s k)))∧w.grownBy w' (A Q)∧Rdr w' R Q s (aB p s k):=by
 subst hB;exact pg R Q k s w h f g a arr b n cap j d p i
theorem mJ:(fun c=>[(⟨#[9,10,13,32]⟩:ByteArray)].any (hasB · c))=cY:=by
 funext c
 show ((([9,10,13,32]:List UInt8).contains c)||false)=_
 simp only[List.contains_cons,List.contains_nil,Bool.or_false,cY,Bool.or_assoc]
theorem pG(c:UInt8):[(⟨#[35]⟩:ByteArray)].any (hasB · c)=(c==35):=by
 show ((([35]:List UInt8).contains c)||false)=_
 simp only[List.contains_cons,List.contains_nil,Bool.or_false]
theorem j1(c:UInt8):[(⟨#[9,10,13,32]⟩:ByteArray),⟨#[35]⟩].any (hasB · c)=(cY c||c==35):=by
 rw[←pG,←mJ];simp
theorem uc(R Q k:Nat)(s:ByteArray)(w:p7)(h:Rdr w R Q s k)(a:k≤s.size)(b:s.size≤16384) :
  r9 r6 162 #[tv (A ⟨R,0,V⟩)] w fun e w'=>(∃t,e=tF (p9 t)∧t.data.toList=s.data.toList.drop k∧t.size=s.size-k)∧FS w w':=by
 refine (uz R Q k s w h a b).mono ?_;rintro e w' ⟨rfl,c⟩;exact⟨⟨_,Z,by rw[ByteArray.data_extract,Array.toList_extract];simp[List.extract,List.take_of_length_le],by simp⟩,c⟩
theorem rM(R Q k:Nat)(s:ByteArray)(w:p7)(h:Rdr w R Q s k)(hk:k≤s.size)(n:s.size≤16384) :
  r9 r6 93 #[tv (A ⟨R,0,V⟩)] w fun e w'=>e=tF (wF #[])∧w.grownBy w' (A Q)∧Rdr w' R Q s (skip s k):=by
 go_enter Tryz.func93,Tryz.ntmps93
 go_wp2_with fail
 go_loopw [33] (fun _ wr=>∃j,k≤j∧j≤s.size∧skip s j=skip s k∧Rdr wr R Q s j∧w.grownBy wr (A Q)) (fun _ wr=>s.size-pY wr Q)
 case atStart=>exact⟨k,ET _,hk,Z,h,oT w _⟩
 case round =>
  obtain⟨j,bc,v,H,r,hg⟩:=hrel;have HS:=Hd H;clear H
  by_cases x:j<s.size
  ·cases u:cY s[j]
   ·cases G:s[j]==35
    ·have B:=Hd (km R Q j s wr r x n [⟨#[9,10,13,32]⟩,⟨#[35]⟩] _ Z 2 2 Z (by omega) r7 (by rw[j1,u,G];rfl));have HE:=Hd (jf s j x u G);clear u G
     go_wp2_with (first
      | (go_at_call 161;refine Ff B.o ?_;rintro e K ⟨rfl,a⟩))
     go_end0
     rw[←HS.o,HE.o];exact⟨Z,grown_below hg a,r.t a⟩
    ·have B:=Hd (km R Q j s wr r x n [⟨#[9,10,13,32]⟩,⟨#[35]⟩] _ Z 2 2 Z (by omega) r5 (by rw[j1,u,G];rfl));have L:=Hd G;clear u G;go_wp2_with fail
     refine Ff B.o ?_;rintro e K ⟨rfl,a⟩;have f:=r.t a;have C:=Hd (km R Q j s K f x n [⟨#[35]⟩] _ Z 1 1 Z (by omega) r5 (by rw[pG];exact L.o));go_wp2_with fail
     refine Ff C.o ?_;rintro e w3 ⟨rfl,g⟩;have y:=f.t g;go_wp2_with fail
     refine (uc R Q j s w3 y v n).mono ?_;rintro e w4 ⟨⟨t,rfl,M,N⟩,S⟩;have av:=y.t S;obtain⟨HT,bd⟩:=zz2 M N;have T:t.size≤16384:=by omega
     clear M N;go_wp2_with fail
     refine (Dv t w4 T).mono ?_;rintro e w5 ⟨⟨d,b,c,rfl,D⟩,U⟩;have a1:=av.t U;have HN:=Hd D;have E:j+d.size=aB (· != 10) s j:=by unfold aB;rw[D,HT.o]
     have a6:aB (· != 10) s j≤s.size:=dl _ _ _ v;have W:j+d.size≤s.size:=by omega
     have a7:=Hd E;have a8:w.grownBy w5 (A Q):=grown_below (grown_below (grown_below (grown_below hg a) g) S) U;have bk:j<j+d.size:=by rw[E];exact je s j x (by simpa using L.o)
     clear E a6 D;go_wp2_with fail
     go_loopw [22] (fun i wi=>∃m:Nat,m≤d.size∧i=I Y m∧Rdr wi R Q s (j+m)∧w.grownBy wi (A Q)) (fun i _=>d.size-(intOf i).toNat)
     case atStart=>exact⟨0,Fi _,Z,a1,a8⟩
     case round =>
      obtain⟨m,hm,rfl,z,X⟩:=hrel
      by_cases bl:m<d.size
      ·obtain⟨r0,r1,q0,q1,⟨p,q2⟩,f1,f2,bn,bq⟩:=z.h;obtain⟨p',ad⟩:=z.q;have ba:=Hd ad;clear ad
       go_wp2_with (first
        | (go_at_call 164;refine (jS Q (j+m) _ s _ ba.o (by omega) n).mono ?_;rintro e w6 ⟨rfl,af,ak⟩;have bb:=Hd ak;clear ak))
       go_roundw
       case rel=>exact⟨m+1,by omega,by go_num,z.N af bb.o,o1 X af⟩
       case measure=>simp[intOf];omega
      ·obtain rfl:m=d.size:=by omega
       go_wp2_with fail
       refine (pg R Q (j+d.size) s _ z W n [⟨#[9,10,13,32]⟩] _ Z 1 1 Z (by omega) cY mJ).mono ?_;rintro e w7 ⟨rfl,F,l⟩;have HP:=Hd (sk s _ (j+d.size) (ET _));have br:=fa cY s (j+d.size);have hle:=dl cY s (j+d.size) W;generalize aB cY s (j+d.size)=j2 at *;go_wp2_with fail
       refine⟨⟨j2,by omega,hle,?_,l,o1 X F⟩,?_⟩
       ·rw[HP.o,a7.o,←kN s j x (by simpa using L.o)];exact HS.o
       ·rw[l.pos,r.pos];omega
   ·have B:=Hd (km R Q j s wr r x n [⟨#[9,10,13,32]⟩,⟨#[35]⟩] _ Z 2 2 Z (by omega) r5 (by rw[j1,u];rfl));have aq:(s[j]==35)=false:=by
     cases hh:s[j]==35
     ·rfl
     ·exfalso
      have e:s[j]=35:=by simpa using hh
      rw[e]at u;cases u
    have L:=Hd aq;have bt:j<aB cY s j:=by
     have:=fa cY s (j+1);rw[gn cY s j x u]at this;omega
    clear u aq;go_wp2_with fail
    refine Ff B.o ?_;rintro e K ⟨rfl,a⟩;have f:=r.t a;have C:=Hd (km R Q j s K f x n [⟨#[35]⟩] _ Z 1 1 Z (by omega) r7 (by rw[pG];exact L.o));go_wp2_with fail
    refine Ff C.o ?_;rintro e w3 ⟨rfl,g⟩;have y:=f.t g;have HT:=Hd (pg R Q j s w3 y v n [⟨#[9,10,13,32]⟩] _ Z 1 1 Z (by omega) cY mJ);have HP:=Hd (sk s _ j (ET _));have hle:=dl cY s j v;generalize aB cY s j=j2 at *;go_wp2_with fail
    refine Ff HT.o ?_;rintro e w7 ⟨rfl,F,l⟩;go_wp2_with fail
    refine⟨⟨j2,by omega,hle,?_,l,o1 (grown_below (grown_below hg a) g) F⟩,?_⟩
    ·rw[HP.o];exact HS.o
    ·rw[l.pos,r.pos];omega
  ·have ar:j=s.size:=by omega
   have HE:=Hd (eM s j (by omega));have B:=Hd (qm R Q j s wr r ar n #[p9 ⟨#[9,10,13,32]⟩,p9 ⟨#[35]⟩] (O (A ⟨wr.heap.size,0,V⟩) 2 2));clear ar
   go_wp2_with (first
    | (go_at_call 161;refine Ff B.o ?_;rintro e K ⟨rfl,a⟩))
   go_end0
   rw[←HS.o,HE.o];exact⟨Z,grown_below hg a,r.t a⟩
def bQ(c:UInt8):Bool:=r8 (48≤c.toNat)&&r8 (c.toNat≤57)
def lK:Nat:=9223372036854775807
def gq:Nat→List UInt8→Option Nat
 | n,[]=>A n
 | n,c::r=>if bQ c&&r8 (10*n+(c.toNat-48)≤lK) then gq (10*n+(c.toNat-48)) r else V
def number(l:List UInt8):Option Nat:=if l.isEmpty then V else gq 0 l
theorem xX(s:ByteArray)(w:p7):∃c w',(convert 9 233 (p9 s)).run r6 w=.ok (O (A ⟨w.heap.size,0,V⟩) s.size c) w'∧FS w w'∧
  ∀j (a:j<s.size),w'.cell? ⟨w.heap.size,j,V⟩=A (I J (s[j].toNat:Int)):=by
 refine⟨_,_,run_bytes_of_string w 9 233 5 s Tryz.underlying9 Tryz.underlying233 Tryz.underlying5,(EU _ w).drew.alloc (ET _) _,fun j a=>?_⟩;have h:(w.drew.alloc (p8 (bytesRow s (grownCap w s.size 0 5)) 5 ((bytesRow s (grownCap w s.size 0 5)).size,(bytesRow s (grownCap w s.size 0 5)).size+1))).heap[w.heap.size]?=_:=ot w.drew _;unfold World.cell?;rw[h];exact bytesRow_at s _ j a
theorem Ad(s:ByteArray)(k m:Nat)(h:k<s.size)(a:bQ s[k]=r5)(hm:10*m+(s[k].toNat-48)≤lK) :
  gq m (s.data.toList.drop k)=gq (10*m+(s[k].toNat-48)) (s.data.toList.drop (k+1)):=by
 rw[drop_cons s k h];simp only[gq,a,Bool.true_and,oE,hm,o4]
theorem Ct(s:ByteArray)(k m:Nat)(h:k<s.size)(a:bQ s[k]=r7∨lK<10*m+(s[k].toNat-48)) :
  gq m (s.data.toList.drop k)=none:=by
 rw[drop_cons s k h];simp only[gq];rw[ox];rcases a with a|a
 ·simp[a]
 ·simp only[Fp,oE,not_and];intro _;omega
theorem sC(s:ByteArray)(h:0<s.size):number s.data.toList=gq 0 s.data.toList:=by
 unfold number;rw[ox];have:=iQ s h;rw[Fj]at this;rw[this];simp
theorem yG(s:ByteArray)(h:s.size=0):number s.data.toList=none:=by
 have e:s.data.toList=[]:=by
  have a:s.data.toList.length=0:=by rw[Fz];exact h
  exact Fy a
 rw[e];rfl
theorem lZ(s:ByteArray)(w:p7)(T:s.size≤100000) :
  r9 r6 170 #[p9 s] w fun e w'=>e=tF (wF #[I Y (((number s.data.toList).getD 0:Nat):Int),ur (number s.data.toList).isSome])∧FS w w':=by
 obtain⟨c,w1,r,a,b⟩:=xX s w;have K:=Hd b;clear b;have f:∀(o:Option Nat),number s.data.toList=o→∀(e:Ending) (w':p7),e=tF (wF #[I Y ((o.getD 0:Nat):Int),ur o.isSome])→FS w w'→(e=tF (wF #[I Y (((number s.data.toList).getD 0:Nat):Int),ur (number s.data.toList).isSome])∧FS w w'):=by intro o L e w' he M;rw[L];exact⟨he,M⟩
 have t:=Hd f;clear f
 go_enter Tryz.func170,Tryz.ntmps170
 go_wp2
 clear r
 go_loopw [4,11] (fun n i wr=>∃(k m:Nat),k≤s.size∧i=I Y k∧n=I Y m∧m≤9223372036854775807∧gq m (s.data.toList.drop k)=gq 0 s.data.toList∧wr=w1) (fun _ i _=>s.size-(intOf i).toNat)
 case atStart=>exact⟨0,0,Fi _,Z,Z,by omega,Z,Z⟩
 case round =>
  obtain⟨k,m,U,rfl,rfl,hm,g,rfl⟩:=hrel;have z:=Hd g;clear g
  by_cases j:k<s.size
  ·have N:=K.o k j;have W:=s[k].toNat_lt;obtain⟨Q,R⟩:=zz2 (Ad s k m j) (Ct s k m j);have H:Hid (bQ s[k]=(r8 (48≤s[k].toNat)&&r8 (s[k].toNat≤57))):=rfl;generalize bQ s[k]=C at *;generalize s[k].toNat=d at *;have u:∀h:48≤d∧d≤57,C=true:=fun h=>by rw[H.o];simp[h.1,h.2]
   have v:∀h:¬(48≤d∧d≤57),C=false:=fun h=>by rw[H.o];simp;omega
   obtain⟨D,x⟩:=zz2 u v;clear u v;have y:(C=r7∨lK<10*m+(d-48))→number s.data.toList=none:=fun h=>by rw[sC s (by omega),←z.o];exact R.o h
   have p:=Hd y;clear y
   go_wp2
   ·go_ret2
    have B:9223372036854775807<10*m+(d-48):=by omega
    exact t.o V (p.o (tS B)) _ _ Z a
   ·have B:10*m+(d-48)≤9223372036854775807:=by omega
    refine⟨⟨k+1,10*m+(d-48),by omega,by go_num,?_,B,?_,by trivial⟩,by simp[intOf];omega⟩
    ·congr 1;omega
    ·rw[←Q.o (D.o (by omega)) B];exact z.o
   ·go_ret2
    exact t.o V (p.o (tE (x.o (by omega)))) _ _ Z a
   ·go_ret2
    exact t.o V (p.o (tE (x.o (by omega)))) _ _ Z a
  ·obtain rfl:k=s.size:=by omega
   rcases Nat.eq_zero_or_pos s.size with q|q
   ·have E:m=0:=by
     have F:=z.o;have e:s.data.toList=[]:=Fy (by rw[Fz];exact q);rw[e]at F;simp[gq]at F;exact F
    have he:s.toList.isEmpty=true:=by rw[Fj,Fy (l:=s.data.toList) (by rw[Fz];exact q)];rfl
    have G:=Hd q;subst E;clear q
    go_wp2
    go_ret2
    exact t.o V (yG s G.o) _ _ Z a
   ·have he:s.toList.isEmpty=false:=iQ s q;have hv:number s.data.toList=A m:=by rw[sC s q,←z.o,drop_end s _ (ET _)];rfl
    have S:=Hd hv;clear hv
    go_wp2
    go_ret2
    exact t.o _ S.o _ _ Z a
theorem qw(s:ByteArray)(w:p7)(a:s.size≤16384) :
  r9 r6 170 #[p9 s] w fun e w'=>e=tF (wF #[I Y (((number s.data.toList).getD 0:Nat):Int),ur (number s.data.toList).isSome])∧FS w w':=lZ s w (by omega)
theorem vu(p:UInt8→Bool)(h:(List.range 256).all (fun n=>p (UInt8.ofNat n))=r5)(c:UInt8):p c=true:=by
 have a:=FG.1 h c.toNat (List.mem_range.2 c.toNat_lt)
 simpa using a
def isLow(c:UInt8):Bool:=r8 (97≤c.toNat)&&r8 (c.toNat≤122)
def aZ(c:UInt8):Bool:=isLow c||bQ c||c==95
def dj:ByteArray:=⟨#[97,98,99,100,101,102,103,104,105,106,107,108,109,110,111,112,113,114,115,116,117,118,119,120,121,122]⟩
def jD:ByteArray:=⟨#[48,49,50,51,52,53,54,55,56,57]⟩
def fD:ByteArray:=⟨#[97,98,99,100,101,102,103,104,105,106,107,108,109,110,111,112,113,114,115,116,117,118,119,120,121,122,48,49,50,51,52,53,54,55,56,57,95]⟩
theorem lu(c:UInt8):hasB dj c=isLow c:=by
 have:=vu (fun c=>hasB dj c==isLow c) (by kernel_rfl) c
 simpa using this
theorem yP(c:UInt8):hasB jD c=bQ c:=by
 have:=vu (fun c=>hasB jD c==bQ c) (by kernel_rfl) c
 simpa using this
theorem uH(c:UInt8):hasB fD c=aZ c:=by
 have:=vu (fun c=>hasB fD c==aZ c) (by kernel_rfl) c
 simpa using this
def eR(l:List UInt8):Bool:=
 match l with
 | []=>r7
 | c::_=>r8 (l.length≤24)&&isLow c
theorem jW(s:ByteArray)(w:p7)(m:s.size≤16384) :
  r9 r6 169 #[p9 s] w fun e w'=>e=tF (ur (eR s.data.toList))∧w=w':=by
 rcases Nat.eq_zero_or_pos s.size with a|a
 ·have e:s.data.toList=[]:=Fy (by rw[Fz];exact a);have he:s.toList.isEmpty=true:=by rw[Fj,e];rfl
  have j:=Hd e;clear e a
  go_enter Tryz.func169,Tryz.ntmps169
  go_wp2
  go_ret;rw[j.o];exact⟨Z,Z⟩
 ·have he:s.toList.isEmpty=false:=iQ s a;have b:s.data.toList=s[0]::s.data.toList.drop 1:=by
   have:=drop_cons s 0 a
   simpa using this
  have c:eR s.data.toList=(r8 (s.size≤24)&&hasB dj s[0]):=by rw[lu,b];unfold eR;simp only[←b,Fz];rfl
  have d:=Hd c;have k:=Hd ((gX dj s[0] w).mono (R':=fun e w'=>(∃i:Int,e=tF (I Y i)∧r8 (0≤i)=hasB dj s[0])∧w=w') (fun e w' f=>⟨⟨_,f.1,j0 _ _⟩,f.2⟩));clear c b
  go_enter Tryz.func169,Tryz.ntmps169
  by_cases g:s.size≤24
  ·go_wp2_with (first
    | (go_at_call 157;refine Ff k.o ?_;rintro e w' ⟨⟨i,rfl,h⟩,rfl⟩;have l:=Hd h;clear h))
   go_ret;rw[d.o,←l.o];exact⟨by simp[g],Z⟩
  ·go_wp2
   go_ret;rw[d.o];exact⟨by simp[g],Z⟩
def aM(w:p7):Prop:=∀c:Nat,c<256→w.cell? ⟨1,c,V⟩=A (I J (if Lib.isSp (UInt8.ofNat c) then 1 else 0))
theorem aM.lt{w:p7}(h:aM w):1<w.heap.size:=by
 have a:=h 0 (by omega);unfold World.cell? at a;rcases Nat.lt_or_ge 1 w.heap.size with b|b
 ·exact b
 ·rw[FO b]at a;cases a
theorem aM.q{w w':p7}(h:aM w)(b:w'.heap[(1:Nat)]?=w.heap[(1:Nat)]?):aM w':=
 fun c d=>(World.cell?_of_block (a:=⟨1,c,V⟩) b).trans (h c d)
theorem aM.C{w w':p7}(h:aM w)(a:FS w w'):aM w':=h.q (a.block _ h.lt)
theorem aM.N{w w':p7}{g:Nat}(h:aM w)(a:w.grownBy w' (A g))(b:g≠1):aM w':=
 h.q (a.block _ h.lt (fun e=>by injection e with e;exact b e.symm))
theorem nD(s:ByteArray)(L:List ByteArray)(c:(Lib.fields s.data.toList).map (fun l=>p9 ⟨l.toArray⟩)=L.map p9)(d:s.size<4294967281)(a:s.data.toList.all (fun b=>r8 (b.toNat<128))=r5)(w:p7)(f:aM w) :
  r9 r6 171 #[p9 s] w fun e w'=>e=tF (O (A ⟨w.heap.size,0,V⟩) L.length L.length)∧w'=w.alloc (p8 (L.map p9).toArray 9):=by
 have hlen:(Lib.fields s.data.toList).length=L.length:=by
  have:=o9 List.length c
  simpa using this
 refine (Any.strings_Fields_core Tryz.lays157 (by kernel_rfl) s w d (fun j b g=>?_) f).mono ?_
 ·have:=FG.1 a b (Fv g)
  simpa using this
 ·rintro e w' ⟨he,hw⟩;rw[hlen]at he;rw[c]at hw;exact⟨he,hw⟩
def gx:List ByteArray:=[⟨#[102,97,99,116]⟩,⟨#[114,117,108,101]⟩,⟨#[115,97,108,105,101,110,99,101]⟩,⟨#[110,111,116]⟩,⟨#[116,101,115,116]⟩,⟨#[97,115,115,101,114,116]⟩,⟨#[114,101,116,114,97,99,116]⟩,⟨#[115,97,121]⟩,⟨#[104,97,108,116]⟩,⟨#[97,110,100]⟩,⟨#[111,114]⟩]
def AU:ByteArray:=⟨#[102,97,99,116,32,114,117,108,101,32,115,97,108,105,101,110,99,101,32,110,111,116,32,116,101,115,116,32,97,115,115,101,114,116,32,114,101,116,114,97,99,116,32,115,97,121,32,104,97,108,116,32,97,110,100,32,111,114]⟩
def eG:List ByteArray:=[⟨#[61,62]⟩,⟨#[33,61]⟩,⟨#[60,61]⟩,⟨#[62,61]⟩,⟨#[40]⟩,⟨#[41]⟩,⟨#[123]⟩,⟨#[125]⟩,⟨#[44]⟩,⟨#[59]⟩,⟨#[61]⟩,⟨#[60]⟩,⟨#[62]⟩,⟨#[43]⟩,⟨#[45]⟩,⟨#[42]⟩,⟨#[95]⟩]
def Az:ByteArray:=⟨#[61,62,32,33,61,32,60,61,32,62,61,32,40,32,41,32,123,32,125,32,44,32,59,32,61,32,60,32,62,32,43,32,45,32,42,32,95]⟩
theorem uO(w:p7)(a:aM w) :
  r9 r6 171 #[p9 AU] w fun e w'=>e=tF (O (A ⟨w.heap.size,0,V⟩) 11 11)∧w'=w.alloc (p8 (gx.map p9).toArray 9):=
 nD AU gx (by kernel_rfl) (by decide) (by kernel_rfl) w a
theorem vp(w:p7)(a:aM w) :
  r9 r6 171 #[p9 Az] w fun e w'=>e=tF (O (A ⟨w.heap.size,0,V⟩) 17 17)∧w'=w.alloc (p8 (eG.map p9).toArray 9):=
 nD Az eG (by kernel_rfl) (by decide) (by kernel_rfl) w a
theorem sA(w:p7)(a:aM w) :
  r9 r6 168 #[] w fun e w'=>e=tF (O (A ⟨w.heap.size,0,V⟩) 11 11)∧w'=w.alloc (p8 (gx.map p9).toArray 9):=by
 have b:=Hd (uO w a)
 go_enter Tryz.func168,Tryz.ntmps168
 go_wp2_with (first
  | (go_at_call 171;refine Ff b.o ?_;rintro e w' ⟨rfl,rfl⟩))
 go_ret;exact⟨Z,Z⟩
def j8(l:List UInt8):Bool:=gx.any (fun b=>b.data.toList==l)
theorem Av(x:ByteArray):Lib.containsS gx x=j8 x.data.toList:=by
 rw[FD,Lib.containsS_iff,j8,List.any_eq_true]
 constructor
 ·intro h;exact⟨x,h,by simp⟩
 ·rintro ⟨y,c,he⟩;have e:y=x:=by
   have a:y.data.toList=x.data.toList:=by simpa using he
   have b:y.data=x.data:=Array.toList_inj.1 a;exact ByteArray.ext b
  rwa [←e]
theorem lB(B c:Nat)(x:ByteArray)(w:p7)(h:w.heap[B]?=A (p8 (gx.map p9).toArray 9 (0,0))) :
  r9 r6 167 #[O (A ⟨B,0,V⟩) 11 c,p9 x] w fun e w'=>e=tF (ur (j8 x.data.toList))∧w=w':=by
 refine (Tryz.slices_Contains_string B 0 11 c gx x w (by decide) (by decide) (fun j a=>?_)).mono ?_
 ·rw[Nat.zero_add,FR _ _ _ _ _ _ h];simp[List.getD_eq_getElem?_getD,List.getElem?_eq_getElem a]
 ·rintro e w' ⟨rfl,hw⟩;refine⟨?_,hw.symm⟩;rw[show gx.take 11=gx from rfl,Av]
