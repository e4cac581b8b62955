/- Parts of one proof, joined; conditions stand in each theorem. -/
import Derived.WalkKit
import Derived.WalkSpells
import Derived.WalkLawsBesides
import Derived.Maps.AppendAt
import Derived.Lib.Hide
import Derived.ArgAppend
import Derived.Deep.AppendLies
import Derived.Test.YtkhfjgjjhlnnnaaGreatDoorProg
import Derived.Test.YtkhfjgjjhlnnnaaGreatDoorShelf
import Derived.Deep.QuietTactic
import Derived.BigQuiet
import Derived.LoopTactic
import Derived.Laws.IdiomStrings
open Option renaming some→Y,none→U
open Bool renaming false→wj,true→wg
open Go renaming World→vk,Value→vn,TypeId→AR,Addr→z6,Calls→wB
open Go.Obj renaming cells→ur
open Go.World renaming setCell→BT,cell?→B3
open Or renaming inl→wP,inr→xj
open Go.Ending renaming returned→xv
open Go.Value renaming bool→xS,slice→A,string→J,int→I,pointer→wF,func→Bk,tuple→AJ
open Go.IntKind renaming i64→Z,u8→O
open Go.Proofs.Tryz renaming prog→wq
open Decidable renaming decide→wo
namespace Go.Proofs.YtkhfjgjjhlnnnaaGreatDoor
set_option maxHeartbeats 1000000
set_option maxRecDepth 100000
open Go.RowKit
theorem zzx{α:Sort _}(a:α):∃x,x=a:=⟨a,rfl⟩
theorem zzy{α:Sort _}(a:α):∃x,a=x:=⟨a,rfl⟩
theorem V{α:Sort _}{a:α}:a=a:=rfl
abbrev qv:=@Go.heap_alloc_new
abbrev r5:=@if_neg
abbrev r6:=@if_pos
abbrev r7:=@decide_eq_false
abbrev r8:=@decide_eq_true_eq
abbrev r9:=@Go.World.size_alloc
abbrev sm:=@Go.World.grownBy.refl
abbrev sn:=@if_false
abbrev ss:=@Go.World.grownBy.trans
abbrev sx:=@Option.some.injEq
abbrev sy:=@if_true
abbrev sI:=@decide_eq_true_iff
abbrev s3:=@or_false
abbrev tf:=@of_decide_eq_true
abbrev th:=@Go.Sem.run_pure
abbrev tk:=@decide_eq_decide
abbrev tv:=@Go.Sem.run_bind
abbrev tE:=@congrArg
abbrev tF:=@beq_iff_eq
abbrev tS:=@beq_eq_false_iff_ne
abbrev tT:=@Option.some.inj
abbrev Fi:=@Array.getElem?_eq_some_iff
abbrev Fj:=@Nat.le_refl
abbrev Fl:=@Below.refl
abbrev Fo:=@List.setIfInBounds_toArray
abbrev Fp:=@Below.heap_setCell
abbrev Fq:=@List.getElem?_eq_getElem
abbrev Ft:=@Nat.lt_of_lt_of_le
abbrev Fu:=@Nat.le_trans
abbrev Fv:=@List.set_cons_succ
abbrev Fw:=@List.set_cons_zero
abbrev Fx:=@Calls.mono
abbrev Fy:=@List.take_succ_cons
abbrev Fz:=@List.drop_succ_cons
abbrev FA:=@Nat.zero_le
abbrev FB:=@ByteArray.toList_eq
abbrev FC:=@List.length_append
abbrev FD:=@List.getElem?_eq_some_iff
abbrev FG:=@Bool.and_eq_true
abbrev FH:=@List.take_of_length_le
abbrev FI:=@List.drop_zero
abbrev FK:=@List.take_zero
abbrev FM:=@List.mem_of_getElem?
abbrev FN:=@Nat.le_succ
abbrev FO:=@Bool.false_eq_true
abbrev FP:=@List.eq_nil_of_length_eq_zero
abbrev FQ:=@Array.length_toList
abbrev FS:=@List.getElem?_append_right
abbrev FT:=@Nat.le_of_lt
abbrev FU:=@List.length_cons
abbrev FV:=@Bool.eq_iff_iff
abbrev FW:=@List.all_eq_true
abbrev FX:=@List.not_mem_nil
abbrev FY:=@List.take_add_one
abbrev FZ:=@List.mem_cons
abbrev F6:=@List.getElem?_append_left
abbrev F7:=@List.getElem?_cons_succ
abbrev F8:=@Array.getElem?_eq_none
abbrev F9:=@List.length_singleton
abbrev Ga:=@Below.heap_alloc
abbrev Gb:=@cell_of_row
def Hid(p:Prop):Prop:=p
theorem Hid.o{p:Prop}(h:Hid p):p:=h
theorem Hd{p:Prop}(h:p):Hid p:=h
theorem zz2{p0 p1:Prop}(a0:p0)(a1:p1):Hid p0∧Hid p1:=⟨a0,a1⟩
theorem zz3{p0 p1 p2:Prop}(a0:p0)(a1:p1)(a2:p2):Hid p0∧Hid p1∧Hid p2:=⟨a0,a1,a2⟩
theorem zz4{p0 p1 p2 p3:Prop}(a0:p0)(a1:p1)(a2:p2)(a3:p3):Hid p0∧Hid p1∧Hid p2∧Hid p3:=⟨a0,a1,a2,a3⟩
theorem zz5{p0 p1 p2 p3 p4:Prop}(a0:p0)(a1:p1)(a2:p2)(a3:p3)(a4:p4):Hid p0∧Hid p1∧Hid p2∧Hid p3∧Hid p4:=⟨a0,a1,a2,a3,a4⟩
theorem zz6{p0 p1 p2 p3 p4 p5:Prop}(a0:p0)(a1:p1)(a2:p2)(a3:p3)(a4:p4)(a5:p5):Hid p0∧Hid p1∧Hid p2∧Hid p3∧Hid p4∧Hid p5:=⟨a0,a1,a2,a3,a4,a5⟩
theorem zz7{p0 p1 p2 p3 p4 p5 p6:Prop}(a0:p0)(a1:p1)(a2:p2)(a3:p3)(a4:p4)(a5:p5)(a6:p6):Hid p0∧Hid p1∧Hid p2∧Hid p3∧Hid p4∧Hid p5∧Hid p6:=⟨a0,a1,a2,a3,a4,a5,a6⟩
abbrev Gc(w W:World):Prop:=Below w.heap.size w W
def hasB(st:ByteArray) (c:UInt8):Bool:=st.data.toList.contains c
theorem mI(p:ByteArray→Bool)(l:List ByteArray)(k:Nat)(x:ByteArray)(a:l[k]?=Y x)(h:(l.take k).any p=wj):(l.take (k+1)).any p=p x:=by rw[FY,a,List.any_append,h];simp
theorem qC(p:ByteArray→Bool)(l:List ByteArray)(k:Nat)(x:ByteArray)(a:l[k]?=Y x)(h:p x=wg):l.any p=true:=
 List.any_eq_true.2 ⟨x,FM a,h⟩
theorem below_drewN{B:Nat}{a w:vk}(h:Below B a w)(n:Nat):Below B a (w.drewN n):=⟨h.os,h.tape,h.output,h.size,h.block⟩
theorem EV(s:ByteArray)(a b i:Nat)(h:i<(s.extract a b).size)(c:a+i<s.size):(s.extract a b)[i]=s[a+i]:=by simp only[ByteArray.getElem_eq_getElem_data,ByteArray.data_extract,Array.getElem_extract]
theorem fj(t:ByteArray)(h:0<t.size):t.toList.isEmpty=false:=by
 rw[FB]
 cases b:t.data.toList with
 | nil =>
  have:t.data.toList.length=0:=by rw[b];rfl
  rw[FQ]at this;have c:t.size=t.data.size:=rfl;omega
 | cons a l=>rfl
theorem cell_new1(w:vk)(v:vn)(t:AR):(w.alloc (ur #[v] t)).cell? ⟨w.heap.size,0,U⟩=Y v:=by
 have h:(w.alloc (ur #[v] t)).heap[w.heap.size]?=Y (ur #[v] t):=qv w _;exact Gb _ _ 0 _ _ _ h
theorem heap_set{w:vk}{g:Nat}{cs:Array vn}{t:AR}(h:w.heap[g]?=Y (ur cs t (0,0)))(i:Nat)(u:vn) :
  (w.setCell ⟨g,i,U⟩ u).heap[g]?=Y (ur (cs.setIfInBounds i u) t (0,0)):=by
 simp[BT,Array.getElem?_modify,h]
theorem gx{a w:vk}{g:Nat}(h:a.grownBy w (Y g))(i:Nat)(u:vn):a.grownBy (w.setCell ⟨g,i,U⟩ u) (Y g):=
 ⟨h.os,h.tape,h.output,by simpa [BT]using h.size,fun j c b=>(Fp w ⟨g,i,U⟩ u j (fun e=>b (by rw[e]))).trans (h.block j c b)⟩
theorem grown_drewN{a w:vk}{row:Option Nat}(h:a.grownBy w row)(n:Nat):a.grownBy (w.drewN n) row:=⟨h.os,h.tape,h.output,h.size,h.block⟩
theorem aa{B i:Nat}{w w':vk}{o:Option Obj}(a:Below B w w')(h:w.heap[i]?=o)(b:i<B):w'.heap[i]?=o:=(a.block i b).trans h
def aA(p:UInt8→Bool) (s:ByteArray) (k:Nat):Nat:=k+((s.data.toList.drop k).takeWhile p).length
theorem drop_cons(s:ByteArray)(k:Nat)(h:k<s.size):s.data.toList.drop k=s[k]::s.data.toList.drop (k+1):=by rw[List.drop_eq_getElem_cons (by simpa using h)];rfl
theorem drop_end(s:ByteArray)(k:Nat)(h:s.size≤k):s.data.toList.drop k=[]:=List.drop_eq_nil_of_le (by simpa using h)
theorem gC(p:UInt8→Bool)(s:ByteArray)(k:Nat)(h:k<s.size)(a:p s[k]=wg):aA p s (k+1)=aA p s k:=by unfold aA;rw[drop_cons s k h];simp[a];omega
theorem sw(p:UInt8→Bool)(s:ByteArray)(k:Nat)(h:k<s.size)(a:p s[k]=wj):aA p s k=k:=by unfold aA;rw[drop_cons s k h];simp[a]
theorem l9(p:UInt8→Bool)(s:ByteArray)(k:Nat)(h:s.size≤k):aA p s k=k:=by unfold aA;rw[drop_end s k h];rfl
theorem fh(p:UInt8→Bool)(s:ByteArray)(k:Nat):k≤aA p s k:=by unfold aA;omega
theorem dq(p:UInt8→Bool)(s:ByteArray)(k:Nat)(h:k≤s.size):aA p s k≤s.size:=by
 unfold aA;have a:=(List.takeWhile_sublist p (l:=s.data.toList.drop k)).length_le;have b:(s.data.toList.drop k).length=s.size-k:=by simp
 omega
theorem grown_below{a w w':vk}{row:Option Nat}(b:a.grownBy w row)(c:Gc w w'):a.grownBy w' row:=
 ⟨c.os.trans b.os,c.tape.trans b.tape,c.output.trans b.output,Fu b.size c.size,fun i e d=>(c.block i (Ft e b.size)).trans (b.block i e d)⟩
theorem aQ{a w:vk}(h:Gc a w)(row:Option Nat):a.grownBy w row:=⟨h.os,h.tape,h.output,h.size,fun i b _=>h.block i b⟩
theorem aW{w w':vk}{i:Nat}{row:Option Nat}{o:Obj}(b:w.grownBy w' row)(h:w.heap[i]?=Y o)(a:Y i≠row):w'.heap[i]?=Y o:=
 (b.block i (Fi.1 h).1 a).trans h
theorem ku{w:vk}{i j:Nat}{cs b:Array vn}{t u:AR}(h:w.heap[i]?=Y (ur cs t (0,0)))(k:w.heap[j]?=Y (ur b u (0,0)))(a:t≠u):i≠j:=by
 rintro rfl;rw[h]at k;injection k with k
 injection k with _ k
 exact a k
theorem cells3{w:vk}{T:Nat}{a b c:vn}{t:AR}(h:w.heap[T]?=Y (ur #[a,b,c] t (0,0))) :
  w.cell? ⟨T,0,U⟩=Y a∧w.cell? ⟨T,1,U⟩=Y b∧w.cell? ⟨T,2,U⟩=Y c∧w.frozen? ⟨T,0,U⟩=wj∧w.frozen? ⟨T,1,U⟩=wj∧w.frozen? ⟨T,2,U⟩=false:=by
 simp[B3,World.frozen?,h]
theorem dK{a w:vk}{row:Option Nat}(h:a.grownBy w row){T:Nat}(d:a.heap.size≤T)(i:Nat)(u:vn):a.grownBy (w.setCell ⟨T,i,U⟩ u) row:=
 ⟨h.os,h.tape,h.output,by simpa [BT]using h.size,fun j c b=>(Fp w ⟨T,i,U⟩ u j (by show j≠T;omega)).trans (h.block j c b)⟩
theorem aJ{w:vk}{g T:Nat}{o:Obj}(h:w.heap[g]?=Y o)(a:T≠g)(i:Nat)(u:vn):(w.setCell ⟨T,i,U⟩ u).heap[g]?=Y o:=
 (Fp w ⟨T,i,U⟩ u g (fun e=>a e.symm)).trans h
theorem il(w:vk)(o:Obj)(i:Nat):(w.alloc o).heap[i]?=if i=w.heap.size then Y o else w.heap[i]?:=by
 show (w.heap.push o)[i]?=_
 rw[Array.getElem?_push]
theorem mG(w:vk)(l:List vn)(t:AR):∀(j:Nat) (u:vn),l[j]?=Y u→(w.alloc (ur l.toArray t)).cell? ((⟨w.heap.size,0,U⟩:z6).add j)=Y u:=by
 intro j u h;have b:(w.alloc (ur l.toArray t)).heap[w.heap.size]?=Y (ur l.toArray t (0,0)):=qv w _;have e:((⟨w.heap.size,0,U⟩:z6).add j)=⟨w.heap.size,j,U⟩:=by
  unfold Addr.add
  by_cases a:j=0
  ·rw[r6 a,a]
  ·rw[r5 a];simp
 rw[e,Gb _ _ _ _ _ _ b]
 simpa using h
theorem bM{w:vk}{T:Nat}{cs:Array vn}{t:AR}(h:w.heap[T]?=Y (ur cs t (0,0)))(i:Nat):w.frozen? ⟨T,i,U⟩=false:=by simp[World.frozen?,h]
theorem ownsRow_base{w:vk}{b b':Nat}{e:AR}{size n:Nat}{v:vn}{xs:List vn}(h:w.ownsRow b e size v n xs)(c:b'≤b):w.ownsRow b' e size v n xs:=by
 obtain⟨d,a⟩:=h;refine⟨d,?_⟩;rcases a with a|⟨g,cap,cur,f,i,r⟩
 ·exact wP a
 ·exact xj ⟨g,cap,cur,f,Fu c i,r⟩
theorem ah{a b:Bool}(h:a=b):xv (xS a)=xv (xS b):=by rw[h]
theorem ownsRow_below{w w':vk}{b:Nat}{e:AR}{size n:Nat}{v:vn}{xs:List vn}(h:w.ownsRow b e size v n xs)(a:Gc w w'):w'.ownsRow b e size v n xs:=by
 refine h.kept (aQ a U) ?_
 cases c:v.ownBlock with
 | none=>exact wP V
 | some k=>exact xj (by simp)
theorem Aa(w:vk)(o:Obj)(l:List vn)(t:AR):∀(j:Nat) (u:vn),l[j]?=Y u→((w.alloc o).alloc (ur l.toArray t)).cell? ((⟨w.heap.size+1,0,U⟩:z6).add j)=Y u:=by
 have h:=mG (w.alloc o) l t;rw[r9]at h;exact h
section
variable {P:Program} (w:vk)
theorem ju(base:Nat)(t ty e:AR)(i:TypeInfo)(z:vn)(size bytes:Nat)(E:P.underlying t=Y (.slice e))(F:P.info? e=Y i)(N:i.zero=Y z)
  (o:i.size=size) (G:i.bytes=bytes) (H:z.cells.size=size) (R:0<size)
  (v:vn) (n:Nat) (xs:List vn) (b:w.ownsRow base e size v n xs)
  (a:z6) (m c:Nat) (news:List vn) (s:news.length=m*size) (d:∀j u,news[j]?=Y u→w.cell? (a.add j)=Y u) (S:∀u∈news,u.oneCell'=wg)
  (x:n+m≤maxLen) (h:(n+m)*bytes≤140737488355328) (p:base≤w.heap.size) (hm:0<m) :
  ∃C w',(Builtin.append_ #[t,t] ty #[v,A (Y a) m c]).run P w=.ok C w'∧w'.ownsRow base e size C (n+m) (xs++news)∧
   ((∃g cap,v=A (Y ⟨g,0,U⟩) n cap∧C=A (Y ⟨g,0,U⟩) (n+m) cap∧w.grownBy w' (Y g))∨
    (∃cap,C=A (Y ⟨w.heap.size,0,U⟩) (n+m) cap∧Gc w w')):=by
 subst o;subst G;have D:n+m≤9223372036854775807:=by simp only[maxLen]at x;omega
 have hlen:(xs++news).length=(n+m)*i.size:=by rw[FC,b.1,s,Nat.add_mul]
 have grown:∀(old:Nat),old<n+m→
   (w.drew.alloc (ur (xs.toArray++news.toArray++Builtin.zeroCells z.cells (grownCap w (n+m) old e-(n+m))) e)).ownsRow base e i.size
    (A (Y ⟨w.heap.size,0,U⟩) (n+m) (grownCap w (n+m) old e)) (n+m) (xs++news)∧
   Gc w (w.drew.alloc (ur (xs.toArray++news.toArray++Builtin.zeroCells z.cells (grownCap w (n+m) old e-(n+m))) e)):=by
  intro old ho;have K:=grownCap_ge w (n+m) old e;have q:grownCap w (n+m) old e≤maxLen:=grownCap_le_maxLen w (n+m) old e x;refine⟨⟨hlen,xj ⟨w.heap.size,_,_,V,p,qv w.drew _,K,q,?_,?_⟩⟩,(Fl _ w).drew.alloc (Fj _) _⟩
  ·simp only[Array.size_append,List.size_toArray,size_zeroCells,H,b.1,s,←Nat.add_mul]
   congr 1
   omega
  ·simp only[Array.toList_append,List.append_assoc];rw[←List.append_assoc,←hlen];exact List.take_left
 rcases b.2 with ⟨rfl,rfl⟩|⟨g,cap,cur,rfl,L,Q,T,q,M,r⟩
 ·have W:xs=[]:=FP (by simpa using b.1);subst W;have y:=run_append_nil (P:=P) w t ty e i z E F N a m c news s d (by omega) (by omega) (by have X:=h;simp only[Nat.zero_add]at X;omega);have l:=grown 0 (by omega);simp only[Nat.zero_add,List.nil_append,Array.empty_append]at l ⊢;exact⟨_,_,y,l.1,xj ⟨_,V,l.2⟩⟩
 ·by_cases f:n+m≤cap
  ·have B:n*i.size+news.length≤cur.size:=by rw[s,M,←Nat.add_mul];exact Nat.mul_le_mul_right _ f
   have y:=run_append_room (P:=P) w t ty e i E F g n cap cur Q a m c news s d S f B;refine⟨_,_,y,⟨hlen,xj ⟨g,cap,_,V,L,setRow_heap w g cur _ e _ Q,f,q,?_,?_⟩⟩,wP ⟨g,cap,V,V,⟨V,V,V,by simp,fun k _ hk=>setRow_other w g k _ (fun e=>hk (by simp[e]))⟩⟩⟩
   ·simp only[List.size_toArray,FC,List.length_take,List.length_drop,FQ];omega
   ·rw[r,←hlen];exact List.take_left
  ·have holds:∀j u,xs[j]?=Y u→w.cell? ((⟨g,0,U⟩:z6).add j)=Y u:=b.cells (g:=g) V;have y:=run_append_grow (P:=P) w t ty e i z E F N ⟨g,0,U⟩ n cap xs b.1 holds a m c news s d (by omega) (by omega) (growslice_fits (by omega) h);have l:=grown cap (by omega);exact⟨_,_,y,l.1,xj ⟨_,V,l.2⟩⟩
theorem mW{ops:Array Oper}{rest:List Oper}{o:Oper}{a:Act}{Q:Exit→Act→vk→Prop}(q:o.guard=U)(s x:Operand)(t:AR)
  (E:o.op=.call { callee:=.builtin .append,args:=#[s,x],argTypes:=#[t,t] })
  (base:Nat) (e:AR) (i:TypeInfo) (z:vn) (size bytes:Nat) (F:P.underlying t=Y (.slice e)) (G:P.info? e=Y i) (H:i.zero=Y z)
  (d:i.size=size) (r:i.bytes=bytes) (y:z.cells.size=size) (B:0<size)
  (v:vn) (n:Nat) (xs:List vn) (L:a.eval s=v) (p:w.ownsRow base e size v n xs)
  (C:z6) (m c:Nat) (news:List vn) (M:a.eval x=A (Y C) m c) (N:news.length=m*size) (f:∀j u,news[j]?=Y u→w.cell? (C.add j)=Y u) (R:∀u∈news,u.oneCell'=wg)
  (D:n+m≤maxLen) (b:(n+m)*bytes≤140737488355328) (k:base≤w.heap.size) (hm:0<m)
  (h:∀l w',w'.ownsRow base e size l (n+m) (xs++news)→
   ((∃g cap,v=A (Y ⟨g,0,U⟩) n cap∧l=A (Y ⟨g,0,U⟩) (n+m) cap∧w.grownBy w' (Y g))∨(∃cap,l=A (Y ⟨w.heap.size,0,U⟩) (n+m) cap∧Gc w w'))→
   wpList P ops Q rest (a.put o.dst l) w') :
  wpList P ops Q (o::rest) a w:=by
 refine wpList_plain q fun K S=>?_
 obtain⟨l,w',T,W,X⟩:=ju (P:=P) w base t o.type e i z size bytes F G H d r y B v n xs p C m c news N f R D b k hm;unfold Oper.wp execOp;simp only[E,resolve,invoke,builtin,tv,th,Result.andThen_ok,List.map_toArray,List.map_cons,List.map_nil,L,M,T];exact S _ _ (h l w' W X)
end
structure Chg (F:Nat→Prop) (w w':vk):Prop where
 os:w'.os=w.os
 a:w'.tape=w.tape
 c:w'.output=w.output
 h:w.heap.size≤w'.heap.size
 q:∀b,b<w.heap.size→¬F b→w'.heap[b]?=w.heap[b]?
theorem Chg.refl(F:Nat→Prop)(w:vk):Chg F w w:=⟨V,V,V,Fj _,fun _ _ _=>rfl⟩
theorem Chg.b{F:Nat→Prop}{a b c:vk}(h:Chg F a b)(k:Chg F b c):Chg F a c:=
 ⟨k.os.trans h.os,k.a.trans h.a,k.c.trans h.c,Fu h.h k.h,fun i d e=>(k.q i (Ft d h.h) e).trans (h.q i d e)⟩
theorem Chg.K{F G:Nat→Prop}{a b:vk}(h:Chg F a b)(c:∀i,F i→G i):Chg G a b:=⟨h.os,h.a,h.c,h.h,fun i d e=>h.q i d fun k=>e (c i k)⟩
theorem Chg.f{F:Nat→Prop}{a b:vk}(h:Gc a b):Chg F a b:=⟨h.os,h.tape,h.output,h.size,fun i c _=>h.block i c⟩
theorem Chg.t{F:Nat→Prop}{a b:vk}(h:Chg F a b){p:z6}(c:F p.block∨a.heap.size≤p.block)(v:vn):Chg F a (b.setCell p v):=
 ⟨h.os,h.a,h.c,by simpa [BT]using h.h,fun i e d=>(heap_setCell_other _ _ _ _ (by rintro rfl;rcases c with c|c;exact d c;omega)).trans (h.q i e d)⟩
theorem eO{w:vk}{base n size:Nat}{e:AR}{v:vn}{xs:List vn}(h:w.ownsRow base e size v n xs):∀g,v.ownBlock=Y g→base≤g∧g<w.heap.size:=by
 intro g a;rcases h.2 with ⟨rfl,_⟩|⟨d,cap,cur,rfl,b,c,_⟩
 ·cases a
 ·injection a with a
  subst a;exact⟨b,(Fi.1 c).1⟩
theorem dU{w w':vk}{B:Nat}{e:AR}{z n:Nat}{v:vn}{xs:List vn}(h:w.ownsRow B e z v n xs)(a:∀g,v.ownBlock=Y g→w'.heap[g]?=w.heap[g]?):w'.ownsRow B e z v n xs:=by
 refine⟨h.1,?_⟩;rcases h.2 with b|⟨g,cap,cur,rfl,c,d,rest⟩
 ·exact wP b
 ·exact xj ⟨g,cap,cur,V,c,(a g V).trans d,rest⟩
theorem db{w w':vk}{B:Nat}{e:AR}{z n:Nat}{v:vn}{xs:List vn}(h:w.ownsRow B e z v n xs)(a:Gc w w'):w'.ownsRow B e z v n xs:=
 dU h fun g b=>a.block g (h.lt g b).2
theorem cells5{w:vk}{T:Nat}{a b c d e:vn}{t:AR}(h:w.heap[T]?=Y (ur #[a,b,c,d,e] t (0,0))) :
  w.cell? ⟨T,0,U⟩=Y a∧w.cell? ⟨T,1,U⟩=Y b∧w.cell? ⟨T,2,U⟩=Y c∧w.cell? ⟨T,3,U⟩=Y d∧w.cell? ⟨T,4,U⟩=Y e:=by
 simp[B3,h]
theorem aw(w:vk)(a b:Obj):((w.alloc a).alloc b).heap[w.heap.size]?=Y a∧((w.alloc a).alloc b).heap[w.heap.size+1]?=Y b∧True:=
 ⟨by rw[il,r9,r5 (by omega),il,r6 V],by rw[il,r9,r6 V],trivial⟩
theorem ac{w:vk}{T:Nat}{cs:Array vn}{t:AR}(h:w.heap[T]?=Y (ur cs t (0,0)))(i:Nat):w.frozen? ⟨T,i,U⟩=false:=by simp[World.frozen?,h]
theorem tQ(Q k:Nat)(s:ByteArray)(w:vk)(a:w.cell? ⟨Q,0,U⟩=Y (J s))(b:w.cell? ⟨Q,1,U⟩=Y (I Z k))(c:k≤s.size)(d:s.size≤16384) :
  wB wq 157 #[wF (Y ⟨Q,0,U⟩)] w fun e w'=>e=xv (I Z ((s.size:Int)-k))∧∃n,w'=w.drewN n:=by
 go_enter Tryz.func157,Tryz.ntmps157
 go_wp2
 go_quiet (fail)
 go_wp2
 ·go_ret;refine⟨?_,_,V⟩;have:s.size≤k:=by assumption
  have e:(s.size:Int)-k=0:=by omega
  rw[e];rfl
 ·go_quiet (fail)
  go_wp2
  go_ret;exact⟨V,_,World.drewN_drewN ..⟩
theorem qn(R Q k:Nat)(s:ByteArray)(w:vk)(f:w.cell? ⟨R,0,U⟩=Y (wF (Y ⟨Q,0,U⟩)))(g:w.cell? ⟨R,1,U⟩=Y (J s))(a:w.cell? ⟨Q,0,U⟩=Y (J s))(b:w.cell? ⟨Q,1,U⟩=Y (I Z k))(c:k≤s.size)(d:s.size≤16384) :
  wB wq 229 #[wF (Y ⟨R,0,U⟩)] w fun e w'=>e=xv (I Z k)∧∃n,w'=w.drewN n:=by
 go_enter Tryz.func229,Tryz.ntmps229
 go_wp2
 go_quiet ((go_at_call 157;refine Calls.quiet_of (tQ Q k s _ a b c d)))
 go_wp2
 go_ret;refine⟨?_,_,V⟩;have e:(s.size:Int)-(↑s.size - ↑k)=k:=by omega
 simp;omega
theorem Df(R Q k:Nat)(s:ByteArray)(w:vk)(a:w.cell? ⟨R,0,U⟩=Y (wF (Y ⟨Q,0,U⟩)))(b:w.cell? ⟨R,1,U⟩=Y (J s))(c:w.cell? ⟨Q,0,U⟩=Y (J s))(d:w.cell? ⟨Q,1,U⟩=Y (I Z k))(f:k≤s.size)(g:s.size≤16384) :
  wB wq 225 #[wF (Y ⟨R,0,U⟩)] w fun e w'=>e=xv (J (s.extract k s.size))∧∃n,w'=w.drewN n:=by
 go_enter Tryz.func225,Tryz.ntmps225
 go_wp2
 go_quiet ((go_at_call 229;refine Calls.quiet_of (qn R Q k s _ a b c d f g)))
 go_wp2
 go_ret;refine⟨V,_,V⟩
theorem sZ(l:List UInt8)(c:UInt8):wo (0≤Lib.indexByte l c)=l.contains c:=by
 induction l with
 | nil=>rfl
 | cons a l d =>
  have j:=Lib.indexByte_ge l c;simp only[Lib.indexByte,List.contains_cons,←d]
  by_cases h:a=c
  ·subst h;simp
  ·have f:(a==c)=false:=by simpa using h
   have g:(c==a)=false:=by simpa using fun e=>h e.symm
   simp only[f,g,FO,sn,Bool.false_or]
   by_cases b:Lib.indexByte l c=-1
   ·simp[b]
   ·have i:(Lib.indexByte l c == -1)=false:=by simpa using b
    simp only[i,FO,sn];apply tk.2;omega
theorem kg(st:ByteArray)(c:UInt8):wo (0≤Lib.indexByte st.data.toList c)=hasB st c:=sZ _ _
theorem ii(st:ByteArray)(c:UInt8)(w:vk) :
  wB wq 206 #[J st,I O (c.toNat:Int)] w fun e w'=>(e=xv (I Z (Lib.indexByte st.data.toList c)))∧w=w':=
 (Tryz.strings_IndexByte st (c.toNat:Int) w).mono fun e w' ⟨a,b⟩=>⟨by simpa using a,b.symm⟩
theorem uu(T:Nat)(st t:ByteArray)(w:vk)(b:w.cell? ⟨T,0,U⟩=Y (J t))(c:0<t.size) :
  wB wq 256 #[J st,wF (Y ⟨T,0,U⟩)] w fun e w'=>e=xv (xS (hasB st t[0]))∧w=w':=by
 have a:=Hd (kg st t[0])
 go_enter Tryz.func256,Tryz.ntmps256
 go_wp2_with (go_at_call 206;refine (ii _ _ _).mono ?_;rintro e w' ⟨rfl,rfl⟩)
 go_ret;exact⟨by rw[←a.o];rfl,V⟩
theorem Cv(B T n cap:Nat)(a:List ByteArray)(t:ByteArray)(w:vk)(hB:w.heap[B]?=Y (ur (a.map J).toArray 9 (0,0)))(h:a.length=n)(r:n≤100)
  (j:w.cell? ⟨T,0,U⟩=Y (J t)) (l:0<t.size) :
  wB wq 268 #[A (Y ⟨B,0,U⟩) n cap,Bk (.func 256) #[] #[wF (Y ⟨T,0,U⟩)]] w fun e w'=>(∃i:Int,e=xv (I Z i)∧wo (0≤i)=a.any (hasB · t[0]))∧w=w':=by
 have b:∀i,i<n→∃st,a[i]?=Y st∧w.cell? ⟨B,i,U⟩=Y (J st):=by
  intro i x;refine⟨a[i]'(by omega),Fq (by omega),?_⟩;simp[B3,hB,List.getElem?_eq_getElem (show i<a.length by omega)]
 obtain⟨s,u⟩:=zz2 b h;clear b hB h
 go_enter Tryz.func268,Tryz.ntmps268
 go_wp2
 go_loop [8,5] (fun i _=>∃k:Nat,k≤n∧i=I Z k∧(a.take k).any (hasB · t[0])=wj) (fun i _=>n-(intOf i).toNat)
 case atStart=>exact⟨0,FA _,V,V⟩
 case round =>
  obtain⟨k,y,rfl,c⟩:=hrel;have m:=Hd c;clear c
  by_cases f:k<n
  ·obtain⟨st,d,v⟩:=s.o k f;have p:=Hd d;clear d
   cases q:hasB st t[0]
   ·have g:=Hd q;go_wp2_with (go_at_call 256;refine (uu T _ t _ j l).mono ?_;rintro e w' ⟨rfl,rfl⟩)
    go_round
    case rel=>exact⟨k+1,by omega,by go_num,by rw[mI _ _ _ _ p.o m.o];exact g.o⟩
    case measure=>simp[intOf];omega
   ·have g:=Hd q;go_wp2_with (go_at_call 256;refine (uu T _ t _ j l).mono ?_;rintro e w' ⟨rfl,rfl⟩)
    go_ret;refine⟨⟨k,V,?_⟩,V⟩;rw[qC (hasB · t[0]) _ _ _ p.o g.o];simp
  ·go_wp2
   go_ret;refine⟨⟨-1,V,?_⟩,V⟩;have e:a.take k=a:=FH (by rw[u.o];omega);have:=m.o;rw[e]at this;rw[this];rfl
theorem ta(B T n cap:Nat)(a:List ByteArray)(t:ByteArray)(w:vk)(hB:w.heap[B]?=Y (ur (a.map J).toArray 9 (0,0)))(c:a.length=n)(b:n≤100)
  (f:w.cell? ⟨T,0,U⟩=Y (J t)) (g:0<t.size) :
  wB wq 255 #[A (Y ⟨B,0,U⟩) n cap,Bk (.func 256) #[] #[wF (Y ⟨T,0,U⟩)]] w fun e w'=>e=xv (xS (a.any (hasB · t[0])))∧w=w':=by
 have h:=Hd (Cv B T n cap a t w hB c b f g);clear c hB
 go_enter Tryz.func255,Tryz.ntmps255
 go_wp2_with (go_at_call 268;refine Fx h.o ?_;rintro e w' ⟨⟨i,rfl,d⟩,rfl⟩;have j:=Hd d;clear d)
 go_ret;exact⟨by rw[←j.o];rfl,V⟩
def Rdr(w:vk) (R Q:Nat) (s:ByteArray) (k:Nat):Prop:=
 w.heap[R]?=Y (ur #[wF (Y ⟨Q,0,U⟩),J s] 190 (0,0))∧∃p:Int,w.heap[Q]?=Y (ur #[J s,I Z k,I Z p] 247 (0,0))
theorem Rdr.ne{w:vk}{R Q:Nat}{s:ByteArray}{k:Nat}(h:Rdr w R Q s k):R≠Q:=by
 obtain⟨b,p,a⟩:=h;rintro rfl;rw[b]at a;simp at a
theorem Rdr.y{w:vk}{R Q:Nat}{s:ByteArray}{k:Nat}(h:Rdr w R Q s k) :
  w.cell? ⟨R,0,U⟩=Y (wF (Y ⟨Q,0,U⟩))∧w.cell? ⟨R,1,U⟩=Y (J s)∧w.cell? ⟨Q,0,U⟩=Y (J s)∧w.cell? ⟨Q,1,U⟩=Y (I Z k)∧
  (∃p:Int,w.cell? ⟨Q,2,U⟩=Y (I Z p))∧w.frozen? ⟨Q,1,U⟩=wj∧w.frozen? ⟨Q,2,U⟩=wj∧R<w.heap.size∧Q<w.heap.size:=by
 obtain⟨d,p,c⟩:=h;have a:=(Fi.1 d).1;have b:=(Fi.1 c).1;exact⟨by simp[B3,d],by simp[B3,d],by simp[B3,c],by simp[B3,c],⟨p,by simp[B3,c]⟩,by simp[World.frozen?,c],by simp[World.frozen?,c],a,b⟩
theorem Rdr.z{w w':vk}{R Q:Nat}{s:ByteArray}{k:Nat}(h:Rdr w R Q s k)(c:Gc w w'):Rdr w' R Q s k:=by
 obtain⟨_,_,_,_,_,_,_,a,b⟩:=h.y;obtain⟨d,p,e⟩:=h;exact⟨by rw[c.block R a];exact d,p,by rw[c.block Q b];exact e⟩
theorem un(R Q k:Nat)(s:ByteArray)(w:vk)(h:Rdr w R Q s k)(a:k≤s.size)(b:s.size≤16384) :
  wB wq 225 #[wF (Y ⟨R,0,U⟩)] w fun e w'=>e=xv (J (s.extract k s.size))∧Gc w w':=by
 obtain⟨c,d,f,g,⟨p,i⟩,f1,f2,j,l⟩:=h.y;refine (Df R Q k s w c d f g a b).mono ?_;rintro e w' ⟨rfl,n,rfl⟩;exact⟨V,below_drewN (Fl _ _) n⟩
theorem AK(R Q k:Nat)(s:ByteArray)(w:vk)(h:Rdr w R Q s k)(c:k=s.size)(d:s.size≤16384)(f:vn) :
  wB wq 224 #[wF (Y ⟨R,0,U⟩),f] w fun e w'=>e=xv (xS wj)∧Gc w w':=by
 have a:(s.extract k s.size).toList=[]:=by subst c;simp
 have g:(s.extract k s.size).toList.isEmpty=true:=by simp[a]
 have i:=Hd (un R Q k s w h (by omega) d);clear h a;generalize s.extract k s.size=t at *
 go_enter Tryz.func224,Tryz.ntmps224
 go_wp2_with (first|(go_at_call 225;refine Fx i.o ?_;rintro e w' ⟨rfl,b⟩))
 go_ret;exact⟨V,b.alloc b.size _⟩
theorem xn(R Q k:Nat)(s:ByteArray)(w:vk)(h:Rdr w R Q s k)(v:k<s.size)(l:s.size≤16384)(B n cap:Nat)(a:List ByteArray)(hB:w.heap[B]?=Y (ur (a.map J).toArray 9 (0,0)))(j:a.length=n)(d:n≤100) :
  wB wq 224 #[wF (Y ⟨R,0,U⟩),A (Y ⟨B,0,U⟩) n cap] w fun e w'=>e=xv (xS (a.any (hasB · s[k])))∧Gc w w':=by
 have f:B<w.heap.size:=(Fi.1 hB).1;obtain⟨m,p⟩:=zz2 hB j;have g:(s.extract k s.size).size=s.size-k:=by simp
 have i:0<(s.extract k s.size).size:=by omega
 have b:(s.extract k s.size)[0]=s[k]:=EV s k s.size 0 i (by omega);have q:(s.extract k s.size).toList.isEmpty=false:=fj _ i;have r:=Hd (un R Q k s w h (by omega) l);clear hB j;rw[←b];generalize s.extract k s.size=t at *;clear g b
 go_enter Tryz.func224,Tryz.ntmps224
 go_wp2_with (first
  | (go_at_call 225;refine Fx r.o ?_;rintro e w' ⟨rfl,c⟩)
  | (go_at_call 255;refine (ta B _ n cap a t _ ((Ga _ _ _ (by have:=c.size;omega)).trans (aa c m.o f)) p.o d (cell_new1 _ _ _) i).mono ?_;rintro e u ⟨rfl,rfl⟩))
 go_ret;exact⟨V,c.alloc c.size _⟩
theorem j0(Q k:Nat)(p:Int)(s:ByteArray)(w:vk)(h:w.heap[Q]?=Y (ur #[J s,I Z k,I Z p] 247 (0,0)))(b:k<s.size)(c:s.size≤16384) :
  wB wq 227 #[wF (Y ⟨Q,0,U⟩)] w fun e w'=>e=xv (AJ #[I O (s[k].toNat:Int),.nilIface])∧w.grownBy w' (Y Q)∧w'.heap[Q]?=Y (ur #[J s,I Z (k+1:Nat),I Z (-1)] 247 (0,0)):=by
 have d:w.cell? ⟨Q,0,U⟩=Y (J s):=by simp[B3,h]
 have f:w.cell? ⟨Q,1,U⟩=Y (I Z k):=by simp[B3,h]
 have g:w.cell? ⟨Q,2,U⟩=Y (I Z p):=by simp[B3,h]
 have f1:w.frozen? ⟨Q,1,U⟩=false:=by simp[World.frozen?,h]
 have f2:w.frozen? ⟨Q,2,U⟩=false:=by simp[World.frozen?,h]
 have H:=Hd h;clear h;have a:wo ((s.size:Int)≤k)=false:=by simp;omega
 go_enter Tryz.func227,Tryz.ntmps227
 go_wp2
 go_quiet (fail)
 go_wp2
 go_quiet (fail)
 go_wp2
 go_ret2
 refine⟨V,gx (grown_drewN (gx (sm w _) _ _) _) _ _,?_⟩;rw[heap_set (w:=World.drewN _ _) (heap_set H.o 2 (I Z (-1)))];rfl
def qh(w:vk) (Q:Nat):Nat:=match w.cell? ⟨Q,1,U⟩ with|some (I _ n)=>n.toNat|_=>0
theorem Rdr.pos{w:vk}{R Q:Nat}{s:ByteArray}{k:Nat}(h:Rdr w R Q s k):qh w Q=k:=by
 obtain⟨_,_,_,a,_⟩:=h.y;simp[qh,a]
theorem Rdr.h{w w':vk}{R Q:Nat}{s:ByteArray}{k k':Nat}{p:Int}(h:Rdr w R Q s k)(d:w.grownBy w' (Y Q))(f:w'.heap[Q]?=Y (ur #[J s,I Z k',I Z p] 247 (0,0))):Rdr w' R Q s k':=by
 obtain⟨_,_,_,_,_,_,_,a,b⟩:=h.y;have c:=h.ne;obtain⟨g,p,i⟩:=h;exact⟨(d.block R a (by intro e;injection e with e;exact c e)).trans g,_,f⟩
theorem tJ(R Q k:Nat)(s:ByteArray)(w:vk)(h:Rdr w R Q s k)(a:k≤s.size)(b:s.size≤16384) :
  wB wq 229 #[wF (Y ⟨R,0,U⟩)] w fun e w'=>e=xv (I Z k)∧Gc w w':=by
 obtain⟨c,d,f,g,⟨p,i⟩,f1,f2,j,l⟩:=h.y;refine (qn R Q k s w c d f g a b).mono ?_;rintro e w' ⟨rfl,n,rfl⟩;exact⟨V,below_drewN (Fl _ _) n⟩
theorem Rdr.q{w:vk}{R Q:Nat}{s:ByteArray}{k:Nat}(h:Rdr w R Q s k):∃p:Int,w.heap[Q]?=Y (ur #[J s,I Z k,I Z p] 247 (0,0)):=h.2
theorem take_any(R Q k:Nat)(s:ByteArray)(w:vk)(h:Rdr w R Q s k)(hk:k≤s.size)(m:s.size≤16384)(B n cap:Nat)(a:List ByteArray)(hB:w.heap[B]?=Y (ur (a.map J).toArray 9 (0,0)))(hn:a.length=n)(T:n≤100) :
  wB wq 228 #[wF (Y ⟨R,0,U⟩),A (Y ⟨B,0,U⟩) n cap] w fun e w'=>e=xv (J (s.extract k (aA (fun c=>a.any (hasB · c)) s k)))∧w.grownBy w' (Y Q)∧Rdr w' R Q s (aA (fun c=>a.any (hasB · c)) s k):=by
 have W:Y B≠Y Q:=by
  obtain⟨p,hq⟩:=h.q;intro e;injection e with e
  exact ku hB hq (by decide) e
 obtain⟨HB,HN⟩:=zz2 hB hn;clear hB hn
 go_enter Tryz.func228,Tryz.ntmps228
 go_wp2_with (first
  | (go_at_call 229;refine (tJ R Q k s _ h hk m).mono ?_;rintro e w1 ⟨rfl,g⟩))
 have t:=h.z g
 go_loopw [16] (fun _ wr=>∃j,k≤j∧j≤s.size∧aA (fun c=>a.any (hasB · c)) s j=aA (fun c=>a.any (hasB · c)) s k∧Rdr wr R Q s j∧w.grownBy wr (Y Q)) (fun _ wr=>s.size-qh wr Q)
 case atStart=>exact⟨k,Fj _,hk,V,t,aQ g _⟩
 case round =>
  obtain⟨j,ak,u,v,f,G⟩:=hrel;obtain⟨X,ad⟩:=zz2 v (aW G HB.o W);clear v g t
  by_cases H:j<s.size
  ·have K:=Hd (fun (x:Bool) (hx:(a.any (hasB · s[j]))=x)=>(xn R Q j s wr f H m B n cap a ad.o HN.o T).mono (R':=fun e w'=>e=xv (xS x)∧Gc wr w') (fun e w' hh=>by rw[←hx];exact hh))
   cases r:a.any (hasB · s[j])
   ·obtain⟨HP,y⟩:=zz2 r (K.o _ r);clear K r
    go_wp2_with (first
     | (go_at_call 224;refine Fx y.o ?_;rintro e w2 ⟨rfl,b⟩))
    obtain⟨L,M,N,S,⟨p,q2⟩,f1,f2,z,C⟩:=(f.z b).y
    go_quiet ((go_at_call 229;refine Calls.quiet_of (qn R Q j s _ L M N S u m)))
    go_wp2
    go_ret;have e:aA (fun c=>a.any (hasB · c)) s k=j:=by rw[←X.o];exact sw _ s j H HP.o
    rw[e];exact⟨V,grown_drewN (grown_below G b) _,f.z (below_drewN b _)⟩
   ·obtain⟨HP,y⟩:=zz2 r (K.o _ r);clear K r
    go_wp2_with (first
     | (go_at_call 224;refine Fx y.o ?_;rintro e w2 ⟨rfl,b⟩;have d:=f.z b;obtain⟨L,M,N,S,⟨p,q2⟩,f1,f2,z,C⟩:=d.y;obtain⟨p',D⟩:=d.q;have af:=Hd D;clear D)
     | (go_at_call 227;refine (j0 Q j _ s _ af.o H m).mono ?_;rintro e w3 ⟨rfl,i,E⟩;have F:=Hd E;clear E))
    refine⟨⟨j+1,by omega,by omega,?_,d.h i F.o,ss (grown_below G b) i⟩,?_⟩
    ·rw[←X.o];exact gC _ s j H HP.o
    ·rw[(d.h i F.o).pos,f.pos];omega
  ·have l:j=s.size:=by omega
   have HJ:=Hd l;have y:=Hd (AK R Q j s wr f l m (A (Y ⟨B,0,U⟩) n cap));clear l
   go_wp2_with (first
    | (go_at_call 224;refine Fx y.o ?_;rintro e w2 ⟨rfl,b⟩))
   obtain⟨L,M,N,S,⟨p,q2⟩,f1,f2,z,C⟩:=(f.z b).y
   go_quiet ((go_at_call 229;refine Calls.quiet_of (qn R Q j s _ L M N S u m)))
   go_wp2
   go_ret;have e:aA (fun c=>a.any (hasB · c)) s k=j:=by rw[←X.o];exact l9 _ s j (by omega)
   rw[e];exact⟨V,grown_drewN (grown_below G b) _,f.z (below_drewN b _)⟩
theorem Rdr.b{w:vk}{R Q:Nat}{s:ByteArray}{k:Nat}(h:Rdr w R Q s k){T i:Nat}(u:vn)(a:T≠R)(b:T≠Q):Rdr (w.setCell ⟨T,i,U⟩ u) R Q s k:=by
 obtain⟨c,p,d⟩:=h;exact⟨aJ c a _ _,p,aJ d b _ _⟩
theorem Rdr.move{w w':vk}{R Q:Nat}{s:ByteArray}{k:Nat}{row:Option Nat}(h:Rdr w R Q s k)(a:w.grownBy w' row)(b:Y R≠row)(c:Y Q≠row):Rdr w' R Q s k:=by
 obtain⟨d,p,e⟩:=h;exact⟨aW a d b,p,aW a e c⟩
theorem qo(l:List UInt8)(c:UInt8):Lib.indexByte l c=if l.contains c then ((l.takeWhile (· != c)).length:Int) else -1:=by
 induction l with
 | nil=>rfl
 | cons a l d =>
  simp only[Lib.indexByte,List.contains_cons,d]
  by_cases h:a=c
  ·subst h;simp
  ·have f:(a==c)=false:=by simpa using h
   have g:(c==a)=false:=by simpa using fun e=>h e.symm
   have i:(a != c)=true:=by simpa using h
   simp only[f,g,FO,sn,Bool.false_or,List.takeWhile_cons,i,sy,FU]
   by_cases b:l.contains c
   ·simp only[b,sy];rw[r5 (by simp)];omega
   ·simp only[b];simp
theorem zB(l:List UInt8)(c:UInt8)(h:l.contains c=wj):l.takeWhile (· != c)=l:=by
 induction l with
 | nil=>rfl
 | cons a l b =>
  simp only[List.contains_cons,Bool.or_eq_false_iff]at h;have d:(a != c)=true:=by
   have:=h.1;simp only[bne_iff_ne];rintro rfl;simp at this
  rw[List.takeWhile_cons,r6 d,b h.2]
theorem Cx(l:List UInt8)(c:UInt8)(h:l.contains c=wg):(l.takeWhile (· != c)).length<l.length:=by
 induction l with
 | nil=>simp at h
 | cons a l b =>
  by_cases e:a=c
  ·subst e;simp
  ·have d:(a != c)=true:=by simpa using e
   rw[List.takeWhile_cons,r6 d];have f:l.contains c=true:=by
    simp only[List.contains_cons,Bool.or_eq_true]at h;rcases h with h|h
    ·exact absurd (by simpa using h:c=a).symm e
    ·exact h
   have:=b f;simp;omega
theorem Dd(t:ByteArray)(i:Nat)(w:vk)(a:Lib.indexByte t.data.toList 10=(i:Int))(hle:i<t.size)(k:t.size≤16384) :
  wB wq 257 #[J t,J ⟨#[10]⟩] w fun e w'=>(∃b c,e=xv (AJ #[J (t.extract 0 i),b,c]))∧Gc w w':=by
 have f:=Hd ((Tryz.stringslite_Index_one t 10 w).mono (R':=fun e w'=>e=xv (I Z (i:Int))∧w=w') (fun e w' d=>⟨by rw[←a];exact d.1,d.2.symm⟩));clear a;have g:(0:Int)≤i:=by omega
 have h:(i:Int)≤t.size:=by omega
 have j:(i:Int)+1≤t.size:=by omega
 have l:(ByteArray.mk #[10]).size=1:=rfl
 go_enter Tryz.func257,Tryz.ntmps257
 go_wp2_with (first
  | (go_at_call 269;refine Fx f.o ?_;rintro e w' ⟨rfl,rfl⟩))
 go_quiet (fail)
 go_wp2
 go_ret3
 exact⟨⟨_,_,V⟩,below_drewN (Fl _ _) _⟩
theorem Eb(t:ByteArray)(w:vk)(a:Lib.indexByte t.data.toList 10=-1) :
  wB wq 257 #[J t,J ⟨#[10]⟩] w fun e w'=>(∃b c,e=xv (AJ #[J t,b,c]))∧Gc w w':=by
 have f:=Hd ((Tryz.stringslite_Index_one t 10 w).mono (R':=fun e w'=>e=xv (I Z (-1))∧w=w') (fun e w' d=>⟨by rw[←a];exact d.1,d.2.symm⟩));clear a
 go_enter Tryz.func257,Tryz.ntmps257
 go_wp2_with (first
  | (go_at_call 269;refine Fx f.o ?_;rintro e w' ⟨rfl,rfl⟩))
 go_ret3
 exact⟨⟨_,_,V⟩,Fl _ _⟩
theorem DL(t:ByteArray)(w:vk)(i:t.size≤16384) :
  wB wq 226 #[J t,J ⟨#[10]⟩] w fun e w'=>(∃n b c,e=xv (AJ #[J n,b,c])∧n.size=(t.data.toList.takeWhile (· != 10)).length)∧Gc w w':=by
 have g:∀W:vk,wB wq 257 #[J t,J ⟨#[10]⟩] W fun e w'=>(∃n b c,e=xv (AJ #[J n,b,c])∧n.size=(t.data.toList.takeWhile (· != 10)).length)∧Gc W w':=by
  intro W;have d:=qo t.data.toList 10
  by_cases f:t.data.toList.contains 10
  ·rw[r6 f]at d;have j:(t.data.toList.takeWhile (· != 10)).length<t.size:=by simpa using Cx _ _ f
   refine (Dd t _ W d j i).mono ?_;rintro e w' ⟨⟨b,c,rfl⟩,a⟩;exact⟨⟨_,b,c,V,by simp;omega⟩,a⟩
  ·rw[r5 f]at d;refine (Eb t W d).mono ?_;rintro e w' ⟨⟨b,c,rfl⟩,a⟩;exact⟨⟨_,b,c,V,by rw[zB _ _ (by simpa using f)];simp⟩,a⟩
 have k:=Hd g;clear g
 go_enter Tryz.func226,Tryz.ntmps226
 go_wp2_with (first
  | (go_at_call 257;refine (k.o _).mono ?_;rintro e w' ⟨⟨n,b,c,rfl,h⟩,a⟩;have l:=Hd h;clear h))
 go_ret3
 exact⟨⟨n,b,c,V,l.o⟩,a⟩
def cS(c:UInt8):Bool:=c==9||c==10||c==13||c==32
def gR:Nat→ByteArray→Nat→Nat
 | 0,_,k=>k
 | f+1,s,k=>if h:k<s.size then (if cS s[k] then gR f s (k+1) else if s[k]==35 then gR f s (aA (· != 10) s k) else k) else k
def skip(s:ByteArray) (k:Nat):Nat:=gR (s.size-k) s k
theorem jk(s:ByteArray)(k:Nat)(h:k<s.size)(a:s[k]=35):k+1≤aA (· != 10) s k:=by
 rw[←gC (· != 10) s k h (by rw[a];rfl)];exact fh _ _ _
theorem wm(s:ByteArray):∀(f k:Nat),s.size-k≤f→gR f s k=skip s k:=by
 have H:∀(n f g k:Nat),s.size-k≤n→s.size-k≤f→s.size-k≤g→gR f s k=gR g s k:=by
  intro n
  induction n with
  | zero =>
   intro f g k e _ _;have a:¬k<s.size:=by omega
   cases f<;>cases g<;>simp[gR,a]
  | succ n c =>
   intro f g k e d j
   by_cases a:k<s.size
   ·obtain⟨f,rfl⟩:∃h,f=h+1:=⟨f-1,by omega⟩;obtain⟨g,rfl⟩:∃i,g=i+1:=⟨g-1,by omega⟩;simp only[gR,a,dif_pos]
    split
    ·exact c f g (k+1) (by omega) (by omega) (by omega)
    ·split
     ·rename_i _ b
      have:=jk s k a (by simpa using b);exact c f g _ (by omega) (by omega) (by omega)
     ·rfl
   ·cases f<;>cases g<;>simp[gR,a]
 exact fun f k d=>H _ _ _ k (Fj _) d (Fj _)
theorem kA(s:ByteArray)(k:Nat)(h:k<s.size)(a:cS s[k]=wg):skip s k=skip s (k+1):=by
 conv=>lhs;unfold skip
 rw[show s.size-k=(s.size-(k+1))+1 from by omega];simp only[gR,h,dif_pos,a,sy];rfl
theorem kZ(s:ByteArray)(k:Nat)(h:k<s.size)(a:s[k]=35):skip s k=skip s (aA (· != 10) s k):=by
 have d:=jk s k h a
 conv=>lhs;unfold skip
 rw[show s.size-k=(s.size-(k+1))+1 from by omega];have c:cS s[k]=false:=by rw[a];rfl
 have b:(s[k]==35)=true:=by rw[a];rfl
 simp only[gR,h,dif_pos,c,b,sy,FO,sn];exact wm s _ _ (by omega)
theorem jm(s:ByteArray)(k:Nat)(h:k<s.size)(a:cS s[k]=wj)(b:(s[k]==35)=wj):skip s k=k:=by
 unfold skip;rw[show s.size-k=(s.size-(k+1))+1 from by omega];simp[gR,h,a,b]
theorem eT(s:ByteArray)(k:Nat)(h:s.size≤k):skip s k=k:=by
 unfold skip;rw[show s.size-k=0 from by omega];rfl
theorem sM(s:ByteArray):∀(n k:Nat),s.size-k≤n→skip s (aA cS s k)=skip s k:=by
 intro n
 induction n with
 | zero=>intro k h;rw[l9 _ _ _ (by omega)]
 | succ n c =>
  intro k h
  by_cases a:k<s.size
  ·by_cases b:cS s[k]=wg
   ·rw[←gC _ _ _ a b,c (k+1) (by omega),kA s k a b]
   ·rw[sw _ _ _ a (by simpa using b)]
  ·rw[l9 _ _ _ (by omega)]
theorem kE(s:ByteArray):∀(n k:Nat),s.size-k≤n→k≤skip s k:=by
 intro n
 induction n with
 | zero=>intro k h;rw[eT _ _ (by omega)];exact Fj _
 | succ n c =>
  intro k h
  by_cases a:k<s.size
  ·by_cases d:cS s[k]=wg
   ·rw[kA s k a d];have:=c (k+1) (by omega);omega
   ·by_cases b:s[k]=35
    ·have e:=jk s k a b;rw[kZ s k a b];have:=c (aA (· != 10) s k) (by omega);omega
    ·rw[jm s k a (by simpa using d) (by simpa using b)];exact Fj _
  ·rw[eT _ _ (by omega)];exact Fj _
theorem xe(s:ByteArray):∀(n k:Nat),s.size-k≤n→k≤s.size→skip s k≤s.size:=by
 intro n
 induction n with
 | zero=>intro k h a;rw[eT _ _ (by omega)];exact a
 | succ n c =>
  intro k h hle
  by_cases a:k<s.size
  ·by_cases d:cS s[k]=wg
   ·rw[kA s k a d];exact c (k+1) (by omega) (by omega)
   ·by_cases b:s[k]=35
    ·have e:=jk s k a b;rw[kZ s k a b];exact c _ (by omega) (dq _ _ _ hle)
    ·rw[jm s k a (by simpa using d) (by simpa using b)];exact hle
  ·rw[eT _ _ (by omega)];exact hle
theorem DW(s:ByteArray):∀(n k:Nat),s.size-k≤n→∀h:skip s k<s.size,cS s[skip s k]=wj∧(s[skip s k]==35)=false:=by
 intro n
 induction n with
 | zero=>intro k f h;rw[eT _ _ (by omega)]at h;omega
 | succ n d =>
  intro k f h
  by_cases a:k<s.size
  ·by_cases c:cS s[k]=wg
   ·have e:=kA s k a c;simp only[e]at h ⊢;exact d (k+1) (by omega) h
   ·by_cases b:s[k]=35
    ·have g:=jk s k a b;have e:=kZ s k a b;simp only[e]at h ⊢;exact d _ (by omega) h
    ·have e:=jm s k a (by simpa using c) (by simpa using b);simp only[e];exact⟨by simpa using c,by simpa using b⟩
  ·rw[eT _ _ (by omega)]at h;omega
theorem kF(R Q k:Nat)(s:ByteArray)(w:vk)(h:Rdr w R Q s k)(g:k<s.size)(i:s.size≤16384)(a:List ByteArray)(arr:Array vn)(b:arr=(a.map J).toArray)(n cap:Nat)(j:a.length=n)(c:n≤100)
  (x:Bool) (l:a.any (hasB · s[k])=x) :
  wB wq 224 #[wF (Y ⟨R,0,U⟩),A (Y ⟨w.heap.size,0,U⟩) n cap] (w.alloc (ur arr 9)) fun e w'=>e=xv (xS x)∧Gc w w':=by
 subst b;have d:Gc w (w.alloc (ur (a.map J).toArray 9)):=(Fl _ w).alloc (Fj _) _;refine (xn R Q k s _ (h.z d) g i w.heap.size n cap a (qv w _) j c).mono ?_;rintro e w' ⟨rfl,f⟩;exact⟨by rw[l],d.trans (f.mono d.size)⟩
theorem qu(R Q k:Nat)(s:ByteArray)(w:vk)(h:Rdr w R Q s k)(d:k=s.size)(f:s.size≤16384)(arr:Array vn)(c:vn) :
  wB wq 224 #[wF (Y ⟨R,0,U⟩),c] (w.alloc (ur arr 9)) fun e w'=>e=xv (xS wj)∧Gc w w':=by
 have a:Gc w (w.alloc (ur arr 9)):=(Fl _ w).alloc (Fj _) _;refine (AK R Q k s _ (h.z a) d f c).mono ?_;rintro e w' ⟨rfl,b⟩;exact⟨V,a.trans (b.mono a.size)⟩
theorem pI(R Q k:Nat)(s:ByteArray)(w:vk)(h:Rdr w R Q s k)(f:k≤s.size)(g:s.size≤16384)(a:List ByteArray)(arr:Array vn)(b:arr=(a.map J).toArray)(n cap:Nat)(i:a.length=n)(d:n≤100)
  (p:UInt8→Bool) (j:(fun c=>a.any (hasB · c))=p) :
  wB wq 228 #[wF (Y ⟨R,0,U⟩),A (Y ⟨w.heap.size,0,U⟩) n cap] (w.alloc (ur arr 9)) fun e w'=>e=xv (J (s.extract k (aA p s k)))∧w.grownBy w' (Y Q)∧Rdr w' R Q s (aA p s k):=by
 subst b;subst j;have l:Gc w (w.alloc (ur (a.map J).toArray 9)):=(Fl _ w).alloc (Fj _) _;refine (take_any R Q k s _ (h.z l) f g w.heap.size n cap a (qv w _) i d).mono ?_;rintro e w' ⟨rfl,m,o⟩;exact⟨V,(World.grownBy_alloc w _ _).trans m,o⟩
theorem gQ(R Q k:Nat)(s:ByteArray)(w:vk)(h:Rdr w R Q s k)(d:k<s.size)(f:s.size≤16384)(a:List ByteArray)(x:Bool)(g:a.any (hasB · s[k])=x)(arr:Array vn)(b:arr=(a.map J).toArray)(n cap:Nat)(i:a.length=n)(c:n≤100)
  (B:Nat) (hB:w.heap.size=B) :
  wB wq 224 #[wF (Y ⟨R,0,U⟩),A (Y ⟨B,0,U⟩) n cap] (w.alloc (ur arr 9)) fun e w'=>e=xv (xS x)∧Gc w w':=by
 subst hB;exact kF R Q k s w h d f a arr b n cap i c x g
theorem take_at(R Q k:Nat)(s:ByteArray)(w:vk)(h:Rdr w R Q s k)(f:k≤s.size)(g:s.size≤16384)(a:List ByteArray)(p:UInt8→Bool)(i:(fun c=>a.any (hasB · c))=p)(arr:Array vn)(b:arr=(a.map J).toArray)(n cap:Nat)(j:a.length=n)(d:n≤100)
  (B:Nat) (hB:w.heap.size=B) :
  wB wq 228 #[wF (Y ⟨R,0,U⟩),A (Y ⟨B,0,U⟩) n cap] (w.alloc (ur arr 9)) fun e w'=>e=xv (J (s.extract k (aA p s k)))∧w.grownBy w' (Y Q)∧Rdr w' R Q s (aA p s k):=by
 subst hB;exact pI R Q k s w h f g a arr b n cap j d p i
theorem m9:(fun c=>[(⟨#[9,10,13,32]⟩:ByteArray)].any (hasB · c))=cS:=by
 funext c
 show ((([9,10,13,32]:List UInt8).contains c)||false)=_
 simp only[List.contains_cons,List.contains_nil,Bool.or_false,cS,Bool.or_assoc]
theorem pU(c:UInt8):[(⟨#[35]⟩:ByteArray)].any (hasB · c)=(c==35):=by
 show ((([35]:List UInt8).contains c)||false)=_
 simp only[List.contains_cons,List.contains_nil,Bool.or_false]
theorem kh(c:UInt8):[(⟨#[9,10,13,32]⟩:ByteArray),⟨#[35]⟩].any (hasB · c)=(cS c||c==35):=by
 rw[←pU,←m9];simp
theorem tY(R Q k:Nat)(s:ByteArray)(w:vk)(h:Rdr w R Q s k)(a:k≤s.size)(b:s.size≤16384) :
  wB wq 225 #[wF (Y ⟨R,0,U⟩)] w fun e w'=>(∃t,e=xv (J t)∧t.data.toList=s.data.toList.drop k∧t.size=s.size-k)∧Gc w w':=by
 refine (un R Q k s w h a b).mono ?_;rintro e w' ⟨rfl,c⟩;exact⟨⟨_,V,by rw[ByteArray.data_extract,Array.toList_extract];simp[List.extract,List.take_of_length_le],by simp⟩,c⟩
theorem rU(R Q k:Nat)(s:ByteArray)(w:vk)(h:Rdr w R Q s k)(hk:k≤s.size)(n:s.size≤16384) :
  wB wq 156 #[wF (Y ⟨R,0,U⟩)] w fun e w'=>e=xv (AJ #[])∧w.grownBy w' (Y Q)∧Rdr w' R Q s (skip s k):=by
 go_enter Tryz.func156,Tryz.ntmps156
 go_wp2_with fail
 go_loopw [33] (fun _ wr=>∃j,k≤j∧j≤s.size∧skip s j=skip s k∧Rdr wr R Q s j∧w.grownBy wr (Y Q)) (fun _ wr=>s.size-qh wr Q)
 case atStart=>exact⟨k,Fj _,hk,V,h,sm w _⟩
 case round =>
  obtain⟨j,bk,v,H,r,hg⟩:=hrel;have HS:=Hd H;clear H
  by_cases x:j<s.size
  ·cases u:cS s[j]
   ·cases G:s[j]==35
    ·have B:=Hd (kF R Q j s wr r x n [⟨#[9,10,13,32]⟩,⟨#[35]⟩] _ V 2 2 V (by omega) wj (by rw[kh,u,G];rfl));have HE:=Hd (jm s j x u G);clear u G
     go_wp2_with (first
      | (go_at_call 224;refine Fx B.o ?_;rintro e K ⟨rfl,a⟩))
     go_end0
     rw[←HS.o,HE.o];exact⟨V,grown_below hg a,r.z a⟩
    ·have B:=Hd (kF R Q j s wr r x n [⟨#[9,10,13,32]⟩,⟨#[35]⟩] _ V 2 2 V (by omega) wg (by rw[kh,u,G];rfl));have L:=Hd G;clear u G;go_wp2_with fail
     refine Fx B.o ?_;rintro e K ⟨rfl,a⟩;have f:=r.z a;have C:=Hd (kF R Q j s K f x n [⟨#[35]⟩] _ V 1 1 V (by omega) wg (by rw[pU];exact L.o));go_wp2_with fail
     refine Fx C.o ?_;rintro e w3 ⟨rfl,g⟩;have y:=f.z g;go_wp2_with fail
     refine (tY R Q j s w3 y v n).mono ?_;rintro e w4 ⟨⟨t,rfl,M,N⟩,S⟩;have av:=y.z S;obtain⟨HT,bl⟩:=zz2 M N;have T:t.size≤16384:=by omega
     clear M N;go_wp2_with fail
     refine (DL t w4 T).mono ?_;rintro e w5 ⟨⟨d,b,c,rfl,D⟩,W⟩;have a1:=av.z W;have HN:=Hd D;have E:j+d.size=aA (· != 10) s j:=by unfold aA;rw[D,HT.o]
     have a6:aA (· != 10) s j≤s.size:=dq _ _ _ v;have X:j+d.size≤s.size:=by omega
     have ba:=Hd E;have bb:w.grownBy w5 (Y Q):=grown_below (grown_below (grown_below (grown_below hg a) g) S) W;have bn:j<j+d.size:=by rw[E];exact jk s j x (by simpa using L.o)
     clear E a6 D;go_wp2_with fail
     go_loopw [22] (fun i wi=>∃m:Nat,m≤d.size∧i=I Z m∧Rdr wi R Q s (j+m)∧w.grownBy wi (Y Q)) (fun i _=>d.size-(intOf i).toNat)
     case atStart=>exact⟨0,FA _,V,a1,bb⟩
     case round =>
      obtain⟨m,hm,rfl,z,ad⟩:=hrel
      by_cases bq:m<d.size
      ·obtain⟨r0,r1,q0,q1,⟨p,q2⟩,f1,f2,br,bt⟩:=z.y;obtain⟨p',af⟩:=z.q;have bc:=Hd af;clear af
       go_wp2_with (first
        | (go_at_call 227;refine (j0 Q (j+m) _ s _ bc.o (by omega) n).mono ?_;rintro e w6 ⟨rfl,ak,al⟩;have bd:=Hd al;clear al))
       go_roundw
       case rel=>exact⟨m+1,by omega,by go_num,z.h ak bd.o,ss ad ak⟩
       case measure=>simp[intOf];omega
      ·obtain rfl:m=d.size:=by omega
       go_wp2_with fail
       refine (pI R Q (j+d.size) s _ z X n [⟨#[9,10,13,32]⟩] _ V 1 1 V (by omega) cS m9).mono ?_;rintro e w7 ⟨rfl,F,l⟩;have HP:=Hd (sM s _ (j+d.size) (Fj _));have bB:=fh cS s (j+d.size);have hle:=dq cS s (j+d.size) X;generalize aA cS s (j+d.size)=j2 at *;go_wp2_with fail
       refine⟨⟨j2,by omega,hle,?_,l,ss ad F⟩,?_⟩
       ·rw[HP.o,ba.o,←kZ s j x (by simpa using L.o)];exact HS.o
       ·rw[l.pos,r.pos];omega
   ·have B:=Hd (kF R Q j s wr r x n [⟨#[9,10,13,32]⟩,⟨#[35]⟩] _ V 2 2 V (by omega) wg (by rw[kh,u];rfl));have aq:(s[j]==35)=false:=by
     cases hh:s[j]==35
     ·rfl
     ·exfalso
      have e:s[j]=35:=by simpa using hh
      rw[e]at u;cases u
    have L:=Hd aq;have bR:j<aA cS s j:=by
     have:=fh cS s (j+1);rw[gC cS s j x u]at this;omega
    clear u aq;go_wp2_with fail
    refine Fx B.o ?_;rintro e K ⟨rfl,a⟩;have f:=r.z a;have C:=Hd (kF R Q j s K f x n [⟨#[35]⟩] _ V 1 1 V (by omega) wj (by rw[pU];exact L.o));go_wp2_with fail
    refine Fx C.o ?_;rintro e w3 ⟨rfl,g⟩;have y:=f.z g;have HT:=Hd (pI R Q j s w3 y v n [⟨#[9,10,13,32]⟩] _ V 1 1 V (by omega) cS m9);have HP:=Hd (sM s _ j (Fj _));have hle:=dq cS s j v;generalize aA cS s j=j2 at *;go_wp2_with fail
    refine Fx HT.o ?_;rintro e w7 ⟨rfl,F,l⟩;go_wp2_with fail
    refine⟨⟨j2,by omega,hle,?_,l,ss (grown_below (grown_below hg a) g) F⟩,?_⟩
    ·rw[HP.o];exact HS.o
    ·rw[l.pos,r.pos];omega
  ·have ar:j=s.size:=by omega
   have HE:=Hd (eT s j (by omega));have B:=Hd (qu R Q j s wr r ar n #[J ⟨#[9,10,13,32]⟩,J ⟨#[35]⟩] (A (Y ⟨wr.heap.size,0,U⟩) 2 2));clear ar
   go_wp2_with (first
    | (go_at_call 224;refine Fx B.o ?_;rintro e K ⟨rfl,a⟩))
   go_end0
   rw[←HS.o,HE.o];exact⟨V,grown_below hg a,r.z a⟩
def bQ(c:UInt8):Bool:=wo (48≤c.toNat)&&wo (c.toNat≤57)
def kN:Nat:=9223372036854775807
def fE:Nat→List UInt8→Option Nat
 | n,[]=>Y n
 | n,c::r=>if bQ c&&wo (10*n+(c.toNat-48)≤kN) then fE (10*n+(c.toNat-48)) r else U
def number(l:List UInt8):Option Nat:=if l.isEmpty then U else fE 0 l
theorem xC(s:ByteArray)(w:vk):∃c w',(convert 9 87 (J s)).run wq w=.ok (A (Y ⟨w.heap.size,0,U⟩) s.size c) w'∧Gc w w'∧
  ∀j (a:j<s.size),w'.cell? ⟨w.heap.size,j,U⟩=Y (I O (s[j].toNat:Int)):=by
 refine⟨_,_,run_bytes_of_string w 9 87 5 s Tryz.underlying9 Tryz.underlying87 Tryz.underlying5,(Fl _ w).drew.alloc (Fj _) _,fun j a=>?_⟩;have h:(w.drew.alloc (ur (bytesRow s (grownCap w s.size 0 5)) 5 ((bytesRow s (grownCap w s.size 0 5)).size,(bytesRow s (grownCap w s.size 0 5)).size+1))).heap[w.heap.size]?=_:=qv w.drew _;unfold World.cell?;rw[h];exact bytesRow_at s _ j a
theorem sd(s:ByteArray)(k m:Nat)(h:k<s.size)(a:bQ s[k]=wg)(hm:10*m+(s[k].toNat-48)≤kN) :
  fE m (s.data.toList.drop k)=fE (10*m+(s[k].toNat-48)) (s.data.toList.drop (k+1)):=by
 rw[drop_cons s k h];simp only[fE,a,Bool.true_and,r8,hm,sy]
theorem uA(s:ByteArray)(k m:Nat)(h:k<s.size)(a:bQ s[k]=wj∨kN<10*m+(s[k].toNat-48)) :
  fE m (s.data.toList.drop k)=none:=by
 rw[drop_cons s k h];simp only[fE];rw[r5];rcases a with a|a
 ·simp[a]
 ·simp only[FG,r8,not_and];intro _;omega
theorem lu(s:ByteArray)(h:0<s.size):number s.data.toList=fE 0 s.data.toList:=by
 unfold number;rw[r5];have:=fj s h;rw[FB]at this;rw[this];simp
theorem qA(s:ByteArray)(h:s.size=0):number s.data.toList=none:=by
 have e:s.data.toList=[]:=by
  have a:s.data.toList.length=0:=by rw[FQ];exact h
  exact FP a
 rw[e];rfl
theorem me(s:ByteArray)(w:vk)(W:s.size≤100000) :
  wB wq 137 #[J s] w fun e w'=>e=xv (AJ #[I Z (((number s.data.toList).getD 0:Nat):Int),xS (number s.data.toList).isSome])∧Gc w w':=by
 obtain⟨c,w1,r,a,b⟩:=xC s w;have L:=Hd b;clear b;have f:∀(o:Option Nat),number s.data.toList=o→∀(e:Ending) (w':vk),e=xv (AJ #[I Z ((o.getD 0:Nat):Int),xS o.isSome])→Gc w w'→(e=xv (AJ #[I Z (((number s.data.toList).getD 0:Nat):Int),xS (number s.data.toList).isSome])∧Gc w w'):=by intro o M e w' he N;rw[M];exact⟨he,N⟩
 have t:=Hd f;clear f
 go_enter Tryz.func137,Tryz.ntmps137
 go_wp2
 clear r
 go_loopw [4,11] (fun n i wr=>∃(k m:Nat),k≤s.size∧i=I Z k∧n=I Z m∧m≤9223372036854775807∧fE m (s.data.toList.drop k)=fE 0 s.data.toList∧wr=w1) (fun _ i _=>s.size-(intOf i).toNat)
 case atStart=>exact⟨0,0,FA _,V,V,by omega,V,V⟩
 case round =>
  obtain⟨k,m,X,rfl,rfl,hm,g,rfl⟩:=hrel;have z:=Hd g;clear g
  by_cases j:k<s.size
  ·have Q:=L.o k j;have hd:=s[k].toNat_lt;obtain⟨R,S⟩:=zz2 (sd s k m j) (uA s k m j);have H:Hid (bQ s[k]=(wo (48≤s[k].toNat)&&wo (s[k].toNat≤57))):=rfl;generalize bQ s[k]=C at *;generalize s[k].toNat=d at *;have u:∀h:48≤d∧d≤57,C=true:=fun h=>by rw[H.o];simp[h.1,h.2]
   have v:∀h:¬(48≤d∧d≤57),C=false:=fun h=>by rw[H.o];simp;omega
   obtain⟨D,x⟩:=zz2 u v;clear u v;have y:(C=wj∨kN<10*m+(d-48))→number s.data.toList=none:=fun h=>by rw[lu s (by omega),←z.o];exact S.o h
   have p:=Hd y;clear y
   go_wp2
   ·go_ret2
    have B:9223372036854775807<10*m+(d-48):=by omega
    exact t.o U (p.o (xj B)) _ _ V a
   ·have B:10*m+(d-48)≤9223372036854775807:=by omega
    refine⟨⟨k+1,10*m+(d-48),by omega,by go_num,?_,B,?_,by trivial⟩,by simp[intOf];omega⟩
    ·congr 1;omega
    ·rw[←R.o (D.o (by omega)) B];exact z.o
   ·go_ret2
    exact t.o U (p.o (wP (x.o (by omega)))) _ _ V a
   ·go_ret2
    exact t.o U (p.o (wP (x.o (by omega)))) _ _ V a
  ·obtain rfl:k=s.size:=by omega
   rcases Nat.eq_zero_or_pos s.size with q|q
   ·have E:m=0:=by
     have F:=z.o;have e:s.data.toList=[]:=FP (by rw[FQ];exact q);rw[e]at F;simp[fE]at F;exact F
    have he:s.toList.isEmpty=true:=by rw[FB,FP (l:=s.data.toList) (by rw[FQ];exact q)];rfl
    have G:=Hd q;subst E;clear q
    go_wp2
    go_ret2
    exact t.o U (qA s G.o) _ _ V a
   ·have he:s.toList.isEmpty=false:=fj s q;have K:number s.data.toList=Y m:=by rw[lu s q,←z.o,drop_end s _ (Fj _)];rfl
    have T:=Hd K;clear K
    go_wp2
    go_ret2
    exact t.o _ T.o _ _ V a
theorem qG(s:ByteArray)(w:vk)(a:s.size≤16384) :
  wB wq 137 #[J s] w fun e w'=>e=xv (AJ #[I Z (((number s.data.toList).getD 0:Nat):Int),xS (number s.data.toList).isSome])∧Gc w w':=me s w (by omega)
theorem u7(p:UInt8→Bool)(h:(List.range 256).all (fun n=>p (UInt8.ofNat n))=wg)(c:UInt8):p c=true:=by
 have a:=FW.1 h c.toNat (List.mem_range.2 c.toNat_lt)
 simpa using a
def isLow(c:UInt8):Bool:=wo (97≤c.toNat)&&wo (c.toNat≤122)
def bf(c:UInt8):Bool:=isLow c||bQ c||c==95
def dl:ByteArray:=⟨#[97,98,99,100,101,102,103,104,105,106,107,108,109,110,111,112,113,114,115,116,117,118,119,120,121,122]⟩
def jJ:ByteArray:=⟨#[48,49,50,51,52,53,54,55,56,57]⟩
def fV:ByteArray:=⟨#[97,98,99,100,101,102,103,104,105,106,107,108,109,110,111,112,113,114,115,116,117,118,119,120,121,122,48,49,50,51,52,53,54,55,56,57,95]⟩
theorem lG(c:UInt8):hasB dl c=isLow c:=by
 have:=u7 (fun c=>hasB dl c==isLow c) (by kernel_rfl) c
 simpa using this
theorem yx(c:UInt8):hasB jJ c=bQ c:=by
 have:=u7 (fun c=>hasB jJ c==bQ c) (by kernel_rfl) c
 simpa using this
theorem ux(c:UInt8):hasB fV c=bf c:=by
 have:=u7 (fun c=>hasB fV c==bf c) (by kernel_rfl) c
 simpa using this
def eZ(l:List UInt8):Bool:=
 match l with
 | []=>wj
 | c::_=>wo (l.length≤24)&&isLow c
theorem j7(s:ByteArray)(w:vk)(m:s.size≤16384) :
  wB wq 230 #[J s] w fun e w'=>e=xv (xS (eZ s.data.toList))∧w=w':=by
 rcases Nat.eq_zero_or_pos s.size with a|a
 ·have e:s.data.toList=[]:=FP (by rw[FQ];exact a);have he:s.toList.isEmpty=true:=by rw[FB,e];rfl
  have j:=Hd e;clear e a
  go_enter Tryz.func230,Tryz.ntmps230
  go_wp2
  go_ret;rw[j.o];exact⟨V,V⟩
 ·have he:s.toList.isEmpty=false:=fj s a;have b:s.data.toList=s[0]::s.data.toList.drop 1:=by
   have:=drop_cons s 0 a
   simpa using this
  have c:eZ s.data.toList=(wo (s.size≤24)&&hasB dl s[0]):=by rw[lG,b];unfold eZ;simp only[←b,FQ];rfl
  have d:=Hd c;have k:=Hd ((ii dl s[0] w).mono (R':=fun e w'=>(∃i:Int,e=xv (I Z i)∧wo (0≤i)=hasB dl s[0])∧w=w') (fun e w' f=>⟨⟨_,f.1,kg _ _⟩,f.2⟩));clear c b
  go_enter Tryz.func230,Tryz.ntmps230
  by_cases g:s.size≤24
  ·go_wp2_with (first
    | (go_at_call 206;refine Fx k.o ?_;rintro e w' ⟨⟨i,rfl,h⟩,rfl⟩;have l:=Hd h;clear h))
   go_ret;rw[d.o,←l.o];exact⟨by simp[g],V⟩
  ·go_wp2
   go_ret;rw[d.o];exact⟨by simp[g],V⟩
def aS(w:vk):Prop:=∀c:Nat,c<256→w.cell? ⟨1,c,U⟩=Y (I O (if Lib.isSp (UInt8.ofNat c) then 1 else 0))
theorem aS.lt{w:vk}(h:aS w):1<w.heap.size:=by
 have a:=h 0 (by omega);unfold World.cell? at a;rcases Nat.lt_or_ge 1 w.heap.size with b|b
 ·exact b
 ·rw[F8 b]at a;cases a
theorem aS.q{w w':vk}(h:aS w)(b:w'.heap[(1:Nat)]?=w.heap[(1:Nat)]?):aS w':=
 fun c d=>(World.cell?_of_block (a:=⟨1,c,U⟩) b).trans (h c d)
theorem aS.u{w w':vk}(h:aS w)(a:Gc w w'):aS w':=h.q (a.block _ h.lt)
theorem aS.h{w w':vk}{g:Nat}(h:aS w)(a:w.grownBy w' (Y g))(b:g≠1):aS w':=
 h.q (a.block _ h.lt (fun e=>by injection e with e;exact b e.symm))
theorem nP(s:ByteArray)(L:List ByteArray)(c:(Lib.fields s.data.toList).map (fun l=>J ⟨l.toArray⟩)=L.map J)(d:s.size<4294967281)(a:s.data.toList.all (fun b=>wo (b.toNat<128))=wg)(w:vk)(f:aS w) :
  wB wq 231 #[J s] w fun e w'=>e=xv (A (Y ⟨w.heap.size,0,U⟩) L.length L.length)∧w'=w.alloc (ur (L.map J).toArray 9):=by
 have hlen:(Lib.fields s.data.toList).length=L.length:=by
  have:=tE List.length c
  simpa using this
 refine (Any.strings_Fields_core Tryz.lays157 (by kernel_rfl) s w d (fun j b g=>?_) f).mono ?_
 ·have:=FW.1 a b (FM g)
  simpa using this
 ·rintro e w' ⟨he,hw⟩;rw[hlen]at he;rw[c]at hw;exact⟨he,hw⟩
def fa:List ByteArray:=[⟨#[102,97,99,116]⟩,⟨#[114,117,108,101]⟩,⟨#[115,97,108,105,101,110,99,101]⟩,⟨#[110,111,116]⟩,⟨#[116,101,115,116]⟩,⟨#[97,115,115,101,114,116]⟩,⟨#[114,101,116,114,97,99,116]⟩,⟨#[115,97,121]⟩,⟨#[104,97,108,116]⟩,⟨#[97,110,100]⟩,⟨#[111,114]⟩]
def Ba:ByteArray:=⟨#[102,97,99,116,32,114,117,108,101,32,115,97,108,105,101,110,99,101,32,110,111,116,32,116,101,115,116,32,97,115,115,101,114,116,32,114,101,116,114,97,99,116,32,115,97,121,32,104,97,108,116,32,97,110,100,32,111,114]⟩
def eL:List ByteArray:=[⟨#[61,62]⟩,⟨#[33,61]⟩,⟨#[60,61]⟩,⟨#[62,61]⟩,⟨#[40]⟩,⟨#[41]⟩,⟨#[123]⟩,⟨#[125]⟩,⟨#[44]⟩,⟨#[59]⟩,⟨#[61]⟩,⟨#[60]⟩,⟨#[62]⟩,⟨#[43]⟩,⟨#[45]⟩,⟨#[42]⟩,⟨#[95]⟩]
def AD:ByteArray:=⟨#[61,62,32,33,61,32,60,61,32,62,61,32,40,32,41,32,123,32,125,32,44,32,59,32,61,32,60,32,62,32,43,32,45,32,42,32,95]⟩
theorem uG(w:vk)(a:aS w) :
  wB wq 231 #[J Ba] w fun e w'=>e=xv (A (Y ⟨w.heap.size,0,U⟩) 11 11)∧w'=w.alloc (ur (fa.map J).toArray 9):=
 nP Ba fa (by kernel_rfl) (by decide) (by kernel_rfl) w a
theorem uY(w:vk)(a:aS w) :
  wB wq 231 #[J AD] w fun e w'=>e=xv (A (Y ⟨w.heap.size,0,U⟩) 17 17)∧w'=w.alloc (ur (eL.map J).toArray 9):=
 nP AD eL (by kernel_rfl) (by decide) (by kernel_rfl) w a
theorem sW(w:vk)(a:aS w) :
  wB wq 214 #[] w fun e w'=>e=xv (A (Y ⟨w.heap.size,0,U⟩) 11 11)∧w'=w.alloc (ur (fa.map J).toArray 9):=by
 have b:=Hd (uG w a)
 go_enter Tryz.func214,Tryz.ntmps214
 go_wp2_with (first
  | (go_at_call 231;refine Fx b.o ?_;rintro e w' ⟨rfl,rfl⟩))
 go_ret;exact⟨V,V⟩
def di(l:List UInt8):Bool:=fa.any (fun b=>b.data.toList==l)
theorem AA(x:ByteArray):Lib.containsS fa x=di x.data.toList:=by
 rw[FV,Lib.containsS_iff,di,List.any_eq_true]
 constructor
 ·intro h;exact⟨x,h,by simp⟩
 ·rintro ⟨y,c,he⟩;have e:y=x:=by
   have a:y.data.toList=x.data.toList:=by simpa using he
   have b:y.data=x.data:=Array.toList_inj.1 a;exact ByteArray.ext b
  rwa [←e]
theorem lO(B c:Nat)(x:ByteArray)(w:vk)(h:w.heap[B]?=Y (ur (fa.map J).toArray 9 (0,0))) :
  wB wq 213 #[A (Y ⟨B,0,U⟩) 11 c,J x] w fun e w'=>e=xv (xS (di x.data.toList))∧w=w':=by
 refine (Tryz.slices_Contains_string B 0 11 c fa x w (by decide) (by decide) (fun j a=>?_)).mono ?_
 ·rw[Nat.zero_add,Gb _ _ _ _ _ _ h];simp[List.getD_eq_getElem?_getD,List.getElem?_eq_getElem a]
 ·rintro e w' ⟨rfl,hw⟩;refine⟨?_,hw.symm⟩;rw[show fa.take 11=fa from rfl,AA]
