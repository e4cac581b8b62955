/- Parts of one proof, joined; conditions stand in each theorem. -/
import Derived.WalkKit
import Derived.WalkSpells
import Derived.WalkLawsBesides
import Derived.Maps.AppendAt
import Derived.Lib.Hide
import Derived.ArgAppend
import Derived.Deep.AppendLies
import Derived.Test.YtkhfjgjjhlnnnaaGreatDoorProg
import Derived.Test.YtkhfjgjjhlnnnaaGreatDoorShelf
import Derived.Deep.QuietTactic
import Derived.BigQuiet
import Derived.LoopTactic
import Derived.Laws.IdiomStrings
open Option renaming some→Y,none→U
open Bool renaming false→xj,true→wP
open Go renaming World→wD,Value→wF,TypeId→CD,Addr→Bs,Calls→xL
open Go.Obj renaming cells→wq
open Go.World renaming setCell→CK,cell?→CR
open Or renaming inl→z6,inr→z7
open Go.Ending renaming returned→z8
open Go.Value renaming bool→AJ,slice→A,string→J,int→I,pointer→xV,func→CF,tuple→CA
open Go.IntKind renaming i64→Z,u8→O
open Go.Proofs.Tryz renaming prog→xD
open Decidable renaming decide→xv
namespace Go.Proofs.YtkhfjgjjhlnnnaaGreatDoor
set_option maxHeartbeats 1000000
set_option maxRecDepth 100000
open Go.RowKit
theorem zzx{α:Sort _}(a:α):∃x,x=a:=⟨a,rfl⟩
theorem zzy{α:Sort _}(a:α):∃x,a=x:=⟨a,rfl⟩
theorem V{α:Sort _}{a:α}:a=a:=rfl
abbrev p9:=@Go.heap_alloc_new
abbrev qv:=@if_neg
abbrev rv:=@if_pos
abbrev r6:=@decide_eq_false
abbrev r7:=@decide_eq_true_eq
abbrev r8:=@Go.World.grownBy.refl
abbrev r9:=@Go.World.size_alloc
abbrev sm:=@if_false
abbrev sn:=@Go.World.grownBy.trans
abbrev ss:=@Option.some.injEq
abbrev sx:=@if_true
abbrev sy:=@decide_eq_true_iff
abbrev sI:=@or_false
abbrev s3:=@Go.Sem.run_pure
abbrev tf:=@decide_eq_decide
abbrev th:=@Go.Sem.run_bind
abbrev tk:=@beq_iff_eq
abbrev tv:=@beq_eq_false_iff_ne
abbrev tE:=@Option.some.inj
abbrev tF:=@congrArg
abbrev EN:=@Array.getElem?_eq_some_iff
abbrev EO:=@Nat.le_refl
abbrev EP:=@Below.refl
abbrev EQ:=@List.setIfInBounds_toArray
abbrev ER:=@Below.heap_setCell
abbrev ES:=@List.getElem?_eq_getElem
abbrev ET:=@Nat.lt_of_lt_of_le
abbrev EU:=@Nat.le_trans
abbrev EV:=@List.set_cons_succ
abbrev EW:=@List.set_cons_zero
abbrev EX:=@Calls.mono
abbrev EY:=@List.take_succ_cons
abbrev EZ:=@List.drop_succ_cons
abbrev Fa:=@Nat.zero_le
abbrev Fb:=@ByteArray.toList_eq
abbrev Fc:=@List.length_append
abbrev Fe:=@List.getElem?_eq_some_iff
abbrev Ff:=@Bool.and_eq_true
abbrev Fg:=@List.take_of_length_le
abbrev Fh:=@List.drop_zero
abbrev Fi:=@List.take_zero
abbrev Fj:=@List.mem_of_getElem?
abbrev Fl:=@Nat.le_succ
abbrev Fo:=@Bool.false_eq_true
abbrev Fp:=@List.eq_nil_of_length_eq_zero
abbrev Fq:=@Array.length_toList
abbrev Ft:=@List.getElem?_append_right
abbrev Fu:=@Nat.le_of_lt
abbrev Fv:=@List.length_cons
abbrev Fw:=@Bool.eq_iff_iff
abbrev Fx:=@List.all_eq_true
abbrev Fy:=@List.not_mem_nil
abbrev Fz:=@List.take_add_one
abbrev FA:=@List.mem_cons
abbrev FB:=@List.getElem?_append_left
abbrev FC:=@List.getElem?_cons_succ
abbrev FD:=@Array.getElem?_eq_none
abbrev FG:=@List.length_singleton
abbrev FH:=@Below.heap_alloc
abbrev FI:=@cell_of_row
def Hid(p:Prop):Prop:=p
theorem Hid.o{p:Prop}(h:Hid p):p:=h
theorem Hd{p:Prop}(h:p):Hid p:=h
theorem zz2{p0 p1:Prop}(a0:p0)(a1:p1):Hid p0∧Hid p1:=⟨a0,a1⟩
theorem zz3{p0 p1 p2:Prop}(a0:p0)(a1:p1)(a2:p2):Hid p0∧Hid p1∧Hid p2:=⟨a0,a1,a2⟩
theorem zz4{p0 p1 p2 p3:Prop}(a0:p0)(a1:p1)(a2:p2)(a3:p3):Hid p0∧Hid p1∧Hid p2∧Hid p3:=⟨a0,a1,a2,a3⟩
theorem zz5{p0 p1 p2 p3 p4:Prop}(a0:p0)(a1:p1)(a2:p2)(a3:p3)(a4:p4):Hid p0∧Hid p1∧Hid p2∧Hid p3∧Hid p4:=⟨a0,a1,a2,a3,a4⟩
theorem zz6{p0 p1 p2 p3 p4 p5:Prop}(a0:p0)(a1:p1)(a2:p2)(a3:p3)(a4:p4)(a5:p5):Hid p0∧Hid p1∧Hid p2∧Hid p3∧Hid p4∧Hid p5:=⟨a0,a1,a2,a3,a4,a5⟩
theorem zz7{p0 p1 p2 p3 p4 p5 p6:Prop}(a0:p0)(a1:p1)(a2:p2)(a3:p3)(a4:p4)(a5:p5)(a6:p6):Hid p0∧Hid p1∧Hid p2∧Hid p3∧Hid p4∧Hid p5∧Hid p6:=⟨a0,a1,a2,a3,a4,a5,a6⟩
abbrev FK(w W:World):Prop:=Below w.heap.size w W
def hasB(st:ByteArray) (c:UInt8):Bool:=st.data.toList.contains c
theorem mL(p:ByteArray→Bool)(l:List ByteArray)(k:Nat)(x:ByteArray)(a:l[k]?=Y x)(h:(l.take k).any p=xj):(l.take (k+1)).any p=p x:=by rw[Fz,a,List.any_append,h];simp
theorem qH(p:ByteArray→Bool)(l:List ByteArray)(k:Nat)(x:ByteArray)(a:l[k]?=Y x)(h:p x=wP):l.any p=true:=
 List.any_eq_true.2 ⟨x,Fj a,h⟩
theorem below_drewN{B:Nat}{a w:wD}(h:Below B a w)(n:Nat):Below B a (w.drewN n):=⟨h.os,h.tape,h.output,h.size,h.block⟩
theorem EB(s:ByteArray)(a b i:Nat)(h:i<(s.extract a b).size)(c:a+i<s.size):(s.extract a b)[i]=s[a+i]:=by simp only[ByteArray.getElem_eq_getElem_data,ByteArray.data_extract,Array.getElem_extract]
theorem fq(t:ByteArray)(h:0<t.size):t.toList.isEmpty=false:=by
 rw[Fb]
 cases b:t.data.toList with
 | nil =>
  have:t.data.toList.length=0:=by rw[b];rfl
  rw[Fq]at this;have c:t.size=t.data.size:=rfl;omega
 | cons a l=>rfl
theorem cell_new1(w:wD)(v:wF)(t:CD):(w.alloc (wq #[v] t)).cell? ⟨w.heap.size,0,U⟩=Y v:=by
 have h:(w.alloc (wq #[v] t)).heap[w.heap.size]?=Y (wq #[v] t):=p9 w _;exact FI _ _ 0 _ _ _ h
theorem heap_set{w:wD}{g:Nat}{cs:Array wF}{t:CD}(h:w.heap[g]?=Y (wq cs t (0,0)))(i:Nat)(u:wF) :
  (w.setCell ⟨g,i,U⟩ u).heap[g]?=Y (wq (cs.setIfInBounds i u) t (0,0)):=by
 simp[CK,Array.getElem?_modify,h]
theorem gz{a w:wD}{g:Nat}(h:a.grownBy w (Y g))(i:Nat)(u:wF):a.grownBy (w.setCell ⟨g,i,U⟩ u) (Y g):=
 ⟨h.os,h.tape,h.output,by simpa [CK]using h.size,fun j c b=>(ER w ⟨g,i,U⟩ u j (fun e=>b (by rw[e]))).trans (h.block j c b)⟩
theorem grown_drewN{a w:wD}{row:Option Nat}(h:a.grownBy w row)(n:Nat):a.grownBy (w.drewN n) row:=⟨h.os,h.tape,h.output,h.size,h.block⟩
theorem aa{B i:Nat}{w w':wD}{o:Option Obj}(a:Below B w w')(h:w.heap[i]?=o)(b:i<B):w'.heap[i]?=o:=(a.block i b).trans h
def aA(p:UInt8→Bool) (s:ByteArray) (k:Nat):Nat:=k+((s.data.toList.drop k).takeWhile p).length
theorem drop_cons(s:ByteArray)(k:Nat)(h:k<s.size):s.data.toList.drop k=s[k]::s.data.toList.drop (k+1):=by rw[List.drop_eq_getElem_cons (by simpa using h)];rfl
theorem drop_end(s:ByteArray)(k:Nat)(h:s.size≤k):s.data.toList.drop k=[]:=List.drop_eq_nil_of_le (by simpa using h)
theorem gG(p:UInt8→Bool)(s:ByteArray)(k:Nat)(h:k<s.size)(a:p s[k]=wP):aA p s (k+1)=aA p s k:=by unfold aA;rw[drop_cons s k h];simp[a];omega
theorem sF(p:UInt8→Bool)(s:ByteArray)(k:Nat)(h:k<s.size)(a:p s[k]=xj):aA p s k=k:=by unfold aA;rw[drop_cons s k h];simp[a]
theorem mh(p:UInt8→Bool)(s:ByteArray)(k:Nat)(h:s.size≤k):aA p s k=k:=by unfold aA;rw[drop_end s k h];rfl
theorem fk(p:UInt8→Bool)(s:ByteArray)(k:Nat):k≤aA p s k:=by unfold aA;omega
theorem dm(p:UInt8→Bool)(s:ByteArray)(k:Nat)(h:k≤s.size):aA p s k≤s.size:=by
 unfold aA;have a:=(List.takeWhile_sublist p (l:=s.data.toList.drop k)).length_le;have b:(s.data.toList.drop k).length=s.size-k:=by simp
 omega
theorem grown_below{a w w':wD}{row:Option Nat}(b:a.grownBy w row)(c:FK w w'):a.grownBy w' row:=
 ⟨c.os.trans b.os,c.tape.trans b.tape,c.output.trans b.output,EU b.size c.size,fun i e d=>(c.block i (ET e b.size)).trans (b.block i e d)⟩
theorem aP{a w:wD}(h:FK a w)(row:Option Nat):a.grownBy w row:=⟨h.os,h.tape,h.output,h.size,fun i b _=>h.block i b⟩
theorem aV{w w':wD}{i:Nat}{row:Option Nat}{o:Obj}(b:w.grownBy w' row)(h:w.heap[i]?=Y o)(a:Y i≠row):w'.heap[i]?=Y o:=
 (b.block i (EN.1 h).1 a).trans h
theorem kA{w:wD}{i j:Nat}{cs b:Array wF}{t u:CD}(h:w.heap[i]?=Y (wq cs t (0,0)))(k:w.heap[j]?=Y (wq b u (0,0)))(a:t≠u):i≠j:=by
 rintro rfl;rw[h]at k;injection k with k
 injection k with _ k
 exact a k
theorem cells3{w:wD}{T:Nat}{a b c:wF}{t:CD}(h:w.heap[T]?=Y (wq #[a,b,c] t (0,0))) :
  w.cell? ⟨T,0,U⟩=Y a∧w.cell? ⟨T,1,U⟩=Y b∧w.cell? ⟨T,2,U⟩=Y c∧w.frozen? ⟨T,0,U⟩=xj∧w.frozen? ⟨T,1,U⟩=xj∧w.frozen? ⟨T,2,U⟩=false:=by
 simp[CR,World.frozen?,h]
theorem dL{a w:wD}{row:Option Nat}(h:a.grownBy w row){T:Nat}(d:a.heap.size≤T)(i:Nat)(u:wF):a.grownBy (w.setCell ⟨T,i,U⟩ u) row:=
 ⟨h.os,h.tape,h.output,by simpa [CK]using h.size,fun j c b=>(ER w ⟨T,i,U⟩ u j (by show j≠T;omega)).trans (h.block j c b)⟩
theorem aK{w:wD}{g T:Nat}{o:Obj}(h:w.heap[g]?=Y o)(a:T≠g)(i:Nat)(u:wF):(w.setCell ⟨T,i,U⟩ u).heap[g]?=Y o:=
 (ER w ⟨T,i,U⟩ u g (fun e=>a e.symm)).trans h
theorem im(w:wD)(o:Obj)(i:Nat):(w.alloc o).heap[i]?=if i=w.heap.size then Y o else w.heap[i]?:=by
 show (w.heap.push o)[i]?=_
 rw[Array.getElem?_push]
theorem vq(w:wD)(l:List wF)(t:CD):∀(j:Nat) (u:wF),l[j]?=Y u→(w.alloc (wq l.toArray t)).cell? ((⟨w.heap.size,0,U⟩:Bs).add j)=Y u:=by
 intro j u h;have b:(w.alloc (wq l.toArray t)).heap[w.heap.size]?=Y (wq l.toArray t (0,0)):=p9 w _;have e:((⟨w.heap.size,0,U⟩:Bs).add j)=⟨w.heap.size,j,U⟩:=by
  unfold Addr.add
  by_cases a:j=0
  ·rw[rv a,a]
  ·rw[qv a];simp
 rw[e,FI _ _ _ _ _ _ b]
 simpa using h
theorem bK{w:wD}{T:Nat}{cs:Array wF}{t:CD}(h:w.heap[T]?=Y (wq cs t (0,0)))(i:Nat):w.frozen? ⟨T,i,U⟩=false:=by simp[World.frozen?,h]
theorem ownsRow_base{w:wD}{b b':Nat}{e:CD}{size n:Nat}{v:wF}{xs:List wF}(h:w.ownsRow b e size v n xs)(c:b'≤b):w.ownsRow b' e size v n xs:=by
 obtain⟨d,a⟩:=h;refine⟨d,?_⟩;rcases a with a|⟨g,cap,cur,f,i,r⟩
 ·exact z6 a
 ·exact z7 ⟨g,cap,cur,f,EU c i,r⟩
theorem ah{a b:Bool}(h:a=b):z8 (AJ a)=z8 (AJ b):=by rw[h]
theorem ownsRow_below{w w':wD}{b:Nat}{e:CD}{size n:Nat}{v:wF}{xs:List wF}(h:w.ownsRow b e size v n xs)(a:FK w w'):w'.ownsRow b e size v n xs:=by
 refine h.kept (aP a U) ?_
 cases c:v.ownBlock with
 | none=>exact z6 V
 | some k=>exact z7 (by simp)
section
variable {P:Program} (w:wD)
theorem jx(base:Nat)(t ty e:CD)(i:TypeInfo)(z:wF)(size bytes:Nat)(E:P.underlying t=Y (.slice e))(F:P.info? e=Y i)(N:i.zero=Y z)
  (o:i.size=size) (G:i.bytes=bytes) (H:z.cells.size=size) (R:0<size)
  (v:wF) (n:Nat) (xs:List wF) (b:w.ownsRow base e size v n xs)
  (a:Bs) (m c:Nat) (news:List wF) (s:news.length=m*size) (d:∀j u,news[j]?=Y u→w.cell? (a.add j)=Y u) (S:∀u∈news,u.oneCell'=wP)
  (x:n+m≤maxLen) (h:(n+m)*bytes≤140737488355328) (p:base≤w.heap.size) (hm:0<m) :
  ∃C w',(Builtin.append_ #[t,t] ty #[v,A (Y a) m c]).run P w=.ok C w'∧w'.ownsRow base e size C (n+m) (xs++news)∧
   ((∃g cap,v=A (Y ⟨g,0,U⟩) n cap∧C=A (Y ⟨g,0,U⟩) (n+m) cap∧w.grownBy w' (Y g))∨
    (∃cap,C=A (Y ⟨w.heap.size,0,U⟩) (n+m) cap∧FK w w')):=by
 subst o;subst G;have D:n+m≤9223372036854775807:=by simp only[maxLen]at x;omega
 have hlen:(xs++news).length=(n+m)*i.size:=by rw[Fc,b.1,s,Nat.add_mul]
 have grown:∀(old:Nat),old<n+m→
   (w.drew.alloc (wq (xs.toArray++news.toArray++Builtin.zeroCells z.cells (grownCap w (n+m) old e-(n+m))) e)).ownsRow base e i.size
    (A (Y ⟨w.heap.size,0,U⟩) (n+m) (grownCap w (n+m) old e)) (n+m) (xs++news)∧
   FK w (w.drew.alloc (wq (xs.toArray++news.toArray++Builtin.zeroCells z.cells (grownCap w (n+m) old e-(n+m))) e)):=by
  intro old ho;have K:=grownCap_ge w (n+m) old e;have q:grownCap w (n+m) old e≤maxLen:=grownCap_le_maxLen w (n+m) old e x;refine⟨⟨hlen,z7 ⟨w.heap.size,_,_,V,p,p9 w.drew _,K,q,?_,?_⟩⟩,(EP _ w).drew.alloc (EO _) _⟩
  ·simp only[Array.size_append,List.size_toArray,size_zeroCells,H,b.1,s,←Nat.add_mul]
   congr 1
   omega
  ·simp only[Array.toList_append,List.append_assoc];rw[←List.append_assoc,←hlen];exact List.take_left
 rcases b.2 with ⟨rfl,rfl⟩|⟨g,cap,cur,rfl,L,Q,T,q,M,r⟩
 ·have W:xs=[]:=Fp (by simpa using b.1);subst W;have y:=run_append_nil (P:=P) w t ty e i z E F N a m c news s d (by omega) (by omega) (by have X:=h;simp only[Nat.zero_add]at X;omega);have l:=grown 0 (by omega);simp only[Nat.zero_add,List.nil_append,Array.empty_append]at l ⊢;exact⟨_,_,y,l.1,z7 ⟨_,V,l.2⟩⟩
 ·by_cases f:n+m≤cap
  ·have B:n*i.size+news.length≤cur.size:=by rw[s,M,←Nat.add_mul];exact Nat.mul_le_mul_right _ f
   have y:=run_append_room (P:=P) w t ty e i E F g n cap cur Q a m c news s d S f B;refine⟨_,_,y,⟨hlen,z7 ⟨g,cap,_,V,L,setRow_heap w g cur _ e _ Q,f,q,?_,?_⟩⟩,z6 ⟨g,cap,V,V,⟨V,V,V,by simp,fun k _ hk=>setRow_other w g k _ (fun e=>hk (by simp[e]))⟩⟩⟩
   ·simp only[List.size_toArray,Fc,List.length_take,List.length_drop,Fq];omega
   ·rw[r,←hlen];exact List.take_left
  ·have holds:∀j u,xs[j]?=Y u→w.cell? ((⟨g,0,U⟩:Bs).add j)=Y u:=b.cells (g:=g) V;have y:=run_append_grow (P:=P) w t ty e i z E F N ⟨g,0,U⟩ n cap xs b.1 holds a m c news s d (by omega) (by omega) (growslice_fits (by omega) h);have l:=grown cap (by omega);exact⟨_,_,y,l.1,z7 ⟨_,V,l.2⟩⟩
theorem mZ{ops:Array Oper}{rest:List Oper}{o:Oper}{a:Act}{Q:Exit→Act→wD→Prop}(q:o.guard=U)(s x:Operand)(t:CD)
  (E:o.op=.call { callee:=.builtin .append,args:=#[s,x],argTypes:=#[t,t] })
  (base:Nat) (e:CD) (i:TypeInfo) (z:wF) (size bytes:Nat) (F:P.underlying t=Y (.slice e)) (G:P.info? e=Y i) (H:i.zero=Y z)
  (d:i.size=size) (r:i.bytes=bytes) (y:z.cells.size=size) (B:0<size)
  (v:wF) (n:Nat) (xs:List wF) (L:a.eval s=v) (p:w.ownsRow base e size v n xs)
  (C:Bs) (m c:Nat) (news:List wF) (M:a.eval x=A (Y C) m c) (N:news.length=m*size) (f:∀j u,news[j]?=Y u→w.cell? (C.add j)=Y u) (R:∀u∈news,u.oneCell'=wP)
  (D:n+m≤maxLen) (b:(n+m)*bytes≤140737488355328) (k:base≤w.heap.size) (hm:0<m)
  (h:∀l w',w'.ownsRow base e size l (n+m) (xs++news)→
   ((∃g cap,v=A (Y ⟨g,0,U⟩) n cap∧l=A (Y ⟨g,0,U⟩) (n+m) cap∧w.grownBy w' (Y g))∨(∃cap,l=A (Y ⟨w.heap.size,0,U⟩) (n+m) cap∧FK w w'))→
   wpList P ops Q rest (a.put o.dst l) w') :
  wpList P ops Q (o::rest) a w:=by
 refine wpList_plain q fun K S=>?_
 obtain⟨l,w',T,W,X⟩:=jx (P:=P) w base t o.type e i z size bytes F G H d r y B v n xs p C m c news N f R D b k hm;unfold Oper.wp execOp;simp only[E,resolve,invoke,builtin,th,s3,Result.andThen_ok,List.map_toArray,List.map_cons,List.map_nil,L,M,T];exact S _ _ (h l w' W X)
end
structure Chg (F:Nat→Prop) (w w':wD):Prop where
 os:w'.os=w.os
 a:w'.tape=w.tape
 c:w'.output=w.output
 h:w.heap.size≤w'.heap.size
 u:∀b,b<w.heap.size→¬F b→w'.heap[b]?=w.heap[b]?
theorem Chg.refl(F:Nat→Prop)(w:wD):Chg F w w:=⟨V,V,V,EO _,fun _ _ _=>rfl⟩
theorem Chg.b{F:Nat→Prop}{a b c:wD}(h:Chg F a b)(k:Chg F b c):Chg F a c:=
 ⟨k.os.trans h.os,k.a.trans h.a,k.c.trans h.c,EU h.h k.h,fun i d e=>(k.u i (ET d h.h) e).trans (h.u i d e)⟩
theorem Chg.N{F G:Nat→Prop}{a b:wD}(h:Chg F a b)(c:∀i,F i→G i):Chg G a b:=⟨h.os,h.a,h.c,h.h,fun i d e=>h.u i d fun k=>e (c i k)⟩
theorem Chg.f{F:Nat→Prop}{a b:wD}(h:FK a b):Chg F a b:=⟨h.os,h.tape,h.output,h.size,fun i c _=>h.block i c⟩
theorem Chg.y{F:Nat→Prop}{a b:wD}(h:Chg F a b){p:Bs}(c:F p.block∨a.heap.size≤p.block)(v:wF):Chg F a (b.setCell p v):=
 ⟨h.os,h.a,h.c,by simpa [CK]using h.h,fun i e d=>(heap_setCell_other _ _ _ _ (by rintro rfl;rcases c with c|c;exact d c;omega)).trans (h.u i e d)⟩
theorem Chg.z{F:Nat→Prop}{B:Nat}{w a b:wD}(hw:Below B w a)(h:Chg F a b)(hF:∀i,F i→B≤i)(hB:B≤a.heap.size):Below B w b:=
 ⟨h.os.trans hw.os,h.a.trans hw.tape,h.c.trans hw.output,EU hw.size h.h,fun i c=>(h.u i (ET c hB) fun k=>by have:=hF i k;omega).trans (hw.block i c)⟩
theorem eM{w:wD}{base n size:Nat}{e:CD}{v:wF}{xs:List wF}(h:w.ownsRow base e size v n xs):∀g,v.ownBlock=Y g→base≤g∧g<w.heap.size:=by
 intro g a;rcases h.2 with ⟨rfl,_⟩|⟨d,cap,cur,rfl,b,c,_⟩
 ·cases a
 ·injection a with a
  subst a;exact⟨b,(EN.1 c).1⟩
theorem dC{w w':wD}{B:Nat}{e:CD}{z n:Nat}{v:wF}{xs:List wF}(h:w.ownsRow B e z v n xs)(a:∀g,v.ownBlock=Y g→w'.heap[g]?=w.heap[g]?):w'.ownsRow B e z v n xs:=by
 refine⟨h.1,?_⟩;rcases h.2 with b|⟨g,cap,cur,rfl,c,d,rest⟩
 ·exact z6 b
 ·exact z7 ⟨g,cap,cur,V,c,(a g V).trans d,rest⟩
theorem cY{w w':wD}{B:Nat}{e:CD}{z n:Nat}{v:wF}{xs:List wF}(h:w.ownsRow B e z v n xs)(a:FK w w'):w'.ownsRow B e z v n xs:=
 dC h fun g b=>a.block g (h.lt g b).2
theorem cells5{w:wD}{T:Nat}{a b c d e:wF}{t:CD}(h:w.heap[T]?=Y (wq #[a,b,c,d,e] t (0,0))) :
  w.cell? ⟨T,0,U⟩=Y a∧w.cell? ⟨T,1,U⟩=Y b∧w.cell? ⟨T,2,U⟩=Y c∧w.cell? ⟨T,3,U⟩=Y d∧w.cell? ⟨T,4,U⟩=Y e:=by
 simp[CR,h]
theorem ap(w:wD)(a b:Obj):((w.alloc a).alloc b).heap[w.heap.size]?=Y a∧((w.alloc a).alloc b).heap[w.heap.size+1]?=Y b∧True:=
 ⟨by rw[im,r9,qv (by omega),im,rv V],by rw[im,r9,rv V],trivial⟩
theorem ac{w:wD}{T:Nat}{cs:Array wF}{t:CD}(h:w.heap[T]?=Y (wq cs t (0,0)))(i:Nat):w.frozen? ⟨T,i,U⟩=false:=by simp[World.frozen?,h]
theorem tP(Q k:Nat)(s:ByteArray)(w:wD)(a:w.cell? ⟨Q,0,U⟩=Y (J s))(b:w.cell? ⟨Q,1,U⟩=Y (I Z k))(c:k≤s.size)(d:s.size≤16384) :
  xL xD 157 #[xV (Y ⟨Q,0,U⟩)] w fun e w'=>e=z8 (I Z ((s.size:Int)-k))∧∃n,w'=w.drewN n:=by
 go_enter Tryz.func157,Tryz.ntmps157
 go_wp2
 go_quiet (fail)
 go_wp2
 ·go_ret;refine⟨?_,_,V⟩;have:s.size≤k:=by assumption
  have e:(s.size:Int)-k=0:=by omega
  rw[e];rfl
 ·go_quiet (fail)
  go_wp2
  go_ret;exact⟨V,_,World.drewN_drewN ..⟩
theorem qt(R Q k:Nat)(s:ByteArray)(w:wD)(f:w.cell? ⟨R,0,U⟩=Y (xV (Y ⟨Q,0,U⟩)))(g:w.cell? ⟨R,1,U⟩=Y (J s))(a:w.cell? ⟨Q,0,U⟩=Y (J s))(b:w.cell? ⟨Q,1,U⟩=Y (I Z k))(c:k≤s.size)(d:s.size≤16384) :
  xL xD 229 #[xV (Y ⟨R,0,U⟩)] w fun e w'=>e=z8 (I Z k)∧∃n,w'=w.drewN n:=by
 go_enter Tryz.func229,Tryz.ntmps229
 go_wp2
 go_quiet ((go_at_call 157;refine Calls.quiet_of (tP Q k s _ a b c d)))
 go_wp2
 go_ret;refine⟨?_,_,V⟩;have e:(s.size:Int)-(↑s.size - ↑k)=k:=by omega
 simp;omega
theorem CU(R Q k:Nat)(s:ByteArray)(w:wD)(a:w.cell? ⟨R,0,U⟩=Y (xV (Y ⟨Q,0,U⟩)))(b:w.cell? ⟨R,1,U⟩=Y (J s))(c:w.cell? ⟨Q,0,U⟩=Y (J s))(d:w.cell? ⟨Q,1,U⟩=Y (I Z k))(f:k≤s.size)(g:s.size≤16384) :
  xL xD 225 #[xV (Y ⟨R,0,U⟩)] w fun e w'=>e=z8 (J (s.extract k s.size))∧∃n,w'=w.drewN n:=by
 go_enter Tryz.func225,Tryz.ntmps225
 go_wp2
 go_quiet ((go_at_call 229;refine Calls.quiet_of (qt R Q k s _ a b c d f g)))
 go_wp2
 go_ret;refine⟨V,_,V⟩
theorem s4(l:List UInt8)(c:UInt8):xv (0≤Lib.indexByte l c)=l.contains c:=by
 induction l with
 | nil=>rfl
 | cons a l d =>
  have j:=Lib.indexByte_ge l c;simp only[Lib.indexByte,List.contains_cons,←d]
  by_cases h:a=c
  ·subst h;simp
  ·have f:(a==c)=false:=by simpa using h
   have g:(c==a)=false:=by simpa using fun e=>h e.symm
   simp only[f,g,Fo,sm,Bool.false_or]
   by_cases b:Lib.indexByte l c=-1
   ·simp[b]
   ·have i:(Lib.indexByte l c == -1)=false:=by simpa using b
    simp only[i,Fo,sm];apply tf.2;omega
theorem km(st:ByteArray)(c:UInt8):xv (0≤Lib.indexByte st.data.toList c)=hasB st c:=s4 _ _
theorem ik(st:ByteArray)(c:UInt8)(w:wD) :
  xL xD 206 #[J st,I O (c.toNat:Int)] w fun e w'=>(e=z8 (I Z (Lib.indexByte st.data.toList c)))∧w=w':=
 (Tryz.strings_IndexByte st (c.toNat:Int) w).mono fun e w' ⟨a,b⟩=>⟨by simpa using a,b.symm⟩
theorem uo(T:Nat)(st t:ByteArray)(w:wD)(b:w.cell? ⟨T,0,U⟩=Y (J t))(c:0<t.size) :
  xL xD 256 #[J st,xV (Y ⟨T,0,U⟩)] w fun e w'=>e=z8 (AJ (hasB st t[0]))∧w=w':=by
 have a:=Hd (km st t[0])
 go_enter Tryz.func256,Tryz.ntmps256
 go_wp2_with (go_at_call 206;refine (ik _ _ _).mono ?_;rintro e w' ⟨rfl,rfl⟩)
 go_ret;exact⟨by rw[←a.o];rfl,V⟩
theorem Cg(B T n cap:Nat)(a:List ByteArray)(t:ByteArray)(w:wD)(hB:w.heap[B]?=Y (wq (a.map J).toArray 9 (0,0)))(h:a.length=n)(r:n≤100)
  (j:w.cell? ⟨T,0,U⟩=Y (J t)) (l:0<t.size) :
  xL xD 268 #[A (Y ⟨B,0,U⟩) n cap,CF (.func 256) #[] #[xV (Y ⟨T,0,U⟩)]] w fun e w'=>(∃i:Int,e=z8 (I Z i)∧xv (0≤i)=a.any (hasB · t[0]))∧w=w':=by
 have b:∀i,i<n→∃st,a[i]?=Y st∧w.cell? ⟨B,i,U⟩=Y (J st):=by
  intro i x;refine⟨a[i]'(by omega),ES (by omega),?_⟩;simp[CR,hB,List.getElem?_eq_getElem (show i<a.length by omega)]
 obtain⟨s,u⟩:=zz2 b h;clear b hB h
 go_enter Tryz.func268,Tryz.ntmps268
 go_wp2
 go_loop [8,5] (fun i _=>∃k:Nat,k≤n∧i=I Z k∧(a.take k).any (hasB · t[0])=xj) (fun i _=>n-(intOf i).toNat)
 case atStart=>exact⟨0,Fa _,V,V⟩
 case round =>
  obtain⟨k,y,rfl,c⟩:=hrel;have m:=Hd c;clear c
  by_cases f:k<n
  ·obtain⟨st,d,v⟩:=s.o k f;have p:=Hd d;clear d
   cases q:hasB st t[0]
   ·have g:=Hd q;go_wp2_with (go_at_call 256;refine (uo T _ t _ j l).mono ?_;rintro e w' ⟨rfl,rfl⟩)
    go_round
    case rel=>exact⟨k+1,by omega,by go_num,by rw[mL _ _ _ _ p.o m.o];exact g.o⟩
    case measure=>simp[intOf];omega
   ·have g:=Hd q;go_wp2_with (go_at_call 256;refine (uo T _ t _ j l).mono ?_;rintro e w' ⟨rfl,rfl⟩)
    go_ret;refine⟨⟨k,V,?_⟩,V⟩;rw[qH (hasB · t[0]) _ _ _ p.o g.o];simp
  ·go_wp2
   go_ret;refine⟨⟨-1,V,?_⟩,V⟩;have e:a.take k=a:=Fg (by rw[u.o];omega);have:=m.o;rw[e]at this;rw[this];rfl
theorem tc(B T n cap:Nat)(a:List ByteArray)(t:ByteArray)(w:wD)(hB:w.heap[B]?=Y (wq (a.map J).toArray 9 (0,0)))(c:a.length=n)(b:n≤100)
  (f:w.cell? ⟨T,0,U⟩=Y (J t)) (g:0<t.size) :
  xL xD 255 #[A (Y ⟨B,0,U⟩) n cap,CF (.func 256) #[] #[xV (Y ⟨T,0,U⟩)]] w fun e w'=>e=z8 (AJ (a.any (hasB · t[0])))∧w=w':=by
 have h:=Hd (Cg B T n cap a t w hB c b f g);clear c hB
 go_enter Tryz.func255,Tryz.ntmps255
 go_wp2_with (go_at_call 268;refine EX h.o ?_;rintro e w' ⟨⟨i,rfl,d⟩,rfl⟩;have j:=Hd d;clear d)
 go_ret;exact⟨by rw[←j.o];rfl,V⟩
def Rdr(w:wD) (R Q:Nat) (s:ByteArray) (k:Nat):Prop:=
 w.heap[R]?=Y (wq #[xV (Y ⟨Q,0,U⟩),J s] 190 (0,0))∧∃p:Int,w.heap[Q]?=Y (wq #[J s,I Z k,I Z p] 247 (0,0))
theorem Rdr.ne{w:wD}{R Q:Nat}{s:ByteArray}{k:Nat}(h:Rdr w R Q s k):R≠Q:=by
 obtain⟨b,p,a⟩:=h;rintro rfl;rw[b]at a;simp at a
theorem Rdr.u{w:wD}{R Q:Nat}{s:ByteArray}{k:Nat}(h:Rdr w R Q s k) :
  w.cell? ⟨R,0,U⟩=Y (xV (Y ⟨Q,0,U⟩))∧w.cell? ⟨R,1,U⟩=Y (J s)∧w.cell? ⟨Q,0,U⟩=Y (J s)∧w.cell? ⟨Q,1,U⟩=Y (I Z k)∧
  (∃p:Int,w.cell? ⟨Q,2,U⟩=Y (I Z p))∧w.frozen? ⟨Q,1,U⟩=xj∧w.frozen? ⟨Q,2,U⟩=xj∧R<w.heap.size∧Q<w.heap.size:=by
 obtain⟨d,p,c⟩:=h;have a:=(EN.1 d).1;have b:=(EN.1 c).1;exact⟨by simp[CR,d],by simp[CR,d],by simp[CR,c],by simp[CR,c],⟨p,by simp[CR,c]⟩,by simp[World.frozen?,c],by simp[World.frozen?,c],a,b⟩
theorem Rdr.C{w w':wD}{R Q:Nat}{s:ByteArray}{k:Nat}(h:Rdr w R Q s k)(c:FK w w'):Rdr w' R Q s k:=by
 obtain⟨_,_,_,_,_,_,_,a,b⟩:=h.u;obtain⟨d,p,e⟩:=h;exact⟨by rw[c.block R a];exact d,p,by rw[c.block Q b];exact e⟩
theorem uk(R Q k:Nat)(s:ByteArray)(w:wD)(h:Rdr w R Q s k)(a:k≤s.size)(b:s.size≤16384) :
  xL xD 225 #[xV (Y ⟨R,0,U⟩)] w fun e w'=>e=z8 (J (s.extract k s.size))∧FK w w':=by
 obtain⟨c,d,f,g,⟨p,i⟩,f1,f2,j,l⟩:=h.u;refine (CU R Q k s w c d f g a b).mono ?_;rintro e w' ⟨rfl,n,rfl⟩;exact⟨V,below_drewN (EP _ _) n⟩
theorem Az(R Q k:Nat)(s:ByteArray)(w:wD)(h:Rdr w R Q s k)(c:k=s.size)(d:s.size≤16384)(f:wF) :
  xL xD 224 #[xV (Y ⟨R,0,U⟩),f] w fun e w'=>e=z8 (AJ xj)∧FK w w':=by
 have a:(s.extract k s.size).toList=[]:=by subst c;simp
 have g:(s.extract k s.size).toList.isEmpty=true:=by simp[a]
 have i:=Hd (uk R Q k s w h (by omega) d);clear h a;generalize s.extract k s.size=t at *
 go_enter Tryz.func224,Tryz.ntmps224
 go_wp2_with (first|(go_at_call 225;refine EX i.o ?_;rintro e w' ⟨rfl,b⟩))
 go_ret;exact⟨V,b.alloc b.size _⟩
theorem xh(R Q k:Nat)(s:ByteArray)(w:wD)(h:Rdr w R Q s k)(v:k<s.size)(l:s.size≤16384)(B n cap:Nat)(a:List ByteArray)(hB:w.heap[B]?=Y (wq (a.map J).toArray 9 (0,0)))(j:a.length=n)(d:n≤100) :
  xL xD 224 #[xV (Y ⟨R,0,U⟩),A (Y ⟨B,0,U⟩) n cap] w fun e w'=>e=z8 (AJ (a.any (hasB · s[k])))∧FK w w':=by
 have f:B<w.heap.size:=(EN.1 hB).1;obtain⟨m,p⟩:=zz2 hB j;have g:(s.extract k s.size).size=s.size-k:=by simp
 have i:0<(s.extract k s.size).size:=by omega
 have b:(s.extract k s.size)[0]=s[k]:=EB s k s.size 0 i (by omega);have q:(s.extract k s.size).toList.isEmpty=false:=fq _ i;have r:=Hd (uk R Q k s w h (by omega) l);clear hB j;rw[←b];generalize s.extract k s.size=t at *;clear g b
 go_enter Tryz.func224,Tryz.ntmps224
 go_wp2_with (first
  | (go_at_call 225;refine EX r.o ?_;rintro e w' ⟨rfl,c⟩)
  | (go_at_call 255;refine (tc B _ n cap a t _ ((FH _ _ _ (by have:=c.size;omega)).trans (aa c m.o f)) p.o d (cell_new1 _ _ _) i).mono ?_;rintro e u ⟨rfl,rfl⟩))
 go_ret;exact⟨V,c.alloc c.size _⟩
theorem j5(Q k:Nat)(p:Int)(s:ByteArray)(w:wD)(h:w.heap[Q]?=Y (wq #[J s,I Z k,I Z p] 247 (0,0)))(b:k<s.size)(c:s.size≤16384) :
  xL xD 227 #[xV (Y ⟨Q,0,U⟩)] w fun e w'=>e=z8 (CA #[I O (s[k].toNat:Int),.nilIface])∧w.grownBy w' (Y Q)∧w'.heap[Q]?=Y (wq #[J s,I Z (k+1:Nat),I Z (-1)] 247 (0,0)):=by
 have d:w.cell? ⟨Q,0,U⟩=Y (J s):=by simp[CR,h]
 have f:w.cell? ⟨Q,1,U⟩=Y (I Z k):=by simp[CR,h]
 have g:w.cell? ⟨Q,2,U⟩=Y (I Z p):=by simp[CR,h]
 have f1:w.frozen? ⟨Q,1,U⟩=false:=by simp[World.frozen?,h]
 have f2:w.frozen? ⟨Q,2,U⟩=false:=by simp[World.frozen?,h]
 have H:=Hd h;clear h;have a:xv ((s.size:Int)≤k)=false:=by simp;omega
 go_enter Tryz.func227,Tryz.ntmps227
 go_wp2
 go_quiet (fail)
 go_wp2
 go_quiet (fail)
 go_wp2
 go_ret2
 refine⟨V,gz (grown_drewN (gz (r8 w _) _ _) _) _ _,?_⟩;rw[heap_set (w:=World.drewN _ _) (heap_set H.o 2 (I Z (-1)))];rfl
def qm(w:wD) (Q:Nat):Nat:=match w.cell? ⟨Q,1,U⟩ with|some (I _ n)=>n.toNat|_=>0
theorem Rdr.pos{w:wD}{R Q:Nat}{s:ByteArray}{k:Nat}(h:Rdr w R Q s k):qm w Q=k:=by
 obtain⟨_,_,_,a,_⟩:=h.u;simp[qm,a]
theorem Rdr.h{w w':wD}{R Q:Nat}{s:ByteArray}{k k':Nat}{p:Int}(h:Rdr w R Q s k)(d:w.grownBy w' (Y Q))(f:w'.heap[Q]?=Y (wq #[J s,I Z k',I Z p] 247 (0,0))):Rdr w' R Q s k':=by
 obtain⟨_,_,_,_,_,_,_,a,b⟩:=h.u;have c:=h.ne;obtain⟨g,p,i⟩:=h;exact⟨(d.block R a (by intro e;injection e with e;exact c e)).trans g,_,f⟩
theorem tH(R Q k:Nat)(s:ByteArray)(w:wD)(h:Rdr w R Q s k)(a:k≤s.size)(b:s.size≤16384) :
  xL xD 229 #[xV (Y ⟨R,0,U⟩)] w fun e w'=>e=z8 (I Z k)∧FK w w':=by
 obtain⟨c,d,f,g,⟨p,i⟩,f1,f2,j,l⟩:=h.u;refine (qt R Q k s w c d f g a b).mono ?_;rintro e w' ⟨rfl,n,rfl⟩;exact⟨V,below_drewN (EP _ _) n⟩
theorem Rdr.q{w:wD}{R Q:Nat}{s:ByteArray}{k:Nat}(h:Rdr w R Q s k):∃p:Int,w.heap[Q]?=Y (wq #[J s,I Z k,I Z p] 247 (0,0)):=h.2
theorem take_any(R Q k:Nat)(s:ByteArray)(w:wD)(h:Rdr w R Q s k)(hk:k≤s.size)(m:s.size≤16384)(B n cap:Nat)(a:List ByteArray)(hB:w.heap[B]?=Y (wq (a.map J).toArray 9 (0,0)))(hn:a.length=n)(T:n≤100) :
  xL xD 228 #[xV (Y ⟨R,0,U⟩),A (Y ⟨B,0,U⟩) n cap] w fun e w'=>e=z8 (J (s.extract k (aA (fun c=>a.any (hasB · c)) s k)))∧w.grownBy w' (Y Q)∧Rdr w' R Q s (aA (fun c=>a.any (hasB · c)) s k):=by
 have W:Y B≠Y Q:=by
  obtain⟨p,hq⟩:=h.q;intro e;injection e with e
  exact kA hB hq (by decide) e
 obtain⟨HB,HN⟩:=zz2 hB hn;clear hB hn
 go_enter Tryz.func228,Tryz.ntmps228
 go_wp2_with (first
  | (go_at_call 229;refine (tH R Q k s _ h hk m).mono ?_;rintro e w1 ⟨rfl,g⟩))
 have t:=h.C g
 go_loopw [16] (fun _ wr=>∃j,k≤j∧j≤s.size∧aA (fun c=>a.any (hasB · c)) s j=aA (fun c=>a.any (hasB · c)) s k∧Rdr wr R Q s j∧w.grownBy wr (Y Q)) (fun _ wr=>s.size-qm wr Q)
 case atStart=>exact⟨k,EO _,hk,V,t,aP g _⟩
 case round =>
  obtain⟨j,ak,u,v,f,G⟩:=hrel;obtain⟨X,ad⟩:=zz2 v (aV G HB.o W);clear v g t
  by_cases H:j<s.size
  ·have K:=Hd (fun (x:Bool) (hx:(a.any (hasB · s[j]))=x)=>(xh R Q j s wr f H m B n cap a ad.o HN.o T).mono (R':=fun e w'=>e=z8 (AJ x)∧FK wr w') (fun e w' hh=>by rw[←hx];exact hh))
   cases r:a.any (hasB · s[j])
   ·obtain⟨HP,y⟩:=zz2 r (K.o _ r);clear K r
    go_wp2_with (first
     | (go_at_call 224;refine EX y.o ?_;rintro e w2 ⟨rfl,b⟩))
    obtain⟨L,M,N,S,⟨p,q2⟩,f1,f2,z,C⟩:=(f.C b).u
    go_quiet ((go_at_call 229;refine Calls.quiet_of (qt R Q j s _ L M N S u m)))
    go_wp2
    go_ret;have e:aA (fun c=>a.any (hasB · c)) s k=j:=by rw[←X.o];exact sF _ s j H HP.o
    rw[e];exact⟨V,grown_drewN (grown_below G b) _,f.C (below_drewN b _)⟩
   ·obtain⟨HP,y⟩:=zz2 r (K.o _ r);clear K r
    go_wp2_with (first
     | (go_at_call 224;refine EX y.o ?_;rintro e w2 ⟨rfl,b⟩;have d:=f.C b;obtain⟨L,M,N,S,⟨p,q2⟩,f1,f2,z,C⟩:=d.u;obtain⟨p',D⟩:=d.q;have af:=Hd D;clear D)
     | (go_at_call 227;refine (j5 Q j _ s _ af.o H m).mono ?_;rintro e w3 ⟨rfl,i,E⟩;have F:=Hd E;clear E))
    refine⟨⟨j+1,by omega,by omega,?_,d.h i F.o,sn (grown_below G b) i⟩,?_⟩
    ·rw[←X.o];exact gG _ s j H HP.o
    ·rw[(d.h i F.o).pos,f.pos];omega
  ·have l:j=s.size:=by omega
   have HJ:=Hd l;have y:=Hd (Az R Q j s wr f l m (A (Y ⟨B,0,U⟩) n cap));clear l
   go_wp2_with (first
    | (go_at_call 224;refine EX y.o ?_;rintro e w2 ⟨rfl,b⟩))
   obtain⟨L,M,N,S,⟨p,q2⟩,f1,f2,z,C⟩:=(f.C b).u
   go_quiet ((go_at_call 229;refine Calls.quiet_of (qt R Q j s _ L M N S u m)))
   go_wp2
   go_ret;have e:aA (fun c=>a.any (hasB · c)) s k=j:=by rw[←X.o];exact mh _ s j (by omega)
   rw[e];exact⟨V,grown_drewN (grown_below G b) _,f.C (below_drewN b _)⟩
theorem Rdr.b{w:wD}{R Q:Nat}{s:ByteArray}{k:Nat}(h:Rdr w R Q s k){T i:Nat}(u:wF)(a:T≠R)(b:T≠Q):Rdr (w.setCell ⟨T,i,U⟩ u) R Q s k:=by
 obtain⟨c,p,d⟩:=h;exact⟨aK c a _ _,p,aK d b _ _⟩
theorem Rdr.move{w w':wD}{R Q:Nat}{s:ByteArray}{k:Nat}{row:Option Nat}(h:Rdr w R Q s k)(a:w.grownBy w' row)(b:Y R≠row)(c:Y Q≠row):Rdr w' R Q s k:=by
 obtain⟨d,p,e⟩:=h;exact⟨aV a d b,p,aV a e c⟩
theorem qu(l:List UInt8)(c:UInt8):Lib.indexByte l c=if l.contains c then ((l.takeWhile (· != c)).length:Int) else -1:=by
 induction l with
 | nil=>rfl
 | cons a l d =>
  simp only[Lib.indexByte,List.contains_cons,d]
  by_cases h:a=c
  ·subst h;simp
  ·have f:(a==c)=false:=by simpa using h
   have g:(c==a)=false:=by simpa using fun e=>h e.symm
   have i:(a != c)=true:=by simpa using h
   simp only[f,g,Fo,sm,Bool.false_or,List.takeWhile_cons,i,sx,Fv]
   by_cases b:l.contains c
   ·simp only[b,sx];rw[qv (by simp)];omega
   ·simp only[b];simp
theorem zt(l:List UInt8)(c:UInt8)(h:l.contains c=xj):l.takeWhile (· != c)=l:=by
 induction l with
 | nil=>rfl
 | cons a l b =>
  simp only[List.contains_cons,Bool.or_eq_false_iff]at h;have d:(a != c)=true:=by
   have:=h.1;simp only[bne_iff_ne];rintro rfl;simp at this
  rw[List.takeWhile_cons,rv d,b h.2]
theorem Ci(l:List UInt8)(c:UInt8)(h:l.contains c=wP):(l.takeWhile (· != c)).length<l.length:=by
 induction l with
 | nil=>simp at h
 | cons a l b =>
  by_cases e:a=c
  ·subst e;simp
  ·have d:(a != c)=true:=by simpa using e
   rw[List.takeWhile_cons,rv d];have f:l.contains c=true:=by
    simp only[List.contains_cons,Bool.or_eq_true]at h;rcases h with h|h
    ·exact absurd (by simpa using h:c=a).symm e
    ·exact h
   have:=b f;simp;omega
theorem CQ(t:ByteArray)(i:Nat)(w:wD)(a:Lib.indexByte t.data.toList 10=(i:Int))(hle:i<t.size)(k:t.size≤16384) :
  xL xD 257 #[J t,J ⟨#[10]⟩] w fun e w'=>(∃b c,e=z8 (CA #[J (t.extract 0 i),b,c]))∧FK w w':=by
 have f:=Hd ((Tryz.stringslite_Index_one t 10 w).mono (R':=fun e w'=>e=z8 (I Z (i:Int))∧w=w') (fun e w' d=>⟨by rw[←a];exact d.1,d.2.symm⟩));clear a;have g:(0:Int)≤i:=by omega
 have h:(i:Int)≤t.size:=by omega
 have j:(i:Int)+1≤t.size:=by omega
 have l:(ByteArray.mk #[10]).size=1:=rfl
 go_enter Tryz.func257,Tryz.ntmps257
 go_wp2_with (first
  | (go_at_call 269;refine EX f.o ?_;rintro e w' ⟨rfl,rfl⟩))
 go_quiet (fail)
 go_wp2
 go_ret3
 exact⟨⟨_,_,V⟩,below_drewN (EP _ _) _⟩
theorem DL(t:ByteArray)(w:wD)(a:Lib.indexByte t.data.toList 10=-1) :
  xL xD 257 #[J t,J ⟨#[10]⟩] w fun e w'=>(∃b c,e=z8 (CA #[J t,b,c]))∧FK w w':=by
 have f:=Hd ((Tryz.stringslite_Index_one t 10 w).mono (R':=fun e w'=>e=z8 (I Z (-1))∧w=w') (fun e w' d=>⟨by rw[←a];exact d.1,d.2.symm⟩));clear a
 go_enter Tryz.func257,Tryz.ntmps257
 go_wp2_with (first
  | (go_at_call 269;refine EX f.o ?_;rintro e w' ⟨rfl,rfl⟩))
 go_ret3
 exact⟨⟨_,_,V⟩,EP _ _⟩
theorem Dt(t:ByteArray)(w:wD)(i:t.size≤16384) :
  xL xD 226 #[J t,J ⟨#[10]⟩] w fun e w'=>(∃n b c,e=z8 (CA #[J n,b,c])∧n.size=(t.data.toList.takeWhile (· != 10)).length)∧FK w w':=by
 have g:∀W:wD,xL xD 257 #[J t,J ⟨#[10]⟩] W fun e w'=>(∃n b c,e=z8 (CA #[J n,b,c])∧n.size=(t.data.toList.takeWhile (· != 10)).length)∧FK W w':=by
  intro W;have d:=qu t.data.toList 10
  by_cases f:t.data.toList.contains 10
  ·rw[rv f]at d;have j:(t.data.toList.takeWhile (· != 10)).length<t.size:=by simpa using Ci _ _ f
   refine (CQ t _ W d j i).mono ?_;rintro e w' ⟨⟨b,c,rfl⟩,a⟩;exact⟨⟨_,b,c,V,by simp;omega⟩,a⟩
  ·rw[qv f]at d;refine (DL t W d).mono ?_;rintro e w' ⟨⟨b,c,rfl⟩,a⟩;exact⟨⟨_,b,c,V,by rw[zt _ _ (by simpa using f)];simp⟩,a⟩
 have k:=Hd g;clear g
 go_enter Tryz.func226,Tryz.ntmps226
 go_wp2_with (first
  | (go_at_call 257;refine (k.o _).mono ?_;rintro e w' ⟨⟨n,b,c,rfl,h⟩,a⟩;have l:=Hd h;clear h))
 go_ret3
 exact⟨⟨n,b,c,V,l.o⟩,a⟩
def cP(c:UInt8):Bool:=c==9||c==10||c==13||c==32
def gU:Nat→ByteArray→Nat→Nat
 | 0,_,k=>k
 | f+1,s,k=>if h:k<s.size then (if cP s[k] then gU f s (k+1) else if s[k]==35 then gU f s (aA (· != 10) s k) else k) else k
def skip(s:ByteArray) (k:Nat):Nat:=gU (s.size-k) s k
theorem jn(s:ByteArray)(k:Nat)(h:k<s.size)(a:s[k]=35):k+1≤aA (· != 10) s k:=by
 rw[←gG (· != 10) s k h (by rw[a];rfl)];exact fk _ _ _
theorem wh(s:ByteArray):∀(f k:Nat),s.size-k≤f→gU f s k=skip s k:=by
 have H:∀(n f g k:Nat),s.size-k≤n→s.size-k≤f→s.size-k≤g→gU f s k=gU g s k:=by
  intro n
  induction n with
  | zero =>
   intro f g k e _ _;have a:¬k<s.size:=by omega
   cases f<;>cases g<;>simp[gU,a]
  | succ n c =>
   intro f g k e d j
   by_cases a:k<s.size
   ·obtain⟨f,rfl⟩:∃h,f=h+1:=⟨f-1,by omega⟩;obtain⟨g,rfl⟩:∃i,g=i+1:=⟨g-1,by omega⟩;simp only[gU,a,dif_pos]
    split
    ·exact c f g (k+1) (by omega) (by omega) (by omega)
    ·split
     ·rename_i _ b
      have:=jn s k a (by simpa using b);exact c f g _ (by omega) (by omega) (by omega)
     ·rfl
   ·cases f<;>cases g<;>simp[gU,a]
 exact fun f k d=>H _ _ _ k (EO _) d (EO _)
theorem kF(s:ByteArray)(k:Nat)(h:k<s.size)(a:cP s[k]=wP):skip s k=skip s (k+1):=by
 conv=>lhs;unfold skip
 rw[show s.size-k=(s.size-(k+1))+1 from by omega];simp only[gU,h,dif_pos,a,sx];rfl
theorem ll(s:ByteArray)(k:Nat)(h:k<s.size)(a:s[k]=35):skip s k=skip s (aA (· != 10) s k):=by
 have d:=jn s k h a
 conv=>lhs;unfold skip
 rw[show s.size-k=(s.size-(k+1))+1 from by omega];have c:cP s[k]=false:=by rw[a];rfl
 have b:(s[k]==35)=true:=by rw[a];rfl
 simp only[gU,h,dif_pos,c,b,sx,Fo,sm];exact wh s _ _ (by omega)
theorem jp(s:ByteArray)(k:Nat)(h:k<s.size)(a:cP s[k]=xj)(b:(s[k]==35)=xj):skip s k=k:=by
 unfold skip;rw[show s.size-k=(s.size-(k+1))+1 from by omega];simp[gU,h,a,b]
theorem eR(s:ByteArray)(k:Nat)(h:s.size≤k):skip s k=k:=by
 unfold skip;rw[show s.size-k=0 from by omega];rfl
theorem sO(s:ByteArray):∀(n k:Nat),s.size-k≤n→skip s (aA cP s k)=skip s k:=by
 intro n
 induction n with
 | zero=>intro k h;rw[mh _ _ _ (by omega)]
 | succ n c =>
  intro k h
  by_cases a:k<s.size
  ·by_cases b:cP s[k]=wP
   ·rw[←gG _ _ _ a b,c (k+1) (by omega),kF s k a b]
   ·rw[sF _ _ _ a (by simpa using b)]
  ·rw[mh _ _ _ (by omega)]
theorem kJ(s:ByteArray):∀(n k:Nat),s.size-k≤n→k≤skip s k:=by
 intro n
 induction n with
 | zero=>intro k h;rw[eR _ _ (by omega)];exact EO _
 | succ n c =>
  intro k h
  by_cases a:k<s.size
  ·by_cases d:cP s[k]=wP
   ·rw[kF s k a d];have:=c (k+1) (by omega);omega
   ·by_cases b:s[k]=35
    ·have e:=jn s k a b;rw[ll s k a b];have:=c (aA (· != 10) s k) (by omega);omega
    ·rw[jp s k a (by simpa using d) (by simpa using b)];exact EO _
  ·rw[eR _ _ (by omega)];exact EO _
theorem xb(s:ByteArray):∀(n k:Nat),s.size-k≤n→k≤s.size→skip s k≤s.size:=by
 intro n
 induction n with
 | zero=>intro k h a;rw[eR _ _ (by omega)];exact a
 | succ n c =>
  intro k h hle
  by_cases a:k<s.size
  ·by_cases d:cP s[k]=wP
   ·rw[kF s k a d];exact c (k+1) (by omega) (by omega)
   ·by_cases b:s[k]=35
    ·have e:=jn s k a b;rw[ll s k a b];exact c _ (by omega) (dm _ _ _ hle)
    ·rw[jp s k a (by simpa using d) (by simpa using b)];exact hle
  ·rw[eR _ _ (by omega)];exact hle
theorem Dz(s:ByteArray):∀(n k:Nat),s.size-k≤n→∀h:skip s k<s.size,cP s[skip s k]=xj∧(s[skip s k]==35)=false:=by
 intro n
 induction n with
 | zero=>intro k f h;rw[eR _ _ (by omega)]at h;omega
 | succ n d =>
  intro k f h
  by_cases a:k<s.size
  ·by_cases c:cP s[k]=wP
   ·have e:=kF s k a c;simp only[e]at h ⊢;exact d (k+1) (by omega) h
   ·by_cases b:s[k]=35
    ·have g:=jn s k a b;have e:=ll s k a b;simp only[e]at h ⊢;exact d _ (by omega) h
    ·have e:=jp s k a (by simpa using c) (by simpa using b);simp only[e];exact⟨by simpa using c,by simpa using b⟩
  ·rw[eR _ _ (by omega)]at h;omega
theorem kK(R Q k:Nat)(s:ByteArray)(w:wD)(h:Rdr w R Q s k)(g:k<s.size)(i:s.size≤16384)(a:List ByteArray)(arr:Array wF)(b:arr=(a.map J).toArray)(n cap:Nat)(j:a.length=n)(c:n≤100)
  (x:Bool) (l:a.any (hasB · s[k])=x) :
  xL xD 224 #[xV (Y ⟨R,0,U⟩),A (Y ⟨w.heap.size,0,U⟩) n cap] (w.alloc (wq arr 9)) fun e w'=>e=z8 (AJ x)∧FK w w':=by
 subst b;have d:FK w (w.alloc (wq (a.map J).toArray 9)):=(EP _ w).alloc (EO _) _;refine (xh R Q k s _ (h.C d) g i w.heap.size n cap a (p9 w _) j c).mono ?_;rintro e w' ⟨rfl,f⟩;exact⟨by rw[l],d.trans (f.mono d.size)⟩
theorem qA(R Q k:Nat)(s:ByteArray)(w:wD)(h:Rdr w R Q s k)(d:k=s.size)(f:s.size≤16384)(arr:Array wF)(c:wF) :
  xL xD 224 #[xV (Y ⟨R,0,U⟩),c] (w.alloc (wq arr 9)) fun e w'=>e=z8 (AJ xj)∧FK w w':=by
 have a:FK w (w.alloc (wq arr 9)):=(EP _ w).alloc (EO _) _;refine (Az R Q k s _ (h.C a) d f c).mono ?_;rintro e w' ⟨rfl,b⟩;exact⟨V,a.trans (b.mono a.size)⟩
theorem pN(R Q k:Nat)(s:ByteArray)(w:wD)(h:Rdr w R Q s k)(f:k≤s.size)(g:s.size≤16384)(a:List ByteArray)(arr:Array wF)(b:arr=(a.map J).toArray)(n cap:Nat)(i:a.length=n)(d:n≤100)
  (p:UInt8→Bool) (j:(fun c=>a.any (hasB · c))=p) :
  xL xD 228 #[xV (Y ⟨R,0,U⟩),A (Y ⟨w.heap.size,0,U⟩) n cap] (w.alloc (wq arr 9)) fun e w'=>e=z8 (J (s.extract k (aA p s k)))∧w.grownBy w' (Y Q)∧Rdr w' R Q s (aA p s k):=by
 subst b;subst j;have l:FK w (w.alloc (wq (a.map J).toArray 9)):=(EP _ w).alloc (EO _) _;refine (take_any R Q k s _ (h.C l) f g w.heap.size n cap a (p9 w _) i d).mono ?_;rintro e w' ⟨rfl,m,o⟩;exact⟨V,(World.grownBy_alloc w _ _).trans m,o⟩
theorem gR(R Q k:Nat)(s:ByteArray)(w:wD)(h:Rdr w R Q s k)(d:k<s.size)(f:s.size≤16384)(a:List ByteArray)(x:Bool)(g:a.any (hasB · s[k])=x)(arr:Array wF)(b:arr=(a.map J).toArray)(n cap:Nat)(i:a.length=n)(c:n≤100)
  (B:Nat) (hB:w.heap.size=B) :
  xL xD 224 #[xV (Y ⟨R,0,U⟩),A (Y ⟨B,0,U⟩) n cap] (w.alloc (wq arr 9)) fun e w'=>e=z8 (AJ x)∧FK w w':=by
 subst hB;exact kK R Q k s w h d f a arr b n cap i c x g
theorem take_at(R Q k:Nat)(s:ByteArray)(w:wD)(h:Rdr w R Q s k)(f:k≤s.size)(g:s.size≤16384)(a:List ByteArray)(p:UInt8→Bool)(i:(fun c=>a.any (hasB · c))=p)(arr:Array wF)(b:arr=(a.map J).toArray)(n cap:Nat)(j:a.length=n)(d:n≤100)
  (B:Nat) (hB:w.heap.size=B) :
  xL xD 228 #[xV (Y ⟨R,0,U⟩),A (Y ⟨B,0,U⟩) n cap] (w.alloc (wq arr 9)) fun e w'=>e=z8 (J (s.extract k (aA p s k)))∧w.grownBy w' (Y Q)∧Rdr w' R Q s (aA p s k):=by
 subst hB;exact pN R Q k s w h f g a arr b n cap j d p i
theorem nl:(fun c=>[(⟨#[9,10,13,32]⟩:ByteArray)].any (hasB · c))=cP:=by
 funext c
 show ((([9,10,13,32]:List UInt8).contains c)||false)=_
 simp only[List.contains_cons,List.contains_nil,Bool.or_false,cP,Bool.or_assoc]
theorem qd(c:UInt8):[(⟨#[35]⟩:ByteArray)].any (hasB · c)=(c==35):=by
 show ((([35]:List UInt8).contains c)||false)=_
 simp only[List.contains_cons,List.contains_nil,Bool.or_false]
theorem ko(c:UInt8):[(⟨#[9,10,13,32]⟩:ByteArray),⟨#[35]⟩].any (hasB · c)=(cP c||c==35):=by
 rw[←qd,←nl];simp
theorem tW(R Q k:Nat)(s:ByteArray)(w:wD)(h:Rdr w R Q s k)(a:k≤s.size)(b:s.size≤16384) :
  xL xD 225 #[xV (Y ⟨R,0,U⟩)] w fun e w'=>(∃t,e=z8 (J t)∧t.data.toList=s.data.toList.drop k∧t.size=s.size-k)∧FK w w':=by
 refine (uk R Q k s w h a b).mono ?_;rintro e w' ⟨rfl,c⟩;exact⟨⟨_,V,by rw[ByteArray.data_extract,Array.toList_extract];simp[List.extract,List.take_of_length_le],by simp⟩,c⟩
theorem rX(R Q k:Nat)(s:ByteArray)(w:wD)(h:Rdr w R Q s k)(hk:k≤s.size)(n:s.size≤16384) :
  xL xD 156 #[xV (Y ⟨R,0,U⟩)] w fun e w'=>e=z8 (CA #[])∧w.grownBy w' (Y Q)∧Rdr w' R Q s (skip s k):=by
 go_enter Tryz.func156,Tryz.ntmps156
 go_wp2_with fail
 go_loopw [33] (fun _ wr=>∃j,k≤j∧j≤s.size∧skip s j=skip s k∧Rdr wr R Q s j∧w.grownBy wr (Y Q)) (fun _ wr=>s.size-qm wr Q)
 case atStart=>exact⟨k,EO _,hk,V,h,r8 w _⟩
 case round =>
  obtain⟨j,bk,v,H,r,hg⟩:=hrel;have HS:=Hd H;clear H
  by_cases x:j<s.size
  ·cases u:cP s[j]
   ·cases G:s[j]==35
    ·have B:=Hd (kK R Q j s wr r x n [⟨#[9,10,13,32]⟩,⟨#[35]⟩] _ V 2 2 V (by omega) xj (by rw[ko,u,G];rfl));have HE:=Hd (jp s j x u G);clear u G
     go_wp2_with (first
      | (go_at_call 224;refine EX B.o ?_;rintro e K ⟨rfl,a⟩))
     go_end0
     rw[←HS.o,HE.o];exact⟨V,grown_below hg a,r.C a⟩
    ·have B:=Hd (kK R Q j s wr r x n [⟨#[9,10,13,32]⟩,⟨#[35]⟩] _ V 2 2 V (by omega) wP (by rw[ko,u,G];rfl));have L:=Hd G;clear u G;go_wp2_with fail
     refine EX B.o ?_;rintro e K ⟨rfl,a⟩;have f:=r.C a;have C:=Hd (kK R Q j s K f x n [⟨#[35]⟩] _ V 1 1 V (by omega) wP (by rw[qd];exact L.o));go_wp2_with fail
     refine EX C.o ?_;rintro e w3 ⟨rfl,g⟩;have y:=f.C g;go_wp2_with fail
     refine (tW R Q j s w3 y v n).mono ?_;rintro e w4 ⟨⟨t,rfl,M,N⟩,S⟩;have av:=y.C S;obtain⟨HT,bl⟩:=zz2 M N;have T:t.size≤16384:=by omega
     clear M N;go_wp2_with fail
     refine (Dt t w4 T).mono ?_;rintro e w5 ⟨⟨d,b,c,rfl,D⟩,W⟩;have a1:=av.C W;have HN:=Hd D;have E:j+d.size=aA (· != 10) s j:=by unfold aA;rw[D,HT.o]
     have a6:aA (· != 10) s j≤s.size:=dm _ _ _ v;have X:j+d.size≤s.size:=by omega
     have ba:=Hd E;have bb:w.grownBy w5 (Y Q):=grown_below (grown_below (grown_below (grown_below hg a) g) S) W;have bn:j<j+d.size:=by rw[E];exact jn s j x (by simpa using L.o)
     clear E a6 D;go_wp2_with fail
     go_loopw [22] (fun i wi=>∃m:Nat,m≤d.size∧i=I Z m∧Rdr wi R Q s (j+m)∧w.grownBy wi (Y Q)) (fun i _=>d.size-(intOf i).toNat)
     case atStart=>exact⟨0,Fa _,V,a1,bb⟩
     case round =>
      obtain⟨m,hm,rfl,z,ad⟩:=hrel
      by_cases bq:m<d.size
      ·obtain⟨r0,r1,q0,q1,⟨p,q2⟩,f1,f2,br,bt⟩:=z.u;obtain⟨p',af⟩:=z.q;have bc:=Hd af;clear af
       go_wp2_with (first
        | (go_at_call 227;refine (j5 Q (j+m) _ s _ bc.o (by omega) n).mono ?_;rintro e w6 ⟨rfl,ak,al⟩;have bd:=Hd al;clear al))
       go_roundw
       case rel=>exact⟨m+1,by omega,by go_num,z.h ak bd.o,sn ad ak⟩
       case measure=>simp[intOf];omega
      ·obtain rfl:m=d.size:=by omega
       go_wp2_with fail
       refine (pN R Q (j+d.size) s _ z X n [⟨#[9,10,13,32]⟩] _ V 1 1 V (by omega) cP nl).mono ?_;rintro e w7 ⟨rfl,F,l⟩;have HP:=Hd (sO s _ (j+d.size) (EO _));have bB:=fk cP s (j+d.size);have hle:=dm cP s (j+d.size) X;generalize aA cP s (j+d.size)=j2 at *;go_wp2_with fail
       refine⟨⟨j2,by omega,hle,?_,l,sn ad F⟩,?_⟩
       ·rw[HP.o,ba.o,←ll s j x (by simpa using L.o)];exact HS.o
       ·rw[l.pos,r.pos];omega
   ·have B:=Hd (kK R Q j s wr r x n [⟨#[9,10,13,32]⟩,⟨#[35]⟩] _ V 2 2 V (by omega) wP (by rw[ko,u];rfl));have aq:(s[j]==35)=false:=by
     cases hh:s[j]==35
     ·rfl
     ·exfalso
      have e:s[j]=35:=by simpa using hh
      rw[e]at u;cases u
    have L:=Hd aq;have bR:j<aA cP s j:=by
     have:=fk cP s (j+1);rw[gG cP s j x u]at this;omega
    clear u aq;go_wp2_with fail
    refine EX B.o ?_;rintro e K ⟨rfl,a⟩;have f:=r.C a;have C:=Hd (kK R Q j s K f x n [⟨#[35]⟩] _ V 1 1 V (by omega) xj (by rw[qd];exact L.o));go_wp2_with fail
    refine EX C.o ?_;rintro e w3 ⟨rfl,g⟩;have y:=f.C g;have HT:=Hd (pN R Q j s w3 y v n [⟨#[9,10,13,32]⟩] _ V 1 1 V (by omega) cP nl);have HP:=Hd (sO s _ j (EO _));have hle:=dm cP s j v;generalize aA cP s j=j2 at *;go_wp2_with fail
    refine EX HT.o ?_;rintro e w7 ⟨rfl,F,l⟩;go_wp2_with fail
    refine⟨⟨j2,by omega,hle,?_,l,sn (grown_below (grown_below hg a) g) F⟩,?_⟩
    ·rw[HP.o];exact HS.o
    ·rw[l.pos,r.pos];omega
  ·have ar:j=s.size:=by omega
   have HE:=Hd (eR s j (by omega));have B:=Hd (qA R Q j s wr r ar n #[J ⟨#[9,10,13,32]⟩,J ⟨#[35]⟩] (A (Y ⟨wr.heap.size,0,U⟩) 2 2));clear ar
   go_wp2_with (first
    | (go_at_call 224;refine EX B.o ?_;rintro e K ⟨rfl,a⟩))
   go_end0
   rw[←HS.o,HE.o];exact⟨V,grown_below hg a,r.C a⟩
def bN(c:UInt8):Bool:=xv (48≤c.toNat)&&xv (c.toNat≤57)
def kR:Nat:=9223372036854775807
def fG:Nat→List UInt8→Option Nat
 | n,[]=>Y n
 | n,c::r=>if bN c&&xv (10*n+(c.toNat-48)≤kR) then fG (10*n+(c.toNat-48)) r else U
def number(l:List UInt8):Option Nat:=if l.isEmpty then U else fG 0 l
theorem xB(s:ByteArray)(w:wD):∃c w',(convert 9 87 (J s)).run xD w=.ok (A (Y ⟨w.heap.size,0,U⟩) s.size c) w'∧FK w w'∧
  ∀j (a:j<s.size),w'.cell? ⟨w.heap.size,j,U⟩=Y (I O (s[j].toNat:Int)):=by
 refine⟨_,_,run_bytes_of_string w 9 87 5 s Tryz.underlying9 Tryz.underlying87 Tryz.underlying5,(EP _ w).drew.alloc (EO _) _,fun j a=>?_⟩;have h:(w.drew.alloc (wq (bytesRow s (grownCap w s.size 0 5)) 5 ((bytesRow s (grownCap w s.size 0 5)).size,(bytesRow s (grownCap w s.size 0 5)).size+1))).heap[w.heap.size]?=_:=p9 w.drew _;unfold World.cell?;rw[h];exact bytesRow_at s _ j a
theorem sg(s:ByteArray)(k m:Nat)(h:k<s.size)(a:bN s[k]=wP)(hm:10*m+(s[k].toNat-48)≤kR) :
  fG m (s.data.toList.drop k)=fG (10*m+(s[k].toNat-48)) (s.data.toList.drop (k+1)):=by
 rw[drop_cons s k h];simp only[fG,a,Bool.true_and,r7,hm,sx]
theorem ux(s:ByteArray)(k m:Nat)(h:k<s.size)(a:bN s[k]=xj∨kR<10*m+(s[k].toNat-48)) :
  fG m (s.data.toList.drop k)=none:=by
 rw[drop_cons s k h];simp only[fG];rw[qv];rcases a with a|a
 ·simp[a]
 ·simp only[Ff,r7,not_and];intro _;omega
theorem lA(s:ByteArray)(h:0<s.size):number s.data.toList=fG 0 s.data.toList:=by
 unfold number;rw[qv];have:=fq s h;rw[Fb]at this;rw[this];simp
theorem qF(s:ByteArray)(h:s.size=0):number s.data.toList=none:=by
 have e:s.data.toList=[]:=by
  have a:s.data.toList.length=0:=by rw[Fq];exact h
  exact Fp a
 rw[e];rfl
theorem mm(s:ByteArray)(w:wD)(W:s.size≤100000) :
  xL xD 137 #[J s] w fun e w'=>e=z8 (CA #[I Z (((number s.data.toList).getD 0:Nat):Int),AJ (number s.data.toList).isSome])∧FK w w':=by
 obtain⟨c,w1,r,a,b⟩:=xB s w;have L:=Hd b;clear b;have f:∀(o:Option Nat),number s.data.toList=o→∀(e:Ending) (w':wD),e=z8 (CA #[I Z ((o.getD 0:Nat):Int),AJ o.isSome])→FK w w'→(e=z8 (CA #[I Z (((number s.data.toList).getD 0:Nat):Int),AJ (number s.data.toList).isSome])∧FK w w'):=by intro o M e w' he N;rw[M];exact⟨he,N⟩
 have t:=Hd f;clear f
 go_enter Tryz.func137,Tryz.ntmps137
 go_wp2
 clear r
 go_loopw [4,11] (fun n i wr=>∃(k m:Nat),k≤s.size∧i=I Z k∧n=I Z m∧m≤9223372036854775807∧fG m (s.data.toList.drop k)=fG 0 s.data.toList∧wr=w1) (fun _ i _=>s.size-(intOf i).toNat)
 case atStart=>exact⟨0,0,Fa _,V,V,by omega,V,V⟩
 case round =>
  obtain⟨k,m,X,rfl,rfl,hm,g,rfl⟩:=hrel;have z:=Hd g;clear g
  by_cases j:k<s.size
  ·have Q:=L.o k j;have hd:=s[k].toNat_lt;obtain⟨R,S⟩:=zz2 (sg s k m j) (ux s k m j);have H:Hid (bN s[k]=(xv (48≤s[k].toNat)&&xv (s[k].toNat≤57))):=rfl;generalize bN s[k]=C at *;generalize s[k].toNat=d at *;have u:∀h:48≤d∧d≤57,C=true:=fun h=>by rw[H.o];simp[h.1,h.2]
   have v:∀h:¬(48≤d∧d≤57),C=false:=fun h=>by rw[H.o];simp;omega
   obtain⟨D,x⟩:=zz2 u v;clear u v;have y:(C=xj∨kR<10*m+(d-48))→number s.data.toList=none:=fun h=>by rw[lA s (by omega),←z.o];exact S.o h
   have p:=Hd y;clear y
   go_wp2
   ·go_ret2
    have B:9223372036854775807<10*m+(d-48):=by omega
    exact t.o U (p.o (z7 B)) _ _ V a
   ·have B:10*m+(d-48)≤9223372036854775807:=by omega
    refine⟨⟨k+1,10*m+(d-48),by omega,by go_num,?_,B,?_,by trivial⟩,by simp[intOf];omega⟩
    ·congr 1;omega
    ·rw[←R.o (D.o (by omega)) B];exact z.o
   ·go_ret2
    exact t.o U (p.o (z6 (x.o (by omega)))) _ _ V a
   ·go_ret2
    exact t.o U (p.o (z6 (x.o (by omega)))) _ _ V a
  ·obtain rfl:k=s.size:=by omega
   rcases Nat.eq_zero_or_pos s.size with q|q
   ·have E:m=0:=by
     have F:=z.o;have e:s.data.toList=[]:=Fp (by rw[Fq];exact q);rw[e]at F;simp[fG]at F;exact F
    have he:s.toList.isEmpty=true:=by rw[Fb,Fp (l:=s.data.toList) (by rw[Fq];exact q)];rfl
    have G:=Hd q;subst E;clear q
    go_wp2
    go_ret2
    exact t.o U (qF s G.o) _ _ V a
   ·have he:s.toList.isEmpty=false:=fq s q;have K:number s.data.toList=Y m:=by rw[lA s q,←z.o,drop_end s _ (EO _)];rfl
    have T:=Hd K;clear K
    go_wp2
    go_ret2
    exact t.o _ T.o _ _ V a
theorem qL(s:ByteArray)(w:wD)(a:s.size≤16384) :
  xL xD 137 #[J s] w fun e w'=>e=z8 (CA #[I Z (((number s.data.toList).getD 0:Nat):Int),AJ (number s.data.toList).isSome])∧FK w w':=mm s w (by omega)
theorem uX(p:UInt8→Bool)(h:(List.range 256).all (fun n=>p (UInt8.ofNat n))=wP)(c:UInt8):p c=true:=by
 have a:=Fx.1 h c.toNat (List.mem_range.2 c.toNat_lt)
 simpa using a
def isLow(c:UInt8):Bool:=xv (97≤c.toNat)&&xv (c.toNat≤122)
def be(c:UInt8):Bool:=isLow c||bN c||c==95
def dj:ByteArray:=⟨#[97,98,99,100,101,102,103,104,105,106,107,108,109,110,111,112,113,114,115,116,117,118,119,120,121,122]⟩
def jM:ByteArray:=⟨#[48,49,50,51,52,53,54,55,56,57]⟩
def fY:ByteArray:=⟨#[97,98,99,100,101,102,103,104,105,106,107,108,109,110,111,112,113,114,115,116,117,118,119,120,121,122,48,49,50,51,52,53,54,55,56,57,95]⟩
theorem lM(c:UInt8):hasB dj c=isLow c:=by
 have:=uX (fun c=>hasB dj c==isLow c) (by kernel_rfl) c
 simpa using this
theorem yt(c:UInt8):hasB jM c=bN c:=by
 have:=uX (fun c=>hasB jM c==bN c) (by kernel_rfl) c
 simpa using this
theorem uu(c:UInt8):hasB fY c=be c:=by
 have:=uX (fun c=>hasB fY c==be c) (by kernel_rfl) c
 simpa using this
def eX(l:List UInt8):Bool:=
 match l with
 | []=>xj
 | c::_=>xv (l.length≤24)&&isLow c
theorem kb(s:ByteArray)(w:wD)(m:s.size≤16384) :
  xL xD 230 #[J s] w fun e w'=>e=z8 (AJ (eX s.data.toList))∧w=w':=by
 rcases Nat.eq_zero_or_pos s.size with a|a
 ·have e:s.data.toList=[]:=Fp (by rw[Fq];exact a);have he:s.toList.isEmpty=true:=by rw[Fb,e];rfl
  have j:=Hd e;clear e a
  go_enter Tryz.func230,Tryz.ntmps230
  go_wp2
  go_ret;rw[j.o];exact⟨V,V⟩
 ·have he:s.toList.isEmpty=false:=fq s a;have b:s.data.toList=s[0]::s.data.toList.drop 1:=by
   have:=drop_cons s 0 a
   simpa using this
  have c:eX s.data.toList=(xv (s.size≤24)&&hasB dj s[0]):=by rw[lM,b];unfold eX;simp only[←b,Fq];rfl
  have d:=Hd c;have k:=Hd ((ik dj s[0] w).mono (R':=fun e w'=>(∃i:Int,e=z8 (I Z i)∧xv (0≤i)=hasB dj s[0])∧w=w') (fun e w' f=>⟨⟨_,f.1,km _ _⟩,f.2⟩));clear c b
  go_enter Tryz.func230,Tryz.ntmps230
  by_cases g:s.size≤24
  ·go_wp2_with (first
    | (go_at_call 206;refine EX k.o ?_;rintro e w' ⟨⟨i,rfl,h⟩,rfl⟩;have l:=Hd h;clear h))
   go_ret;rw[d.o,←l.o];exact⟨by simp[g],V⟩
  ·go_wp2
   go_ret;rw[d.o];exact⟨by simp[g],V⟩
def aR(w:wD):Prop:=∀c:Nat,c<256→w.cell? ⟨1,c,U⟩=Y (I O (if Lib.isSp (UInt8.ofNat c) then 1 else 0))
theorem aR.lt{w:wD}(h:aR w):1<w.heap.size:=by
 have a:=h 0 (by omega);unfold World.cell? at a;rcases Nat.lt_or_ge 1 w.heap.size with b|b
 ·exact b
 ·rw[FD b]at a;cases a
theorem aR.u{w w':wD}(h:aR w)(b:w'.heap[(1:Nat)]?=w.heap[(1:Nat)]?):aR w':=
 fun c d=>(World.cell?_of_block (a:=⟨1,c,U⟩) b).trans (h c d)
theorem aR.z{w w':wD}(h:aR w)(a:FK w w'):aR w':=h.u (a.block _ h.lt)
theorem aR.h{w w':wD}{g:Nat}(h:aR w)(a:w.grownBy w' (Y g))(b:g≠1):aR w':=
 h.u (a.block _ h.lt (fun e=>by injection e with e;exact b e.symm))
theorem nW(s:ByteArray)(L:List ByteArray)(c:(Lib.fields s.data.toList).map (fun l=>J ⟨l.toArray⟩)=L.map J)(d:s.size<4294967281)(a:s.data.toList.all (fun b=>xv (b.toNat<128))=wP)(w:wD)(f:aR w) :
  xL xD 231 #[J s] w fun e w'=>e=z8 (A (Y ⟨w.heap.size,0,U⟩) L.length L.length)∧w'=w.alloc (wq (L.map J).toArray 9):=by
 have hlen:(Lib.fields s.data.toList).length=L.length:=by
  have:=tF List.length c
  simpa using this
 refine (Any.strings_Fields_core Tryz.lays157 (by kernel_rfl) s w d (fun j b g=>?_) f).mono ?_
 ·have:=Fx.1 a b (Fj g)
  simpa using this
 ·rintro e w' ⟨he,hw⟩;rw[hlen]at he;rw[c]at hw;exact⟨he,hw⟩
def eY:List ByteArray:=[⟨#[102,97,99,116]⟩,⟨#[114,117,108,101]⟩,⟨#[115,97,108,105,101,110,99,101]⟩,⟨#[110,111,116]⟩,⟨#[116,101,115,116]⟩,⟨#[97,115,115,101,114,116]⟩,⟨#[114,101,116,114,97,99,116]⟩,⟨#[115,97,121]⟩,⟨#[104,97,108,116]⟩,⟨#[97,110,100]⟩,⟨#[111,114]⟩]
def AU:ByteArray:=⟨#[102,97,99,116,32,114,117,108,101,32,115,97,108,105,101,110,99,101,32,110,111,116,32,116,101,115,116,32,97,115,115,101,114,116,32,114,101,116,114,97,99,116,32,115,97,121,32,104,97,108,116,32,97,110,100,32,111,114]⟩
def eK:List ByteArray:=[⟨#[61,62]⟩,⟨#[33,61]⟩,⟨#[60,61]⟩,⟨#[62,61]⟩,⟨#[40]⟩,⟨#[41]⟩,⟨#[123]⟩,⟨#[125]⟩,⟨#[44]⟩,⟨#[59]⟩,⟨#[61]⟩,⟨#[60]⟩,⟨#[62]⟩,⟨#[43]⟩,⟨#[45]⟩,⟨#[42]⟩,⟨#[95]⟩]
def Au:ByteArray:=⟨#[61,62,32,33,61,32,60,61,32,62,61,32,40,32,41,32,123,32,125,32,44,32,59,32,61,32,60,32,62,32,43,32,45,32,42,32,95]⟩
theorem uE(w:wD)(a:aR w) :
  xL xD 231 #[J AU] w fun e w'=>e=z8 (A (Y ⟨w.heap.size,0,U⟩) 11 11)∧w'=w.alloc (wq (eY.map J).toArray 9):=
 nW AU eY (by kernel_rfl) (by decide) (by kernel_rfl) w a
theorem uV(w:wD)(a:aR w) :
  xL xD 231 #[J Au] w fun e w'=>e=z8 (A (Y ⟨w.heap.size,0,U⟩) 17 17)∧w'=w.alloc (wq (eK.map J).toArray 9):=
 nW Au eK (by kernel_rfl) (by decide) (by kernel_rfl) w a
theorem sY(w:wD)(a:aR w) :
  xL xD 214 #[] w fun e w'=>e=z8 (A (Y ⟨w.heap.size,0,U⟩) 11 11)∧w'=w.alloc (wq (eY.map J).toArray 9):=by
 have b:=Hd (uE w a)
 go_enter Tryz.func214,Tryz.ntmps214
 go_wp2_with (first
  | (go_at_call 231;refine EX b.o ?_;rintro e w' ⟨rfl,rfl⟩))
 go_ret;exact⟨V,V⟩
def de(l:List UInt8):Bool:=eY.any (fun b=>b.data.toList==l)
theorem Ar(x:ByteArray):Lib.containsS eY x=de x.data.toList:=by
 rw[Fw,Lib.containsS_iff,de,List.any_eq_true]
 constructor
 ·intro h;exact⟨x,h,by simp⟩
 ·rintro ⟨y,c,he⟩;have e:y=x:=by
   have a:y.data.toList=x.data.toList:=by simpa using he
   have b:y.data=x.data:=Array.toList_inj.1 a;exact ByteArray.ext b
  rwa [←e]
theorem lT(B c:Nat)(x:ByteArray)(w:wD)(h:w.heap[B]?=Y (wq (eY.map J).toArray 9 (0,0))) :
  xL xD 213 #[A (Y ⟨B,0,U⟩) 11 c,J x] w fun e w'=>e=z8 (AJ (de x.data.toList))∧w=w':=by
 refine (Tryz.slices_Contains_string B 0 11 c eY x w (by decide) (by decide) (fun j a=>?_)).mono ?_
 ·rw[Nat.zero_add,FI _ _ _ _ _ _ h];simp[List.getD_eq_getElem?_getD,List.getElem?_eq_getElem a]
 ·rintro e w' ⟨rfl,hw⟩;refine⟨?_,hw.symm⟩;rw[show eY.take 11=eY from rfl,Ar]
