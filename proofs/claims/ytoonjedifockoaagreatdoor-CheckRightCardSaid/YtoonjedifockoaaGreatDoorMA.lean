/- Parts of one proof, joined; conditions stand in each theorem. -/
import Derived.WalkKit
import Derived.WalkSpells
import Derived.WalkLawsBesides
import Derived.Maps.AppendAt
import Derived.Lib.Hide
import Derived.ArgAppend
import Derived.Deep.AppendLies
import Derived.Test.YtoonjedifockoaaGreatDoorProg
import Derived.Test.YtoonjedifockoaaGreatDoorShelf
import Derived.Deep.QuietTactic
import Derived.BigQuiet
import Derived.LoopTactic
import Derived.Laws.IdiomStrings
namespace Go.Proofs.YtoonjedifockoaaGreatDoor
open Go.IntKind(i64)
open Go.Value(int string slice)
set_option maxHeartbeats 1000000
set_option maxRecDepth 100000
open Go.RowKit
theorem zzx{α:Sort _}(a:α):∃x,x=a:=⟨a,rfl⟩
theorem zzy{α:Sort _}(a:α):∃x,a=x:=⟨a,rfl⟩
abbrev n7:=@Go.heap_alloc_new
abbrev n8:=@if_neg
abbrev n9:=@if_pos
abbrev oc:=@decide_eq_false
abbrev oe:=@decide_eq_true_eq
abbrev oi:=@if_false
abbrev oj:=@of_decide_eq_true
abbrev ot:=@decide_eq_true_iff
abbrev ox:=@Option.some.injEq
abbrev oA:=@if_true
abbrev oB:=@or_false
abbrev oE:=@Go.Sem.run_bind
abbrev oF:=@Go.Sem.run_pure
abbrev oT:=@congrArg
abbrev oX:=@beq_eq_false_iff_ne
abbrev o1:=@Option.some.inj
abbrev o2:=@beq_iff_eq
abbrev o3:=@decide_eq_false_iff_not
abbrev Ez:=@Array.getElem?_eq_some_iff
abbrev EA:=@Nat.le_refl
abbrev EB:=@Below.refl
abbrev EC:=@List.setIfInBounds_toArray
abbrev ED:=@Below.heap_setCell
abbrev EE:=@List.getElem?_eq_getElem
abbrev EF:=@Nat.lt_of_lt_of_le
abbrev EG:=@Nat.le_trans
abbrev EH:=@List.set_cons_succ
abbrev EI:=@List.set_cons_zero
abbrev EJ:=@Calls.mono
abbrev EK:=@List.take_succ_cons
abbrev EL:=@List.drop_succ_cons
abbrev EM:=@Nat.zero_le
abbrev EN:=@ByteArray.toList_eq
abbrev EO:=@List.length_append
abbrev EP:=@List.getElem?_eq_some_iff
abbrev EQ:=@Bool.and_eq_true
abbrev ER:=@List.take_of_length_le
abbrev ES:=@List.drop_zero
abbrev ET:=@List.take_zero
abbrev EU:=@List.mem_of_getElem?
abbrev EV:=@Nat.le_succ
abbrev EW:=@Bool.false_eq_true
abbrev EX:=@List.eq_nil_of_length_eq_zero
abbrev EY:=@Array.length_toList
abbrev EZ:=@List.getElem?_append_right
abbrev Fa:=@Nat.le_of_lt
abbrev Fb:=@List.length_cons
abbrev Fc:=@Bool.eq_iff_iff
abbrev Fe:=@List.all_eq_true
abbrev Ff:=@List.not_mem_nil
abbrev Fg:=@List.take_add_one
abbrev Fh:=@List.mem_cons
abbrev Fi:=@List.getElem?_append_left
abbrev Fj:=@List.getElem?_cons_succ
abbrev Fl:=@Array.getElem?_eq_none
abbrev Fo:=@List.length_singleton
abbrev Fp:=@Below.heap_alloc
abbrev Fq:=@cell_of_row
def Hid(p:Prop):Prop:=p
theorem Hid.o{p:Prop}(h:Hid p):p:=h
theorem Hd{p:Prop}(h:p):Hid p:=h
abbrev Ft(w W:World):Prop:=Below w.heap.size w W
def hasB(st:ByteArray) (c:UInt8):Bool:=st.data.toList.contains c
theorem sf(p:ByteArray→Bool)(l:List ByteArray)(k:Nat)(x:ByteArray)(a:l[k]?=some x)(h:(l.take k).any p=false):(l.take (k+1)).any p=p x:=by rw[Fg,a,List.any_append,h];simp
theorem yj(p:ByteArray→Bool)(l:List ByteArray)(k:Nat)(x:ByteArray)(a:l[k]?=some x)(h:p x=true):l.any p=true:=
 List.any_eq_true.2 ⟨x,EU a,h⟩
theorem below_drewN{B:Nat}{a w:World}(h:Below B a w)(n:Nat):Below B a (w.drewN n):=⟨h.os,h.tape,h.output,h.size,h.block⟩
theorem El(s:ByteArray)(a b i:Nat)(h:i<(s.extract a b).size)(c:a+i<s.size):(s.extract a b)[i]=s[a+i]:=by simp only[ByteArray.getElem_eq_getElem_data,ByteArray.data_extract,Array.getElem_extract]
theorem hH(t:ByteArray)(h:0<t.size):t.toList.isEmpty=false:=by
 rw[EN]
 cases b:t.data.toList with
 | nil =>
  have:t.data.toList.length=0:=by rw[b];rfl
  rw[EY]at this;have c:t.size=t.data.size:=rfl;omega
 | cons a l=>rfl
theorem cell_new1(w:World)(v:Value)(t:TypeId):(w.alloc (.cells #[v] t)).cell? ⟨w.heap.size,0,none⟩=some v:=by
 have h:(w.alloc (.cells #[v] t)).heap[w.heap.size]?=some (.cells #[v] t):=n7 w _;exact Fq _ _ 0 _ _ _ h
theorem heap_set{w:World}{g:Nat}{cs:Array Value}{t:TypeId}(h:w.heap[g]?=some (.cells cs t (0,0)))(i:Nat)(u:Value) :
  (w.setCell ⟨g,i,none⟩ u).heap[g]?=some (.cells (cs.setIfInBounds i u) t (0,0)):=by
 simp[World.setCell,Array.getElem?_modify,h]
theorem fG{a w:World}{g:Nat}(h:a.grownBy w (some g))(i:Nat)(u:Value):a.grownBy (w.setCell ⟨g,i,none⟩ u) (some g):=
 ⟨h.os,h.tape,h.output,by simpa [World.setCell]using h.size,fun j c b=>(ED w ⟨g,i,none⟩ u j (fun e=>b (by rw[e]))).trans (h.block j c b)⟩
theorem grown_drewN{a w:World}{row:Option Nat}(h:a.grownBy w row)(n:Nat):a.grownBy (w.drewN n) row:=⟨h.os,h.tape,h.output,h.size,h.block⟩
theorem aa{B i:Nat}{w w':World}{o:Option Obj}(a:Below B w w')(h:w.heap[i]?=o)(b:i<B):w'.heap[i]?=o:=(a.block i b).trans h
def aA(p:UInt8→Bool) (s:ByteArray) (k:Nat):Nat:=k+((s.data.toList.drop k).takeWhile p).length
theorem drop_cons(s:ByteArray)(k:Nat)(h:k<s.size):s.data.toList.drop k=s[k]::s.data.toList.drop (k+1):=by rw[List.drop_eq_getElem_cons (by simpa using h)];rfl
theorem drop_end(s:ByteArray)(k:Nat)(h:s.size≤k):s.data.toList.drop k=[]:=List.drop_eq_nil_of_le (by simpa using h)
theorem fN(p:UInt8→Bool)(s:ByteArray)(k:Nat)(h:k<s.size)(a:p s[k]=true):aA p s (k+1)=aA p s k:=by unfold aA;rw[drop_cons s k h];simp[a];omega
theorem rF(p:UInt8→Bool)(s:ByteArray)(k:Nat)(h:k<s.size)(a:p s[k]=false):aA p s k=k:=by unfold aA;rw[drop_cons s k h];simp[a]
theorem lA(p:UInt8→Bool)(s:ByteArray)(k:Nat)(h:s.size≤k):aA p s k=k:=by unfold aA;rw[drop_end s k h];rfl
theorem eG(p:UInt8→Bool)(s:ByteArray)(k:Nat):k≤aA p s k:=by unfold aA;omega
theorem cQ(p:UInt8→Bool)(s:ByteArray)(k:Nat)(h:k≤s.size):aA p s k≤s.size:=by
 unfold aA;have a:=(List.takeWhile_sublist p (l:=s.data.toList.drop k)).length_le;have b:(s.data.toList.drop k).length=s.size-k:=by simp
 omega
theorem grown_below{a w w':World}{row:Option Nat}(b:a.grownBy w row)(c:Ft w w'):a.grownBy w' row:=
 ⟨c.os.trans b.os,c.tape.trans b.tape,c.output.trans b.output,EG b.size c.size,fun i e d=>(c.block i (EF e b.size)).trans (b.block i e d)⟩
theorem aH{a w:World}(h:Ft a w)(row:Option Nat):a.grownBy w row:=⟨h.os,h.tape,h.output,h.size,fun i b _=>h.block i b⟩
theorem aP{w w':World}{i:Nat}{row:Option Nat}{o:Obj}(b:w.grownBy w' row)(h:w.heap[i]?=some o)(a:some i≠row):w'.heap[i]?=some o:=
 (b.block i (Ez.1 h).1 a).trans h
theorem jM{w:World}{i j:Nat}{cs b:Array Value}{t u:TypeId}(h:w.heap[i]?=some (.cells cs t (0,0)))(k:w.heap[j]?=some (.cells b u (0,0)))(a:t≠u):i≠j:=by
 rintro rfl;rw[h]at k;injection k with k
 injection k with _ k
 exact a k
theorem cells3{w:World}{T:Nat}{a b c:Value}{t:TypeId}(h:w.heap[T]?=some (.cells #[a,b,c] t (0,0))) :
  w.cell? ⟨T,0,none⟩=some a∧w.cell? ⟨T,1,none⟩=some b∧w.cell? ⟨T,2,none⟩=some c∧w.frozen? ⟨T,0,none⟩=false∧w.frozen? ⟨T,1,none⟩=false∧w.frozen? ⟨T,2,none⟩=false:=by
 simp[World.cell?,World.frozen?,h]
theorem dz{a w:World}{row:Option Nat}(h:a.grownBy w row){T:Nat}(d:a.heap.size≤T)(i:Nat)(u:Value):a.grownBy (w.setCell ⟨T,i,none⟩ u) row:=
 ⟨h.os,h.tape,h.output,by simpa [World.setCell]using h.size,fun j c b=>(ED w ⟨T,i,none⟩ u j (by show j≠T;omega)).trans (h.block j c b)⟩
theorem aB{w:World}{g T:Nat}{o:Obj}(h:w.heap[g]?=some o)(a:T≠g)(i:Nat)(u:Value):(w.setCell ⟨T,i,none⟩ u).heap[g]?=some o:=
 (ED w ⟨T,i,none⟩ u g (fun e=>a e.symm)).trans h
theorem gn(w:World)(o:Obj)(i:Nat):(w.alloc o).heap[i]?=if i=w.heap.size then some o else w.heap[i]?:=by
 show (w.heap.push o)[i]?=_
 rw[Array.getElem?_push]
theorem lT(w:World)(l:List Value)(t:TypeId):∀(j:Nat) (u:Value),l[j]?=some u→(w.alloc (.cells l.toArray t)).cell? ((⟨w.heap.size,0,none⟩:Addr).add j)=some u:=by
 intro j u h;have b:(w.alloc (.cells l.toArray t)).heap[w.heap.size]?=some (.cells l.toArray t (0,0)):=n7 w _;have e:((⟨w.heap.size,0,none⟩:Addr).add j)=⟨w.heap.size,j,none⟩:=by
  unfold Addr.add
  by_cases a:j=0
  ·rw[n9 a,a]
  ·rw[n8 a];simp
 rw[e,Fq _ _ _ _ _ _ b]
 simpa using h
theorem ao{w:World}{T:Nat}{cs:Array Value}{t:TypeId}(h:w.heap[T]?=some (.cells cs t (0,0)))(i:Nat):w.frozen? ⟨T,i,none⟩=false:=by simp[World.frozen?,h]
theorem ownsRow_base{w:World}{b b':Nat}{e:TypeId}{size n:Nat}{v:Value}{xs:List Value}(h:w.ownsRow b e size v n xs)(c:b'≤b):w.ownsRow b' e size v n xs:=by
 obtain⟨d,a⟩:=h;refine⟨d,?_⟩;rcases a with a|⟨g,cap,cur,f,i,r⟩
 ·exact .inl a
 ·exact .inr ⟨g,cap,cur,f,EG c i,r⟩
theorem bN{a b:Bool}(h:a=b):Ending.returned (.bool a)=.returned (.bool b):=by rw[h]
theorem ownsRow_below{w w':World}{b:Nat}{e:TypeId}{size n:Nat}{v:Value}{xs:List Value}(h:w.ownsRow b e size v n xs)(a:Ft w w'):w'.ownsRow b e size v n xs:=by
 refine h.kept (aH a none) ?_
 cases c:v.ownBlock with
 | none=>exact .inl rfl
 | some k=>exact .inr (by simp)
theorem kp(w:World)(o:Obj)(l:List Value)(t:TypeId):∀(j:Nat) (u:Value),l[j]?=some u→((w.alloc o).alloc (.cells l.toArray t)).cell? ((⟨w.heap.size+1,0,none⟩:Addr).add j)=some u:=by
 have h:=lT (w.alloc o) l t;rw[World.size_alloc]at h;exact h
section
variable {P:Program} (w:World)
theorem kq(base:Nat)(t ty e:TypeId)(i:TypeInfo)(z:Value)(size bytes:Nat)(E:P.underlying t=some (.slice e))(F:P.info? e=some i)(L:i.zero=some z)
  (p:i.size=size) (G:i.bytes=bytes) (H:z.cells.size=size) (N:0<size)
  (v:Value) (n:Nat) (xs:List Value) (b:w.ownsRow base e size v n xs)
  (a:Addr) (m c:Nat) (news:List Value) (x:news.length=m*size) (f:∀j u,news[j]?=some u→w.cell? (a.add j)=some u) (O:∀u∈news,u.oneCell'=true)
  (y:n+m≤maxLen) (l:(n+m)*bytes≤140737488355328) (q:base≤w.heap.size) (hm:0<m) :
  ∃C w',(Builtin.append_ #[t,t] ty #[v,slice (some a) m c]).run P w=.ok C w'∧w'.ownsRow base e size C (n+m) (xs++news)∧
   ((∃g cap,v=slice (some ⟨g,0,none⟩) n cap∧C=slice (some ⟨g,0,none⟩) (n+m) cap∧w.grownBy w' (some g))∨
    (∃cap,C=slice (some ⟨w.heap.size,0,none⟩) (n+m) cap∧Ft w w')):=by
 subst p;subst G;have D:n+m≤9223372036854775807:=by simp only[maxLen]at y;omega
 have hlen:(xs++news).length=(n+m)*i.size:=by rw[EO,b.1,x,Nat.add_mul]
 have grown:∀(d:Nat),d<n+m→
   (w.drew.alloc (.cells (xs.toArray++news.toArray++Builtin.zeroCells z.cells (grownCap w (n+m) d e-(n+m))) e)).ownsRow base e i.size
    (slice (some ⟨w.heap.size,0,none⟩) (n+m) (grownCap w (n+m) d e)) (n+m) (xs++news)∧
   Ft w (w.drew.alloc (.cells (xs.toArray++news.toArray++Builtin.zeroCells z.cells (grownCap w (n+m) d e-(n+m))) e)):=by
  intro d U;have I:=grownCap_ge w (n+m) d e;have r:grownCap w (n+m) d e≤maxLen:=grownCap_le_maxLen w (n+m) d e y;refine⟨⟨hlen,.inr ⟨w.heap.size,_,_,rfl,q,n7 w.drew _,I,r,?_,?_⟩⟩,(EB _ w).drew.alloc (EA _) _⟩
  ·simp only[Array.size_append,List.size_toArray,size_zeroCells,H,b.1,x,←Nat.add_mul]
   congr 1
   omega
  ·simp only[Array.toList_append,List.append_assoc];rw[←List.append_assoc,←hlen];exact List.take_left
 rcases b.2 with ⟨rfl,rfl⟩|⟨g,cap,cur,rfl,J,M,Q,r,K,s⟩
 ·have R:xs=[]:=EX (by simpa using b.1);subst R;have A:=run_append_nil (P:=P) w t ty e i z E F L a m c news x f (by omega) (by omega) (by have S:=l;simp only[Nat.zero_add]at S;omega);have o:=grown 0 (by omega);simp only[Nat.zero_add,List.nil_append,Array.empty_append]at o ⊢;exact⟨_,_,A,o.1,Or.inr ⟨_,rfl,o.2⟩⟩
 ·by_cases h:n+m≤cap
  ·have B:n*i.size+news.length≤cur.size:=by rw[x,K,←Nat.add_mul];exact Nat.mul_le_mul_right _ h
   have A:=run_append_room (P:=P) w t ty e i E F g n cap cur M a m c news x f O h B;refine⟨_,_,A,⟨hlen,.inr ⟨g,cap,_,rfl,J,setRow_heap w g cur _ e _ M,h,r,?_,?_⟩⟩,Or.inl ⟨g,cap,rfl,rfl,⟨rfl,rfl,rfl,by simp,fun k _ T=>setRow_other w g k _ (fun e=>T (by simp[e]))⟩⟩⟩
   ·simp only[List.size_toArray,EO,List.length_take,List.length_drop,EY];omega
   ·rw[s,←hlen];exact List.take_left
  ·have holds:∀j u,xs[j]?=some u→w.cell? ((⟨g,0,none⟩:Addr).add j)=some u:=b.cells (g:=g) rfl;have A:=run_append_grow (P:=P) w t ty e i z E F L ⟨g,0,none⟩ n cap xs b.1 holds a m c news x f (by omega) (by omega) (growslice_fits (by omega) l);have o:=grown cap (by omega);exact⟨_,_,A,o.1,Or.inr ⟨_,rfl,o.2⟩⟩
theorem ml{ops:Array Oper}{rest:List Oper}{o:Oper}{a:Act}{Q:Exit→Act→World→Prop}(q:o.guard=none)(s x:Operand)(t:TypeId)
  (D:o.op=.call { callee:=.builtin .append,args:=#[s,x],argTypes:=#[t,t] })
  (base:Nat) (e:TypeId) (i:TypeInfo) (z:Value) (size bytes:Nat) (E:P.underlying t=some (.slice e)) (F:P.info? e=some i) (G:i.zero=some z)
  (d:i.size=size) (r:i.bytes=bytes) (y:z.cells.size=size) (A:0<size)
  (v:Value) (n:Nat) (xs:List Value) (H:a.eval s=v) (p:w.ownsRow base e size v n xs)
  (B:Addr) (m c:Nat) (news:List Value) (I:a.eval x=slice (some B) m c) (J:news.length=m*size) (f:∀j u,news[j]?=some u→w.cell? (B.add j)=some u) (L:∀u∈news,u.oneCell'=true)
  (C:n+m≤maxLen) (b:(n+m)*bytes≤140737488355328) (k:base≤w.heap.size) (hm:0<m)
  (h:∀l w',w'.ownsRow base e size l (n+m) (xs++news)→
   ((∃g cap,v=slice (some ⟨g,0,none⟩) n cap∧l=slice (some ⟨g,0,none⟩) (n+m) cap∧w.grownBy w' (some g))∨(∃cap,l=slice (some ⟨w.heap.size,0,none⟩) (n+m) cap∧Ft w w'))→
   wpList P ops Q rest (a.put o.dst l) w') :
  wpList P ops Q (o::rest) a w:=by
 refine wpList_plain q fun K M=>?_
 obtain⟨l,w',N,O,R⟩:=kq (P:=P) w base t o.type e i z size bytes E F G d r y A v n xs p B m c news J f L C b k hm;unfold Oper.wp execOp;simp only[D,resolve,invoke,builtin,oE,oF,Result.andThen_ok,List.map_toArray,List.map_cons,List.map_nil,H,I,N];exact M _ _ (h l w' O R)
end
structure Chg (F:Nat→Prop) (w w':World):Prop where
 os:w'.os=w.os
 tape:w'.tape=w.tape
 output:w'.output=w.output
 size:w.heap.size≤w'.heap.size
 block:∀b,b<w.heap.size→¬F b→w'.heap[b]?=w.heap[b]?
theorem Chg.refl(F:Nat→Prop)(w:World):Chg F w w:=⟨rfl,rfl,rfl,EA _,fun _ _ _=>rfl⟩
theorem Chg.trans{F:Nat→Prop}{a b c:World}(h:Chg F a b)(k:Chg F b c):Chg F a c:=
 ⟨k.os.trans h.os,k.tape.trans h.tape,k.output.trans h.output,EG h.size k.size,fun i d e=>(k.block i (EF d h.size) e).trans (h.block i d e)⟩
theorem Chg.sub{F G:Nat→Prop}{a b:World}(h:Chg F a b)(c:∀i,F i→G i):Chg G a b:=⟨h.os,h.tape,h.output,h.size,fun i d e=>h.block i d fun k=>e (c i k)⟩
theorem Chg.of_below{F:Nat→Prop}{a b:World}(h:Ft a b):Chg F a b:=⟨h.os,h.tape,h.output,h.size,fun i c _=>h.block i c⟩
theorem Chg.setCell{F:Nat→Prop}{a b:World}(h:Chg F a b){p:Addr}(c:F p.block∨a.heap.size≤p.block)(v:Value):Chg F a (b.setCell p v):=
 ⟨h.os,h.tape,h.output,by simpa [World.setCell]using h.size,fun i e d=>(heap_setCell_other _ _ _ _ (by rintro rfl;rcases c with c|c;exact d c;omega)).trans (h.block i e d)⟩
theorem gy{w:World}{base n size:Nat}{e:TypeId}{v:Value}{xs:List Value}(h:w.ownsRow base e size v n xs):∀g,v.ownBlock=some g→base≤g∧g<w.heap.size:=by
 intro g a;rcases h.2 with ⟨rfl,_⟩|⟨d,cap,cur,rfl,b,c,_⟩
 ·cases a
 ·injection a with a
  subst a;exact⟨b,(Ez.1 c).1⟩
theorem fH{w w':World}{B:Nat}{e:TypeId}{z n:Nat}{v:Value}{xs:List Value}(h:w.ownsRow B e z v n xs)(a:∀g,v.ownBlock=some g→w'.heap[g]?=w.heap[g]?):w'.ownsRow B e z v n xs:=by
 refine⟨h.1,?_⟩;rcases h.2 with b|⟨g,cap,cur,rfl,c,d,rest⟩
 ·exact Or.inl b
 ·exact Or.inr ⟨g,cap,cur,rfl,c,(a g rfl).trans d,rest⟩
theorem iT{w w':World}{B:Nat}{e:TypeId}{z n:Nat}{v:Value}{xs:List Value}(h:w.ownsRow B e z v n xs)(a:Ft w w'):w'.ownsRow B e z v n xs:=
 fH h fun g b=>a.block g (h.lt g b).2
theorem cells5{w:World}{T:Nat}{a b c d e:Value}{t:TypeId}(h:w.heap[T]?=some (.cells #[a,b,c,d,e] t (0,0))) :
  w.cell? ⟨T,0,none⟩=some a∧w.cell? ⟨T,1,none⟩=some b∧w.cell? ⟨T,2,none⟩=some c∧w.cell? ⟨T,3,none⟩=some d∧w.cell? ⟨T,4,none⟩=some e:=by
 simp[World.cell?,h]
theorem am(w:World)(a b:Obj):((w.alloc a).alloc b).heap[w.heap.size]?=some a∧((w.alloc a).alloc b).heap[w.heap.size+1]?=some b∧True:=
 ⟨by rw[gn,World.size_alloc,n8 (by omega),gn,n9 rfl],by rw[gn,World.size_alloc,n9 rfl],trivial⟩
theorem ab{w:World}{T:Nat}{cs:Array Value}{t:TypeId}(h:w.heap[T]?=some (.cells cs t (0,0)))(i:Nat):w.frozen? ⟨T,i,none⟩=false:=by simp[World.frozen?,h]
theorem s4(Q k:Nat)(s:ByteArray)(w:World)(a:w.cell? ⟨Q,0,none⟩=some (.string s))(b:w.cell? ⟨Q,1,none⟩=some (int i64 k))(c:k≤s.size)(d:s.size≤16384) :
  Calls Tryz.prog 98 #[.pointer (some ⟨Q,0,none⟩)] w fun e w'=>e=.returned (int i64 ((s.size:Int)-k))∧∃n,w'=w.drewN n:=by
 go_enter Tryz.func98,Tryz.ntmps98
 go_wp2
 go_quiet (fail)
 go_wp2
 ·go_ret;refine⟨?_,_,rfl⟩;have:s.size≤k:=by assumption
  have e:(s.size:Int)-k=0:=by omega
  rw[e];rfl
 ·go_quiet (fail)
  go_wp2
  go_ret;exact⟨rfl,_,World.drewN_drewN ..⟩
theorem pB(R Q k:Nat)(s:ByteArray)(w:World)(f:w.cell? ⟨R,0,none⟩=some (.pointer (some ⟨Q,0,none⟩)))(g:w.cell? ⟨R,1,none⟩=some (.string s))(a:w.cell? ⟨Q,0,none⟩=some (.string s))(b:w.cell? ⟨Q,1,none⟩=some (int i64 k))(c:k≤s.size)(d:s.size≤16384) :
  Calls Tryz.prog 139 #[.pointer (some ⟨R,0,none⟩)] w fun e w'=>e=.returned (int i64 k)∧∃n,w'=w.drewN n:=by
 go_enter Tryz.func139,Tryz.ntmps139
 go_wp2
 go_quiet ((go_at_call 98;refine Calls.quiet_of (s4 Q k s _ a b c d)))
 go_wp2
 go_ret;refine⟨?_,_,rfl⟩;have e:(s.size:Int)-(↑s.size - ↑k)=k:=by omega
 simp;omega
theorem Cu(R Q k:Nat)(s:ByteArray)(w:World)(a:w.cell? ⟨R,0,none⟩=some (.pointer (some ⟨Q,0,none⟩)))(b:w.cell? ⟨R,1,none⟩=some (.string s))(c:w.cell? ⟨Q,0,none⟩=some (.string s))(d:w.cell? ⟨Q,1,none⟩=some (int i64 k))(f:k≤s.size)(g:s.size≤16384) :
  Calls Tryz.prog 135 #[.pointer (some ⟨R,0,none⟩)] w fun e w'=>e=.returned (.string (s.extract k s.size))∧∃n,w'=w.drewN n:=by
 go_enter Tryz.func135,Tryz.ntmps135
 go_wp2
 go_quiet ((go_at_call 139;refine Calls.quiet_of (pB R Q k s _ a b c d f g)))
 go_wp2
 go_ret;refine⟨rfl,_,rfl⟩
theorem rZ(l:List UInt8)(c:UInt8):decide (0≤Lib.indexByte l c)=l.contains c:=by
 induction l with
 | nil=>rfl
 | cons a l d =>
  have j:=Lib.indexByte_ge l c;simp only[Lib.indexByte,List.contains_cons,←d]
  by_cases h:a=c
  ·subst h;simp
  ·have f:(a==c)=false:=by simpa using h
   have g:(c==a)=false:=by simpa using fun e=>h e.symm
   simp only[f,g,EW,oi,Bool.false_or]
   by_cases b:Lib.indexByte l c=-1
   ·simp[b]
   ·have i:(Lib.indexByte l c == -1)=false:=by simpa using b
    simp only[i,EW,oi];apply decide_eq_decide.2;omega
theorem jC(st:ByteArray)(c:UInt8):decide (0≤Lib.indexByte st.data.toList c)=hasB st c:=rZ _ _
theorem gl(st:ByteArray)(c:UInt8)(w:World) :
  Calls Tryz.prog 88 #[.string st,int .u8 (c.toNat:Int)] w fun e w'=>(e=.returned (int i64 (Lib.indexByte st.data.toList c)))∧w=w':=
 (Tryz.strings_IndexByte st (c.toNat:Int) w).mono fun e w' ⟨a,b⟩=>⟨by simpa using a,b.symm⟩
theorem tP(T:Nat)(st t:ByteArray)(w:World)(b:w.cell? ⟨T,0,none⟩=some (.string t))(c:0<t.size) :
  Calls Tryz.prog 168 #[.string st,.pointer (some ⟨T,0,none⟩)] w fun e w'=>e=.returned (.bool (hasB st t[0]))∧w=w':=by
 have a:=Hd (jC st t[0])
 go_enter Tryz.func168,Tryz.ntmps168
 go_wp2_with (go_at_call 88;refine (gl _ _ _).mono ?_;rintro e w' ⟨rfl,rfl⟩)
 go_ret;exact⟨by rw[←a.o];rfl,rfl⟩
theorem BX(B T n cap:Nat)(a:List ByteArray)(t:ByteArray)(w:World)(hB:w.heap[B]?=some (.cells (a.map string).toArray 9 (0,0)))(h:a.length=n)(r:n≤100)
  (j:w.cell? ⟨T,0,none⟩=some (.string t)) (l:0<t.size) :
  Calls Tryz.prog 181 #[slice (some ⟨B,0,none⟩) n cap,.func (.func 168) #[] #[.pointer (some ⟨T,0,none⟩)]] w fun e w'=>(∃i:Int,e=.returned (int i64 i)∧decide (0≤i)=a.any (hasB · t[0]))∧w=w':=by
 have b:∀i,i<n→∃st,a[i]?=some st∧w.cell? ⟨B,i,none⟩=some (.string st):=by
  intro i x;refine⟨a[i]'(by omega),EE (by omega),?_⟩;simp[World.cell?,hB,EE (show i<a.length by omega)]
 have s:=Hd b;have u:=Hd h;clear b hB h
 go_enter Tryz.func181,Tryz.ntmps181
 go_wp2
 go_loop [8,5] (fun i _=>∃k:Nat,k≤n∧i=int i64 k∧(a.take k).any (hasB · t[0])=false) (fun i _=>n-(intOf i).toNat)
 case atStart=>exact⟨0,EM _,rfl,rfl⟩
 case round =>
  obtain⟨k,y,rfl,c⟩:=hrel;have m:=Hd c;clear c
  by_cases f:k<n
  ·obtain⟨st,d,v⟩:=s.o k f;have p:=Hd d;clear d
   cases q:hasB st t[0]
   ·have g:=Hd q;go_wp2_with (go_at_call 168;refine (tP T _ t _ j l).mono ?_;rintro e w' ⟨rfl,rfl⟩)
    go_round
    case rel=>exact⟨k+1,by omega,by go_num,by rw[sf _ _ _ _ p.o m.o];exact g.o⟩
    case measure=>simp[intOf];omega
   ·have g:=Hd q;go_wp2_with (go_at_call 168;refine (tP T _ t _ j l).mono ?_;rintro e w' ⟨rfl,rfl⟩)
    go_ret;refine⟨⟨k,rfl,?_⟩,rfl⟩;rw[yj (hasB · t[0]) _ _ _ p.o g.o];simp
  ·go_wp2
   go_ret;refine⟨⟨-1,rfl,?_⟩,rfl⟩;have e:a.take k=a:=ER (by rw[u.o];omega);have:=m.o;rw[e]at this;rw[this];rfl
theorem sk(B T n cap:Nat)(a:List ByteArray)(t:ByteArray)(w:World)(hB:w.heap[B]?=some (.cells (a.map string).toArray 9 (0,0)))(c:a.length=n)(b:n≤100)
  (f:w.cell? ⟨T,0,none⟩=some (.string t)) (g:0<t.size) :
  Calls Tryz.prog 167 #[slice (some ⟨B,0,none⟩) n cap,.func (.func 168) #[] #[.pointer (some ⟨T,0,none⟩)]] w fun e w'=>e=.returned (.bool (a.any (hasB · t[0])))∧w=w':=by
 have h:=Hd (BX B T n cap a t w hB c b f g);clear c hB
 go_enter Tryz.func167,Tryz.ntmps167
 go_wp2_with (go_at_call 181;refine EJ h.o ?_;rintro e w' ⟨⟨i,rfl,d⟩,rfl⟩;have j:=Hd d;clear d)
 go_ret;exact⟨by rw[←j.o];rfl,rfl⟩
def Rdr(w:World) (R Q:Nat) (s:ByteArray) (k:Nat):Prop:=
 w.heap[R]?=some (.cells #[.pointer (some ⟨Q,0,none⟩),.string s] 134 (0,0))∧∃p:Int,w.heap[Q]?=some (.cells #[.string s,int i64 k,int i64 p] 162 (0,0))
theorem Rdr.ne{w:World}{R Q:Nat}{s:ByteArray}{k:Nat}(h:Rdr w R Q s k):R≠Q:=by
 obtain⟨b,p,a⟩:=h;rintro rfl;rw[b]at a;simp at a
theorem Rdr.cells{w:World}{R Q:Nat}{s:ByteArray}{k:Nat}(h:Rdr w R Q s k) :
  w.cell? ⟨R,0,none⟩=some (.pointer (some ⟨Q,0,none⟩))∧w.cell? ⟨R,1,none⟩=some (.string s)∧w.cell? ⟨Q,0,none⟩=some (.string s)∧w.cell? ⟨Q,1,none⟩=some (int i64 k)∧
  (∃p:Int,w.cell? ⟨Q,2,none⟩=some (int i64 p))∧w.frozen? ⟨Q,1,none⟩=false∧w.frozen? ⟨Q,2,none⟩=false∧R<w.heap.size∧Q<w.heap.size:=by
 obtain⟨d,p,c⟩:=h;have a:=(Ez.1 d).1;have b:=(Ez.1 c).1;exact⟨by simp[World.cell?,d],by simp[World.cell?,d],by simp[World.cell?,c],by simp[World.cell?,c],⟨p,by simp[World.cell?,c]⟩,by simp[World.frozen?,c],by simp[World.frozen?,c],a,b⟩
theorem Rdr.keep{w w':World}{R Q:Nat}{s:ByteArray}{k:Nat}(h:Rdr w R Q s k)(c:Ft w w'):Rdr w' R Q s k:=by
 obtain⟨_,_,_,_,_,_,_,a,b⟩:=h.cells;obtain⟨d,p,e⟩:=h;exact⟨by rw[c.block R a];exact d,p,by rw[c.block Q b];exact e⟩
theorem tL(R Q k:Nat)(s:ByteArray)(w:World)(h:Rdr w R Q s k)(a:k≤s.size)(b:s.size≤16384) :
  Calls Tryz.prog 135 #[.pointer (some ⟨R,0,none⟩)] w fun e w'=>e=.returned (.string (s.extract k s.size))∧Ft w w':=by
 obtain⟨c,d,f,g,⟨p,i⟩,f1,f2,j,l⟩:=h.cells;refine (Cu R Q k s w c d f g a b).mono ?_;rintro e w' ⟨rfl,n,rfl⟩;exact⟨rfl,below_drewN (EB _ _) n⟩
theorem Ap(R Q k:Nat)(s:ByteArray)(w:World)(h:Rdr w R Q s k)(c:k=s.size)(d:s.size≤16384)(f:Value) :
  Calls Tryz.prog 134 #[.pointer (some ⟨R,0,none⟩),f] w fun e w'=>e=.returned (.bool false)∧Ft w w':=by
 have a:(s.extract k s.size).toList=[]:=by subst c;simp
 have g:(s.extract k s.size).toList.isEmpty=true:=by simp[a]
 have i:=Hd (tL R Q k s w h (by omega) d);clear h a;generalize s.extract k s.size=t at *
 go_enter Tryz.func134,Tryz.ntmps134
 go_wp2_with (first|(go_at_call 135;refine EJ i.o ?_;rintro e w' ⟨rfl,b⟩))
 go_ret;exact⟨rfl,b.alloc b.size _⟩
theorem xe(R Q k:Nat)(s:ByteArray)(w:World)(h:Rdr w R Q s k)(v:k<s.size)(l:s.size≤16384)(B n cap:Nat)(a:List ByteArray)(hB:w.heap[B]?=some (.cells (a.map string).toArray 9 (0,0)))(j:a.length=n)(d:n≤100) :
  Calls Tryz.prog 134 #[.pointer (some ⟨R,0,none⟩),slice (some ⟨B,0,none⟩) n cap] w fun e w'=>e=.returned (.bool (a.any (hasB · s[k])))∧Ft w w':=by
 have f:B<w.heap.size:=(Ez.1 hB).1;have m:=Hd hB;have p:=Hd j;have g:(s.extract k s.size).size=s.size-k:=by simp
 have i:0<(s.extract k s.size).size:=by omega
 have b:(s.extract k s.size)[0]=s[k]:=El s k s.size 0 i (by omega);have q:(s.extract k s.size).toList.isEmpty=false:=hH _ i;have r:=Hd (tL R Q k s w h (by omega) l);clear hB j;rw[←b];generalize s.extract k s.size=t at *;clear g b
 go_enter Tryz.func134,Tryz.ntmps134
 go_wp2_with (first
  | (go_at_call 135;refine EJ r.o ?_;rintro e w' ⟨rfl,c⟩)
  | (go_at_call 167;refine (sk B _ n cap a t _ ((Fp _ _ _ (by have:=c.size;omega)).trans (aa c m.o f)) p.o d (cell_new1 _ _ _) i).mono ?_;rintro e u ⟨rfl,rfl⟩))
 go_ret;exact⟨rfl,c.alloc c.size _⟩
theorem jq(Q k:Nat)(p:Int)(s:ByteArray)(w:World)(h:w.heap[Q]?=some (.cells #[.string s,int i64 k,int i64 p] 162 (0,0)))(b:k<s.size)(c:s.size≤16384) :
  Calls Tryz.prog 137 #[.pointer (some ⟨Q,0,none⟩)] w fun e w'=>e=.returned (.tuple #[int .u8 (s[k].toNat:Int),.nilIface])∧w.grownBy w' (some Q)∧w'.heap[Q]?=some (.cells #[.string s,int i64 (k+1:Nat),int i64 (-1)] 162 (0,0)):=by
 have d:w.cell? ⟨Q,0,none⟩=some (.string s):=by simp[World.cell?,h]
 have f:w.cell? ⟨Q,1,none⟩=some (int i64 k):=by simp[World.cell?,h]
 have g:w.cell? ⟨Q,2,none⟩=some (int i64 p):=by simp[World.cell?,h]
 have f1:w.frozen? ⟨Q,1,none⟩=false:=by simp[World.frozen?,h]
 have f2:w.frozen? ⟨Q,2,none⟩=false:=by simp[World.frozen?,h]
 have H:=Hd h;clear h;have a:decide ((s.size:Int)≤k)=false:=by simp;omega
 go_enter Tryz.func137,Tryz.ntmps137
 go_wp2
 go_quiet (fail)
 go_wp2
 go_quiet (fail)
 go_wp2
 go_ret2
 refine⟨rfl,fG (grown_drewN (fG (World.grownBy.refl w _) _ _) _) _ _,?_⟩;rw[heap_set (w:=World.drewN _ _) (heap_set H.o 2 (int i64 (-1)))];rfl
def pw(w:World) (Q:Nat):Nat:=match w.cell? ⟨Q,1,none⟩ with|some (.int _ n)=>n.toNat|_=>0
theorem Rdr.pos{w:World}{R Q:Nat}{s:ByteArray}{k:Nat}(h:Rdr w R Q s k):pw w Q=k:=by
 obtain⟨_,_,_,a,_⟩:=h.cells;simp[pw,a]
theorem Rdr.grown{w w':World}{R Q:Nat}{s:ByteArray}{k d:Nat}{p:Int}(h:Rdr w R Q s k)(f:w.grownBy w' (some Q))(g:w'.heap[Q]?=some (.cells #[.string s,int i64 d,int i64 p] 162 (0,0))):Rdr w' R Q s d:=by
 obtain⟨_,_,_,_,_,_,_,a,b⟩:=h.cells;have c:=h.ne;obtain⟨i,p,j⟩:=h;exact⟨(f.block R a (by intro e;injection e with e;exact c e)).trans i,_,g⟩
theorem sU(R Q k:Nat)(s:ByteArray)(w:World)(h:Rdr w R Q s k)(a:k≤s.size)(b:s.size≤16384) :
  Calls Tryz.prog 139 #[.pointer (some ⟨R,0,none⟩)] w fun e w'=>e=.returned (int i64 k)∧Ft w w':=by
 obtain⟨c,d,f,g,⟨p,i⟩,f1,f2,j,l⟩:=h.cells;refine (pB R Q k s w c d f g a b).mono ?_;rintro e w' ⟨rfl,n,rfl⟩;exact⟨rfl,below_drewN (EB _ _) n⟩
theorem Rdr.q{w:World}{R Q:Nat}{s:ByteArray}{k:Nat}(h:Rdr w R Q s k):∃p:Int,w.heap[Q]?=some (.cells #[.string s,int i64 k,int i64 p] 162 (0,0)):=h.2
theorem take_any(R Q k:Nat)(s:ByteArray)(w:World)(h:Rdr w R Q s k)(V:k≤s.size)(m:s.size≤16384)(B n cap:Nat)(a:List ByteArray)(hB:w.heap[B]?=some (.cells (a.map string).toArray 9 (0,0)))(W:a.length=n)(M:n≤100) :
  Calls Tryz.prog 138 #[.pointer (some ⟨R,0,none⟩),slice (some ⟨B,0,none⟩) n cap] w fun e w'=>e=.returned (.string (s.extract k (aA (fun c=>a.any (hasB · c)) s k)))∧w.grownBy w' (some Q)∧Rdr w' R Q s (aA (fun c=>a.any (hasB · c)) s k):=by
 have N:some B≠some Q:=by
  obtain⟨p,Z⟩:=h.q;intro e;injection e with e
  exact jM hB Z (by decide) e
 have HB:=Hd hB;have HN:=Hd W;clear hB W
 go_enter Tryz.func138,Tryz.ntmps138
 go_wp2_with (first
  | (go_at_call 139;refine (sU R Q k s _ h V m).mono ?_;rintro e w1 ⟨rfl,g⟩))
 have t:=h.keep g
 go_loopw [16] (fun _ wr=>∃j,k≤j∧j≤s.size∧aA (fun c=>a.any (hasB · c)) s j=aA (fun c=>a.any (hasB · c)) s k∧Rdr wr R Q s j∧w.grownBy wr (some Q)) (fun _ wr=>s.size-pw wr Q)
 case atStart=>exact⟨k,EA _,V,rfl,t,aH g _⟩
 case round =>
  obtain⟨j,ad,u,v,f,F⟩:=hrel;have O:=Hd v;have S:=Hd (aP F HB.o N);clear v g t
  by_cases G:j<s.size
  ·have H:=Hd (fun (x:Bool) (hx:(a.any (hasB · s[j]))=x)=>(xe R Q j s wr f G m B n cap a S.o HN.o M).mono (R':=fun e w'=>e=.returned (.bool x)∧Ft wr w') (fun e w' hh=>by rw[←hx];exact hh))
   cases r:a.any (hasB · s[j])
   ·have T:=Hd r;have y:=Hd (H.o _ r);clear H r
    go_wp2_with (first
     | (go_at_call 134;refine EJ y.o ?_;rintro e X ⟨rfl,b⟩))
    obtain⟨I,J,K,L,⟨p,Y⟩,f1,f2,z,A⟩:=(f.keep b).cells
    go_quiet ((go_at_call 139;refine Calls.quiet_of (pB R Q j s _ I J K L u m)))
    go_wp2
    go_ret;have e:aA (fun c=>a.any (hasB · c)) s k=j:=by rw[←O.o];exact rF _ s j G T.o
    rw[e];exact⟨rfl,grown_drewN (grown_below F b) _,f.keep (below_drewN b _)⟩
   ·have T:=Hd r;have y:=Hd (H.o _ r);clear H r
    go_wp2_with (first
     | (go_at_call 134;refine EJ y.o ?_;rintro e X ⟨rfl,b⟩;have d:=f.keep b;obtain⟨I,J,K,L,⟨p,Y⟩,f1,f2,z,A⟩:=d.cells;obtain⟨p',C⟩:=d.q;have U:=Hd C;clear C)
     | (go_at_call 137;refine (jq Q j _ s _ U.o G m).mono ?_;rintro e w3 ⟨rfl,i,D⟩;have E:=Hd D;clear D))
    refine⟨⟨j+1,by omega,by omega,?_,d.grown i E.o,World.grownBy.trans (grown_below F b) i⟩,?_⟩
    ·rw[←O.o];exact fN _ s j G T.o
    ·rw[(d.grown i E.o).pos,f.pos];omega
  ·have l:j=s.size:=by omega
   have HJ:=Hd l;have y:=Hd (Ap R Q j s wr f l m (slice (some ⟨B,0,none⟩) n cap));clear l
   go_wp2_with (first
    | (go_at_call 134;refine EJ y.o ?_;rintro e X ⟨rfl,b⟩))
   obtain⟨I,J,K,L,⟨p,Y⟩,f1,f2,z,A⟩:=(f.keep b).cells
   go_quiet ((go_at_call 139;refine Calls.quiet_of (pB R Q j s _ I J K L u m)))
   go_wp2
   go_ret;have e:aA (fun c=>a.any (hasB · c)) s k=j:=by rw[←O.o];exact lA _ s j (by omega)
   rw[e];exact⟨rfl,grown_drewN (grown_below F b) _,f.keep (below_drewN b _)⟩
theorem Rdr.set_far{w:World}{R Q:Nat}{s:ByteArray}{k:Nat}(h:Rdr w R Q s k){T i:Nat}(u:Value)(a:T≠R)(b:T≠Q):Rdr (w.setCell ⟨T,i,none⟩ u) R Q s k:=by
 obtain⟨c,p,d⟩:=h;exact⟨aB c a _ _,p,aB d b _ _⟩
theorem Rdr.move{w w':World}{R Q:Nat}{s:ByteArray}{k:Nat}{row:Option Nat}(h:Rdr w R Q s k)(a:w.grownBy w' row)(b:some R≠row)(c:some Q≠row):Rdr w' R Q s k:=by
 obtain⟨d,p,e⟩:=h;exact⟨aP a d b,p,aP a e c⟩
theorem pD(l:List UInt8)(c:UInt8):Lib.indexByte l c=if l.contains c then ((l.takeWhile (· != c)).length:Int) else -1:=by
 induction l with
 | nil=>rfl
 | cons a l d =>
  simp only[Lib.indexByte,List.contains_cons,d]
  by_cases h:a=c
  ·subst h;simp
  ·have f:(a==c)=false:=by simpa using h
   have g:(c==a)=false:=by simpa using fun e=>h e.symm
   have i:(a != c)=true:=by simpa using h
   simp only[f,g,EW,oi,Bool.false_or,List.takeWhile_cons,i,oA,Fb]
   by_cases b:l.contains c
   ·simp only[b,oA];rw[n8 (by simp)];omega
   ·simp only[b];simp
theorem zp(l:List UInt8)(c:UInt8)(h:l.contains c=false):l.takeWhile (· != c)=l:=by
 induction l with
 | nil=>rfl
 | cons a l b =>
  simp only[List.contains_cons,Bool.or_eq_false_iff]at h;have d:(a != c)=true:=by
   have:=h.1;simp only[bne_iff_ne];rintro rfl;simp at this
  rw[List.takeWhile_cons,n9 d,b h.2]
theorem BY(l:List UInt8)(c:UInt8)(h:l.contains c=true):(l.takeWhile (· != c)).length<l.length:=by
 induction l with
 | nil=>simp at h
 | cons a l b =>
  by_cases e:a=c
  ·subst e;simp
  ·have d:(a != c)=true:=by simpa using e
   rw[List.takeWhile_cons,n9 d];have f:l.contains c=true:=by
    simp only[List.contains_cons,Bool.or_eq_true]at h;rcases h with h|h
    ·exact absurd (by simpa using h:c=a).symm e
    ·exact h
   have:=b f;simp;omega
theorem Cs(t:ByteArray)(i:Nat)(w:World)(a:Lib.indexByte t.data.toList 10=(i:Int))(hle:i<t.size)(k:t.size≤16384) :
  Calls Tryz.prog 169 #[.string t,string ⟨#[10]⟩] w fun e w'=>(∃b c,e=.returned (.tuple #[.string (t.extract 0 i),b,c]))∧Ft w w':=by
 have f:=Hd ((Tryz.stringslite_Index_one t 10 w).mono (R':=fun e w'=>e=.returned (int i64 (i:Int))∧w=w') (fun e w' d=>⟨by rw[←a];exact d.1,d.2.symm⟩));clear a;have g:(0:Int)≤i:=by omega
 have h:(i:Int)≤t.size:=by omega
 have j:(i:Int)+1≤t.size:=by omega
 have l:(ByteArray.mk #[10]).size=1:=rfl
 go_enter Tryz.func169,Tryz.ntmps169
 go_wp2_with (first
  | (go_at_call 182;refine EJ f.o ?_;rintro e w' ⟨rfl,rfl⟩))
 go_quiet (fail)
 go_wp2
 go_ret3
 exact⟨⟨_,_,rfl⟩,below_drewN (EB _ _) _⟩
theorem Dk(t:ByteArray)(w:World)(a:Lib.indexByte t.data.toList 10=-1) :
  Calls Tryz.prog 169 #[.string t,string ⟨#[10]⟩] w fun e w'=>(∃b c,e=.returned (.tuple #[.string t,b,c]))∧Ft w w':=by
 have f:=Hd ((Tryz.stringslite_Index_one t 10 w).mono (R':=fun e w'=>e=.returned (int i64 (-1))∧w=w') (fun e w' d=>⟨by rw[←a];exact d.1,d.2.symm⟩));clear a
 go_enter Tryz.func169,Tryz.ntmps169
 go_wp2_with (first
  | (go_at_call 182;refine EJ f.o ?_;rintro e w' ⟨rfl,rfl⟩))
 go_ret3
 exact⟨⟨_,_,rfl⟩,EB _ _⟩
theorem Db(t:ByteArray)(w:World)(i:t.size≤16384) :
  Calls Tryz.prog 136 #[.string t,string ⟨#[10]⟩] w fun e w'=>(∃n b c,e=.returned (.tuple #[.string n,b,c])∧n.size=(t.data.toList.takeWhile (· != 10)).length)∧Ft w w':=by
 have g:∀W:World,Calls Tryz.prog 169 #[.string t,string ⟨#[10]⟩] W fun e w'=>(∃n b c,e=.returned (.tuple #[.string n,b,c])∧n.size=(t.data.toList.takeWhile (· != 10)).length)∧Ft W w':=by
  intro W;have d:=pD t.data.toList 10
  by_cases f:t.data.toList.contains 10
  ·rw[n9 f]at d;have j:(t.data.toList.takeWhile (· != 10)).length<t.size:=by simpa using BY _ _ f
   refine (Cs t _ W d j i).mono ?_;rintro e w' ⟨⟨b,c,rfl⟩,a⟩;exact⟨⟨_,b,c,rfl,by simp;omega⟩,a⟩
  ·rw[n8 f]at d;refine (Dk t W d).mono ?_;rintro e w' ⟨⟨b,c,rfl⟩,a⟩;exact⟨⟨_,b,c,rfl,by rw[zp _ _ (by simpa using f)];simp⟩,a⟩
 have k:=Hd g;clear g
 go_enter Tryz.func136,Tryz.ntmps136
 go_wp2_with (first
  | (go_at_call 169;refine (k.o _).mono ?_;rintro e w' ⟨⟨n,b,c,rfl,h⟩,a⟩;have l:=Hd h;clear h))
 go_ret3
 exact⟨⟨n,b,c,rfl,l.o⟩,a⟩
def cI(c:UInt8):Bool:=c==9||c==10||c==13||c==32
def fV:Nat→ByteArray→Nat→Nat
 | 0,_,k=>k
 | f+1,s,k=>if h:k<s.size then (if cI s[k] then fV f s (k+1) else if s[k]==35 then fV f s (aA (· != 10) s k) else k) else k
def skip(s:ByteArray) (k:Nat):Nat:=fV (s.size-k) s k
theorem iy(s:ByteArray)(k:Nat)(h:k<s.size)(a:s[k]=35):k+1≤aA (· != 10) s k:=by
 rw[←fN (· != 10) s k h (by rw[a];rfl)];exact eG _ _ _
theorem vX(s:ByteArray):∀(f k:Nat),s.size-k≤f→fV f s k=skip s k:=by
 have H:∀(n f g k:Nat),s.size-k≤n→s.size-k≤f→s.size-k≤g→fV f s k=fV g s k:=by
  intro n
  induction n with
  | zero =>
   intro f g k e _ _;have a:¬k<s.size:=by omega
   cases f<;>cases g<;>simp[fV,a]
  | succ n c =>
   intro f g k e d j
   by_cases a:k<s.size
   ·obtain⟨f,rfl⟩:∃h,f=h+1:=⟨f-1,by omega⟩;obtain⟨g,rfl⟩:∃i,g=i+1:=⟨g-1,by omega⟩;simp only[fV,a,dif_pos]
    split
    ·exact c f g (k+1) (by omega) (by omega) (by omega)
    ·split
     ·rename_i _ b
      have:=iy s k a (by simpa using b);exact c f g _ (by omega) (by omega) (by omega)
     ·rfl
   ·cases f<;>cases g<;>simp[fV,a]
 exact fun f k d=>H _ _ _ k (EA _) d (EA _)
theorem jQ(s:ByteArray)(k:Nat)(h:k<s.size)(a:cI s[k]=true):skip s k=skip s (k+1):=by
 conv=>lhs;unfold skip
 rw[show s.size-k=(s.size-(k+1))+1 from by omega];simp only[fV,h,dif_pos,a,oA];rfl
theorem ko(s:ByteArray)(k:Nat)(h:k<s.size)(a:s[k]=35):skip s k=skip s (aA (· != 10) s k):=by
 have d:=iy s k h a
 conv=>lhs;unfold skip
 rw[show s.size-k=(s.size-(k+1))+1 from by omega];have c:cI s[k]=false:=by rw[a];rfl
 have b:(s[k]==35)=true:=by rw[a];rfl
 simp only[fV,h,dif_pos,c,b,oA,EW,oi];exact vX s _ _ (by omega)
theorem iC(s:ByteArray)(k:Nat)(h:k<s.size)(a:cI s[k]=false)(b:(s[k]==35)=false):skip s k=k:=by
 unfold skip;rw[show s.size-k=(s.size-(k+1))+1 from by omega];simp[fV,h,a,b]
theorem eu(s:ByteArray)(k:Nat)(h:s.size≤k):skip s k=k:=by
 unfold skip;rw[show s.size-k=0 from by omega];rfl
theorem rK(s:ByteArray):∀(n k:Nat),s.size-k≤n→skip s (aA cI s k)=skip s k:=by
 intro n
 induction n with
 | zero=>intro k h;rw[lA _ _ _ (by omega)]
 | succ n c =>
  intro k h
  by_cases a:k<s.size
  ·by_cases b:cI s[k]=true
   ·rw[←fN _ _ _ a b,c (k+1) (by omega),jQ s k a b]
   ·rw[rF _ _ _ a (by simpa using b)]
  ·rw[lA _ _ _ (by omega)]
theorem jS(s:ByteArray):∀(n k:Nat),s.size-k≤n→k≤skip s k:=by
 intro n
 induction n with
 | zero=>intro k h;rw[eu _ _ (by omega)];exact EA _
 | succ n c =>
  intro k h
  by_cases a:k<s.size
  ·by_cases d:cI s[k]=true
   ·rw[jQ s k a d];have:=c (k+1) (by omega);omega
   ·by_cases b:s[k]=35
    ·have e:=iy s k a b;rw[ko s k a b];have:=c (aA (· != 10) s k) (by omega);omega
    ·rw[iC s k a (by simpa using d) (by simpa using b)];exact EA _
  ·rw[eu _ _ (by omega)];exact EA _
theorem wU(s:ByteArray):∀(n k:Nat),s.size-k≤n→k≤s.size→skip s k≤s.size:=by
 intro n
 induction n with
 | zero=>intro k h a;rw[eu _ _ (by omega)];exact a
 | succ n c =>
  intro k h hle
  by_cases a:k<s.size
  ·by_cases d:cI s[k]=true
   ·rw[jQ s k a d];exact c (k+1) (by omega) (by omega)
   ·by_cases b:s[k]=35
    ·have e:=iy s k a b;rw[ko s k a b];exact c _ (by omega) (cQ _ _ _ hle)
    ·rw[iC s k a (by simpa using d) (by simpa using b)];exact hle
  ·rw[eu _ _ (by omega)];exact hle
theorem De(s:ByteArray):∀(n k:Nat),s.size-k≤n→∀h:skip s k<s.size,cI s[skip s k]=false∧(s[skip s k]==35)=false:=by
 intro n
 induction n with
 | zero=>intro k f h;rw[eu _ _ (by omega)]at h;omega
 | succ n d =>
  intro k f h
  by_cases a:k<s.size
  ·by_cases c:cI s[k]=true
   ·have e:=jQ s k a c;simp only[e]at h ⊢;exact d (k+1) (by omega) h
   ·by_cases b:s[k]=35
    ·have g:=iy s k a b;have e:=ko s k a b;simp only[e]at h ⊢;exact d _ (by omega) h
    ·have e:=iC s k a (by simpa using c) (by simpa using b);simp only[e];exact⟨by simpa using c,by simpa using b⟩
  ·rw[eu _ _ (by omega)]at h;omega
theorem jT(R Q k:Nat)(s:ByteArray)(w:World)(h:Rdr w R Q s k)(g:k<s.size)(i:s.size≤16384)(a:List ByteArray)(arr:Array Value)(b:arr=(a.map string).toArray)(n cap:Nat)(j:a.length=n)(c:n≤100)
  (x:Bool) (l:a.any (hasB · s[k])=x) :
  Calls Tryz.prog 134 #[.pointer (some ⟨R,0,none⟩),slice (some ⟨w.heap.size,0,none⟩) n cap] (w.alloc (.cells arr 9)) fun e w'=>e=.returned (.bool x)∧Ft w w':=by
 subst b;have d:Ft w (w.alloc (.cells (a.map string).toArray 9)):=(EB _ w).alloc (EA _) _;refine (xe R Q k s _ (h.keep d) g i w.heap.size n cap a (n7 w _) j c).mono ?_;rintro e w' ⟨rfl,f⟩;exact⟨by rw[l],d.trans (f.mono d.size)⟩
theorem pH(R Q k:Nat)(s:ByteArray)(w:World)(h:Rdr w R Q s k)(d:k=s.size)(f:s.size≤16384)(arr:Array Value)(c:Value) :
  Calls Tryz.prog 134 #[.pointer (some ⟨R,0,none⟩),c] (w.alloc (.cells arr 9)) fun e w'=>e=.returned (.bool false)∧Ft w w':=by
 have a:Ft w (w.alloc (.cells arr 9)):=(EB _ w).alloc (EA _) _;refine (Ap R Q k s _ (h.keep a) d f c).mono ?_;rintro e w' ⟨rfl,b⟩;exact⟨rfl,a.trans (b.mono a.size)⟩
theorem oN(R Q k:Nat)(s:ByteArray)(w:World)(h:Rdr w R Q s k)(f:k≤s.size)(g:s.size≤16384)(a:List ByteArray)(arr:Array Value)(b:arr=(a.map string).toArray)(n cap:Nat)(i:a.length=n)(d:n≤100)
  (p:UInt8→Bool) (j:(fun c=>a.any (hasB · c))=p) :
  Calls Tryz.prog 138 #[.pointer (some ⟨R,0,none⟩),slice (some ⟨w.heap.size,0,none⟩) n cap] (w.alloc (.cells arr 9)) fun e w'=>e=.returned (.string (s.extract k (aA p s k)))∧w.grownBy w' (some Q)∧Rdr w' R Q s (aA p s k):=by
 subst b;subst j;have l:Ft w (w.alloc (.cells (a.map string).toArray 9)):=(EB _ w).alloc (EA _) _;refine (take_any R Q k s _ (h.keep l) f g w.heap.size n cap a (n7 w _) i d).mono ?_;rintro e w' ⟨rfl,m,o⟩;exact⟨rfl,(World.grownBy_alloc w _ _).trans m,o⟩
theorem fR(R Q k:Nat)(s:ByteArray)(w:World)(h:Rdr w R Q s k)(d:k<s.size)(f:s.size≤16384)(a:List ByteArray)(x:Bool)(g:a.any (hasB · s[k])=x)(arr:Array Value)(b:arr=(a.map string).toArray)(n cap:Nat)(i:a.length=n)(c:n≤100)
  (B:Nat) (hB:w.heap.size=B) :
  Calls Tryz.prog 134 #[.pointer (some ⟨R,0,none⟩),slice (some ⟨B,0,none⟩) n cap] (w.alloc (.cells arr 9)) fun e w'=>e=.returned (.bool x)∧Ft w w':=by
 subst hB;exact jT R Q k s w h d f a arr b n cap i c x g
theorem take_at(R Q k:Nat)(s:ByteArray)(w:World)(h:Rdr w R Q s k)(f:k≤s.size)(g:s.size≤16384)(a:List ByteArray)(p:UInt8→Bool)(i:(fun c=>a.any (hasB · c))=p)(arr:Array Value)(b:arr=(a.map string).toArray)(n cap:Nat)(j:a.length=n)(d:n≤100)
  (B:Nat) (hB:w.heap.size=B) :
  Calls Tryz.prog 138 #[.pointer (some ⟨R,0,none⟩),slice (some ⟨B,0,none⟩) n cap] (w.alloc (.cells arr 9)) fun e w'=>e=.returned (.string (s.extract k (aA p s k)))∧w.grownBy w' (some Q)∧Rdr w' R Q s (aA p s k):=by
 subst hB;exact oN R Q k s w h f g a arr b n cap j d p i
theorem mt:(fun c=>[(⟨#[9,10,13,32]⟩:ByteArray)].any (hasB · c))=cI:=by
 funext c
 show ((([9,10,13,32]:List UInt8).contains c)||false)=_
 simp only[List.contains_cons,List.contains_nil,Bool.or_false,cI,Bool.or_assoc]
theorem pf(c:UInt8):[(⟨#[35]⟩:ByteArray)].any (hasB · c)=(c==35):=by
 show ((([35]:List UInt8).contains c)||false)=_
 simp only[List.contains_cons,List.contains_nil,Bool.or_false]
theorem jD(c:UInt8):[(⟨#[9,10,13,32]⟩:ByteArray),⟨#[35]⟩].any (hasB · c)=(cI c||c==35):=by
 rw[←pf,←mt];simp
theorem s8(R Q k:Nat)(s:ByteArray)(w:World)(h:Rdr w R Q s k)(a:k≤s.size)(b:s.size≤16384) :
  Calls Tryz.prog 135 #[.pointer (some ⟨R,0,none⟩)] w fun e w'=>(∃t,e=.returned (.string t)∧t.data.toList=s.data.toList.drop k∧t.size=s.size-k)∧Ft w w':=by
 refine (tL R Q k s w h a b).mono ?_;rintro e w' ⟨rfl,c⟩;exact⟨⟨_,rfl,by rw[ByteArray.data_extract,Array.toList_extract];simp[List.extract,ER],by simp⟩,c⟩
theorem ri(R Q k:Nat)(s:ByteArray)(w:World)(h:Rdr w R Q s k)(hk:k≤s.size)(n:s.size≤16384) :
  Calls Tryz.prog 97 #[.pointer (some ⟨R,0,none⟩)] w fun e w'=>e=.returned (.tuple #[])∧w.grownBy w' (some Q)∧Rdr w' R Q s (skip s k):=by
 go_enter Tryz.func97,Tryz.ntmps97
 go_wp2_with fail
 go_loopw [33] (fun _ wr=>∃j,k≤j∧j≤s.size∧skip s j=skip s k∧Rdr wr R Q s j∧w.grownBy wr (some Q)) (fun _ wr=>s.size-pw wr Q)
 case atStart=>exact⟨k,EA _,hk,rfl,h,World.grownBy.refl w _⟩
 case round =>
  obtain⟨j,a1,v,G,r,Y⟩:=hrel;have Z:=Hd G;clear G
  by_cases x:j<s.size
  ·cases u:cI s[j]
   ·cases F:s[j]==35
    ·have A:=Hd (jT R Q j s wr r x n [⟨#[9,10,13,32]⟩,⟨#[35]⟩] _ rfl 2 2 rfl (by omega) false (by rw[jD,u,F];rfl));have HE:=Hd (iC s j x u F);clear u F
     go_wp2_with (first
      | (go_at_call 134;refine EJ A.o ?_;rintro e H ⟨rfl,a⟩))
     go_end0
     rw[←Z.o,HE.o];exact⟨rfl,grown_below Y a,r.keep a⟩
    ·have A:=Hd (jT R Q j s wr r x n [⟨#[9,10,13,32]⟩,⟨#[35]⟩] _ rfl 2 2 rfl (by omega) true (by rw[jD,u,F];rfl));have I:=Hd F;clear u F;go_wp2_with fail
     refine EJ A.o ?_;rintro e H ⟨rfl,a⟩;have f:=r.keep a;have B:=Hd (jT R Q j s H f x n [⟨#[35]⟩] _ rfl 1 1 rfl (by omega) true (by rw[pf];exact I.o));go_wp2_with fail
     refine EJ B.o ?_;rintro e w3 ⟨rfl,g⟩;have y:=f.keep g;go_wp2_with fail
     refine (s8 R Q j s w3 y v n).mono ?_;rintro e w4 ⟨⟨t,rfl,J,K⟩,L⟩;have ad:=y.keep L;have HT:=Hd J;have a6:=Hd K;have M:t.size≤16384:=by omega
     clear J K;go_wp2_with fail
     refine (Db t w4 M).mono ?_;rintro e w5 ⟨⟨d,b,c,rfl,C⟩,N⟩;have af:=ad.keep N;have HN:=Hd C;have D:j+d.size=aA (· != 10) s j:=by unfold aA;rw[C,HT.o]
     have ak:aA (· != 10) s j≤s.size:=cQ _ _ _ v;have O:j+d.size≤s.size:=by omega
     have an:=Hd D;have aq:w.grownBy w5 (some Q):=grown_below (grown_below (grown_below (grown_below Y a) g) L) N;have a7:j<j+d.size:=by rw[D];exact iy s j x (by simpa using I.o)
     clear D ak C;go_wp2_with fail
     go_loopw [22] (fun i wi=>∃m:Nat,m≤d.size∧i=int i64 m∧Rdr wi R Q s (j+m)∧w.grownBy wi (some Q)) (fun i _=>d.size-(intOf i).toNat)
     case atStart=>exact⟨0,EM _,rfl,af,aq⟩
     case round =>
      obtain⟨m,hm,rfl,z,S⟩:=hrel
      by_cases a8:m<d.size
      ·obtain⟨r0,r1,q0,q1,⟨p,q2⟩,f1,f2,ba,bb⟩:=z.cells;obtain⟨p',T⟩:=z.q;have ar:=Hd T;clear T
       go_wp2_with (first
        | (go_at_call 137;refine (jq Q (j+m) _ s _ ar.o (by omega) n).mono ?_;rintro e w6 ⟨rfl,U,V⟩;have av:=Hd V;clear V))
       go_roundw
       case rel=>exact⟨m+1,by omega,by go_num,z.grown U av.o,World.grownBy.trans S U⟩
       case measure=>simp[intOf];omega
      ·obtain rfl:m=d.size:=by omega
       go_wp2_with fail
       refine (oN R Q (j+d.size) s _ z O n [⟨#[9,10,13,32]⟩] _ rfl 1 1 rfl (by omega) cI mt).mono ?_;rintro e w7 ⟨rfl,E,l⟩;have HP:=Hd (rK s _ (j+d.size) (EA _));have bc:=eG cI s (j+d.size);have hle:=cQ cI s (j+d.size) O;generalize aA cI s (j+d.size)=j2 at *;go_wp2_with fail
       refine⟨⟨j2,by omega,hle,?_,l,World.grownBy.trans S E⟩,?_⟩
       ·rw[HP.o,an.o,←ko s j x (by simpa using I.o)];exact Z.o
       ·rw[l.pos,r.pos];omega
   ·have A:=Hd (jT R Q j s wr r x n [⟨#[9,10,13,32]⟩,⟨#[35]⟩] _ rfl 2 2 rfl (by omega) true (by rw[jD,u];rfl));have W:(s[j]==35)=false:=by
     cases hh:s[j]==35
     ·rfl
     ·exfalso
      have e:s[j]=35:=by simpa using hh
      rw[e]at u;cases u
    have I:=Hd W;have bd:j<aA cI s j:=by
     have:=eG cI s (j+1);rw[fN cI s j x u]at this;omega
    clear u W;go_wp2_with fail
    refine EJ A.o ?_;rintro e H ⟨rfl,a⟩;have f:=r.keep a;have B:=Hd (jT R Q j s H f x n [⟨#[35]⟩] _ rfl 1 1 rfl (by omega) false (by rw[pf];exact I.o));go_wp2_with fail
    refine EJ B.o ?_;rintro e w3 ⟨rfl,g⟩;have y:=f.keep g;have HT:=Hd (oN R Q j s w3 y v n [⟨#[9,10,13,32]⟩] _ rfl 1 1 rfl (by omega) cI mt);have HP:=Hd (rK s _ j (EA _));have hle:=cQ cI s j v;generalize aA cI s j=j2 at *;go_wp2_with fail
    refine EJ HT.o ?_;rintro e w7 ⟨rfl,E,l⟩;go_wp2_with fail
    refine⟨⟨j2,by omega,hle,?_,l,World.grownBy.trans (grown_below (grown_below Y a) g) E⟩,?_⟩
    ·rw[HP.o];exact Z.o
    ·rw[l.pos,r.pos];omega
  ·have X:j=s.size:=by omega
   have HE:=Hd (eu s j (by omega));have A:=Hd (pH R Q j s wr r X n #[string ⟨#[9,10,13,32]⟩,string ⟨#[35]⟩] (slice (some ⟨wr.heap.size,0,none⟩) 2 2));clear X
   go_wp2_with (first
    | (go_at_call 134;refine EJ A.o ?_;rintro e H ⟨rfl,a⟩))
   go_end0
   rw[←Z.o,HE.o];exact⟨rfl,grown_below Y a,r.keep a⟩
def bU(c:UInt8):Bool:=decide (48≤c.toNat)&&decide (c.toNat≤57)
def lr:Nat:=9223372036854775807
def fQ:Nat→List UInt8→Option Nat
 | n,[]=>some n
 | n,c::r=>if bU c&&decide (10*n+(c.toNat-48)≤lr) then fQ (10*n+(c.toNat-48)) r else none
def number(l:List UInt8):Option Nat:=if l.isEmpty then none else fQ 0 l
theorem xt(s:ByteArray)(w:World):∃c w',(convert 9 222 (.string s)).run Tryz.prog w=.ok (slice (some ⟨w.heap.size,0,none⟩) s.size c) w'∧Ft w w'∧
  ∀j (a:j<s.size),w'.cell? ⟨w.heap.size,j,none⟩=some (int .u8 (s[j].toNat:Int)):=by
 refine⟨_,_,run_bytes_of_string w 9 222 5 s Tryz.underlying9 Tryz.underlying222 Tryz.underlying5,(EB _ w).drew.alloc (EA _) _,fun j a=>?_⟩;have h:(w.drew.alloc (.cells (bytesRow s (grownCap w s.size 0 5)) 5 ((bytesRow s (grownCap w s.size 0 5)).size,(bytesRow s (grownCap w s.size 0 5)).size+1))).heap[w.heap.size]?=_:=n7 w.drew _;unfold World.cell?;rw[h];exact bytesRow_at s _ j a
theorem zN(s:ByteArray)(k m:Nat)(h:k<s.size)(a:bU s[k]=true)(hm:10*m+(s[k].toNat-48)≤lr) :
  fQ m (s.data.toList.drop k)=fQ (10*m+(s[k].toNat-48)) (s.data.toList.drop (k+1)):=by
 rw[drop_cons s k h];simp only[fQ,a,Bool.true_and,oe,hm,oA]
theorem B8(s:ByteArray)(k m:Nat)(h:k<s.size)(a:bU s[k]=false∨lr<10*m+(s[k].toNat-48)) :
  fQ m (s.data.toList.drop k)=none:=by
 rw[drop_cons s k h];simp only[fQ];rw[n8];rcases a with a|a
 ·simp[a]
 ·simp only[EQ,oe,not_and];intro _;omega
theorem rX(s:ByteArray)(h:0<s.size):number s.data.toList=fQ 0 s.data.toList:=by
 unfold number;rw[n8];have:=hH s h;rw[EN]at this;rw[this];simp
theorem yh(s:ByteArray)(h:s.size=0):number s.data.toList=none:=by
 have e:s.data.toList=[]:=by
  have a:s.data.toList.length=0:=by rw[EY];exact h
  exact EX a
 rw[e];rfl
theorem lE(s:ByteArray)(w:World)(Q:s.size≤100000) :
  Calls Tryz.prog 143 #[.string s] w fun e w'=>e=.returned (.tuple #[int i64 (((number s.data.toList).getD 0:Nat):Int),.bool (number s.data.toList).isSome])∧Ft w w':=by
 obtain⟨c,w1,r,a,b⟩:=xt s w;have I:=Hd b;clear b;have f:∀(o:Option Nat),number s.data.toList=o→∀(e:Ending) (w':World),e=.returned (.tuple #[int i64 ((o.getD 0:Nat):Int),.bool o.isSome])→Ft w w'→(e=.returned (.tuple #[int i64 (((number s.data.toList).getD 0:Nat):Int),.bool (number s.data.toList).isSome])∧Ft w w'):=by intro o J e w' he K;rw[J];exact⟨he,K⟩
 have t:=Hd f;clear f
 go_enter Tryz.func143,Tryz.ntmps143
 go_wp2
 clear r
 go_loopw [4,11] (fun n i wr=>∃(k m:Nat),k≤s.size∧i=int i64 k∧n=int i64 m∧m≤9223372036854775807∧fQ m (s.data.toList.drop k)=fQ 0 s.data.toList∧wr=w1) (fun _ i _=>s.size-(intOf i).toNat)
 case atStart=>exact⟨0,0,EM _,rfl,rfl,by omega,rfl,rfl⟩
 case round =>
  obtain⟨k,m,R,rfl,rfl,hm,g,rfl⟩:=hrel;have z:=Hd g;clear g
  by_cases j:k<s.size
  ·have L:=I.o k j;have S:=s[k].toNat_lt;have M:=Hd (zN s k m j);have N:=Hd (B8 s k m j);have G:Hid (bU s[k]=(decide (48≤s[k].toNat)&&decide (s[k].toNat≤57))):=rfl;generalize bU s[k]=B at *;generalize s[k].toNat=d at *;have u:∀h:48≤d∧d≤57,B=true:=fun h=>by rw[G.o];simp[h.1,h.2]
   have v:∀h:¬(48≤d∧d≤57),B=false:=fun h=>by rw[G.o];simp;omega
   have C:=Hd u;have x:=Hd v;clear u v;have y:(B=false∨lr<10*m+(d-48))→number s.data.toList=none:=fun h=>by rw[rX s (by omega),←z.o];exact N.o h
   have p:=Hd y;clear y
   go_wp2
   ·go_ret2
    have A:9223372036854775807<10*m+(d-48):=by omega
    exact t.o none (p.o (.inr A)) _ _ rfl a
   ·have A:10*m+(d-48)≤9223372036854775807:=by omega
    refine⟨⟨k+1,10*m+(d-48),by omega,by go_num,?_,A,?_,by trivial⟩,by simp[intOf];omega⟩
    ·congr 1;omega
    ·rw[←M.o (C.o (by omega)) A];exact z.o
   ·go_ret2
    exact t.o none (p.o (.inl (x.o (by omega)))) _ _ rfl a
   ·go_ret2
    exact t.o none (p.o (.inl (x.o (by omega)))) _ _ rfl a
  ·obtain rfl:k=s.size:=by omega
   rcases Nat.eq_zero_or_pos s.size with q|q
   ·have D:m=0:=by
     have E:=z.o;have e:s.data.toList=[]:=EX (by rw[EY];exact q);rw[e]at E;simp[fQ]at E;exact E
    have he:s.toList.isEmpty=true:=by rw[EN,EX (l:=s.data.toList) (by rw[EY];exact q)];rfl
    have F:=Hd q;subst D;clear q
    go_wp2
    go_ret2
    exact t.o none (yh s F.o) _ _ rfl a
   ·have he:s.toList.isEmpty=false:=hH s q;have H:number s.data.toList=some m:=by rw[rX s q,←z.o,drop_end s _ (EA _)];rfl
    have O:=Hd H;clear H
    go_wp2
    go_ret2
    exact t.o _ O.o _ _ rfl a
theorem pQ(s:ByteArray)(w:World)(a:s.size≤16384) :
  Calls Tryz.prog 143 #[.string s] w fun e w'=>e=.returned (.tuple #[int i64 (((number s.data.toList).getD 0:Nat):Int),.bool (number s.data.toList).isSome])∧Ft w w':=lE s w (by omega)
theorem uK(p:UInt8→Bool)(h:(List.range 256).all (fun n=>p (UInt8.ofNat n))=true)(c:UInt8):p c=true:=by
 have a:=Fe.1 h c.toNat (List.mem_range.2 c.toNat_lt)
 simpa using a
def isLow(c:UInt8):Bool:=decide (97≤c.toNat)&&decide (c.toNat≤122)
def aW(c:UInt8):Bool:=isLow c||bU c||c==95
def cO:ByteArray:=⟨#[97,98,99,100,101,102,103,104,105,106,107,108,109,110,111,112,113,114,115,116,117,118,119,120,121,122]⟩
def i3:ByteArray:=⟨#[48,49,50,51,52,53,54,55,56,57]⟩
def fa:ByteArray:=⟨#[97,98,99,100,101,102,103,104,105,106,107,108,109,110,111,112,113,114,115,116,117,118,119,120,121,122,48,49,50,51,52,53,54,55,56,57,95]⟩
theorem kQ(c:UInt8):hasB cO c=isLow c:=by
 have:=uK (fun c=>hasB cO c==isLow c) (by kernel_rfl) c
 simpa using this
theorem yq(c:UInt8):hasB i3 c=bU c:=by
 have:=uK (fun c=>hasB i3 c==bU c) (by kernel_rfl) c
 simpa using this
theorem tU(c:UInt8):hasB fa c=aW c:=by
 have:=uK (fun c=>hasB fa c==aW c) (by kernel_rfl) c
 simpa using this
def eA(l:List UInt8):Bool:=
 match l with
 | []=>false
 | c::_=>decide (l.length≤24)&&isLow c
theorem jy(s:ByteArray)(w:World)(m:s.size≤16384) :
  Calls Tryz.prog 142 #[.string s] w fun e w'=>e=.returned (.bool (eA s.data.toList))∧w=w':=by
 rcases Nat.eq_zero_or_pos s.size with a|a
 ·have e:s.data.toList=[]:=EX (by rw[EY];exact a);have he:s.toList.isEmpty=true:=by rw[EN,e];rfl
  have j:=Hd e;clear e a
  go_enter Tryz.func142,Tryz.ntmps142
  go_wp2
  go_ret;rw[j.o];exact⟨rfl,rfl⟩
 ·have he:s.toList.isEmpty=false:=hH s a;have b:s.data.toList=s[0]::s.data.toList.drop 1:=by
   have:=drop_cons s 0 a
   simpa using this
  have c:eA s.data.toList=(decide (s.size≤24)&&hasB cO s[0]):=by rw[kQ,b];unfold eA;simp only[←b,EY];rfl
  have d:=Hd c;have k:=Hd ((gl cO s[0] w).mono (R':=fun e w'=>(∃i:Int,e=.returned (int i64 i)∧decide (0≤i)=hasB cO s[0])∧w=w') (fun e w' f=>⟨⟨_,f.1,jC _ _⟩,f.2⟩));clear c b
  go_enter Tryz.func142,Tryz.ntmps142
  by_cases g:s.size≤24
  ·go_wp2_with (first
    | (go_at_call 88;refine EJ k.o ?_;rintro e w' ⟨⟨i,rfl,h⟩,rfl⟩;have l:=Hd h;clear h))
   go_ret;rw[d.o,←l.o];exact⟨by simp[g],rfl⟩
  ·go_wp2
   go_ret;rw[d.o];exact⟨by simp[g],rfl⟩
def aM(w:World):Prop:=∀c:Nat,c<256→w.cell? ⟨1,c,none⟩=some (int .u8 (if Lib.isSp (UInt8.ofNat c) then 1 else 0))
theorem aM.lt{w:World}(h:aM w):1<w.heap.size:=by
 have a:=h 0 (by omega);unfold World.cell? at a;rcases Nat.lt_or_ge 1 w.heap.size with b|b
 ·exact b
 ·rw[Fl b]at a;cases a
theorem aM.block{w w':World}(h:aM w)(b:w'.heap[(1:Nat)]?=w.heap[(1:Nat)]?):aM w':=
 fun c d=>(World.cell?_of_block (a:=⟨1,c,none⟩) b).trans (h c d)
theorem aM.below{w w':World}(h:aM w)(a:Ft w w'):aM w':=h.block (a.block _ h.lt)
theorem aM.grown{w w':World}{g:Nat}(h:aM w)(a:w.grownBy w' (some g))(b:g≠1):aM w':=
 h.block (a.block _ h.lt (fun e=>by injection e with e;exact b e.symm))
theorem mV(s:ByteArray)(L:List ByteArray)(c:(Lib.fields s.data.toList).map (fun l=>string ⟨l.toArray⟩)=L.map string)(d:s.size<4294967281)(a:s.data.toList.all (fun b=>decide (b.toNat<128))=true)(w:World)(f:aM w) :
  Calls Tryz.prog 144 #[.string s] w fun e w'=>e=.returned (slice (some ⟨w.heap.size,0,none⟩) L.length L.length)∧w'=w.alloc (.cells (L.map string).toArray 9):=by
 have hlen:(Lib.fields s.data.toList).length=L.length:=by
  have:=oT List.length c
  simpa using this
 refine (Any.strings_Fields_core Tryz.lays157 (by kernel_rfl) s w d (fun j b g=>?_) f).mono ?_
 ·have:=Fe.1 a b (EU g)
  simpa using this
 ·rintro e w' ⟨he,hw⟩;rw[hlen]at he;rw[c]at hw;exact⟨he,hw⟩
def fU:List ByteArray:=[⟨#[102,97,99,116]⟩,⟨#[114,117,108,101]⟩,⟨#[115,97,108,105,101,110,99,101]⟩,⟨#[110,111,116]⟩,⟨#[116,101,115,116]⟩,⟨#[97,115,115,101,114,116]⟩,⟨#[114,101,116,114,97,99,116]⟩,⟨#[115,97,121]⟩,⟨#[104,97,108,116]⟩,⟨#[97,110,100]⟩,⟨#[111,114]⟩]
def AC:ByteArray:=⟨#[102,97,99,116,32,114,117,108,101,32,115,97,108,105,101,110,99,101,32,110,111,116,32,116,101,115,116,32,97,115,115,101,114,116,32,114,101,116,114,97,99,116,32,115,97,121,32,104,97,108,116,32,97,110,100,32,111,114]⟩
def ei:List ByteArray:=[⟨#[61,62]⟩,⟨#[33,61]⟩,⟨#[60,61]⟩,⟨#[62,61]⟩,⟨#[40]⟩,⟨#[41]⟩,⟨#[123]⟩,⟨#[125]⟩,⟨#[44]⟩,⟨#[59]⟩,⟨#[61]⟩,⟨#[60]⟩,⟨#[62]⟩,⟨#[43]⟩,⟨#[45]⟩,⟨#[42]⟩,⟨#[95]⟩]
def Al:ByteArray:=⟨#[61,62,32,33,61,32,60,61,32,62,61,32,40,32,41,32,123,32,125,32,44,32,59,32,61,32,60,32,62,32,43,32,45,32,42,32,95]⟩
theorem ug(w:World)(a:aM w) :
  Calls Tryz.prog 144 #[.string AC] w fun e w'=>e=.returned (slice (some ⟨w.heap.size,0,none⟩) 11 11)∧w'=w.alloc (.cells (fU.map string).toArray 9):=
 mV AC fU (by kernel_rfl) (by decide) (by kernel_rfl) w a
theorem uI(w:World)(a:aM w) :
  Calls Tryz.prog 144 #[.string Al] w fun e w'=>e=.returned (slice (some ⟨w.heap.size,0,none⟩) 17 17)∧w'=w.alloc (.cells (ei.map string).toArray 9):=
 mV Al ei (by kernel_rfl) (by decide) (by kernel_rfl) w a
theorem rW(w:World)(a:aM w) :
  Calls Tryz.prog 141 #[] w fun e w'=>e=.returned (slice (some ⟨w.heap.size,0,none⟩) 11 11)∧w'=w.alloc (.cells (fU.map string).toArray 9):=by
 have b:=Hd (ug w a)
 go_enter Tryz.func141,Tryz.ntmps141
 go_wp2_with (first
  | (go_at_call 144;refine EJ b.o ?_;rintro e w' ⟨rfl,rfl⟩))
 go_ret;exact⟨rfl,rfl⟩
def jI(l:List UInt8):Bool:=fU.any (fun b=>b.data.toList==l)
theorem Ai(x:ByteArray):Lib.containsS fU x=jI x.data.toList:=by
 rw[Fc,Lib.containsS_iff,jI,List.any_eq_true]
 constructor
 ·intro h;exact⟨x,h,by simp⟩
 ·rintro ⟨y,c,he⟩;have e:y=x:=by
   have a:y.data.toList=x.data.toList:=by simpa using he
   have b:y.data=x.data:=Array.toList_inj.1 a;exact ByteArray.ext b
  rwa [←e]
theorem kZ(B c:Nat)(x:ByteArray)(w:World)(h:w.heap[B]?=some (.cells (fU.map string).toArray 9 (0,0))) :
  Calls Tryz.prog 140 #[slice (some ⟨B,0,none⟩) 11 c,.string x] w fun e w'=>e=.returned (.bool (jI x.data.toList))∧w=w':=by
 refine (Tryz.slices_Contains_string B 0 11 c fU x w (by decide) (by decide) (fun j a=>?_)).mono ?_
 ·rw[Nat.zero_add,Fq _ _ _ _ _ _ h];simp[List.getD_eq_getElem?_getD,EE a]
 ·rintro e w' ⟨rfl,hw⟩;refine⟨?_,hw.symm⟩;rw[show fU.take 11=fU from rfl,Ai]
