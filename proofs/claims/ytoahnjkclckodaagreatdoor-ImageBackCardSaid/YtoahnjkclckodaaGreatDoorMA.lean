/- Parts of one proof, joined; conditions stand in each theorem. -/
import Derived.WalkKit
import Derived.WalkSpells
import Derived.WalkLawsBesides
import Derived.Maps.AppendAt
import Derived.Lib.Hide
import Derived.ArgAppend
import Derived.Deep.AppendLies
import Derived.Test.YtoahnjkclckodaaGreatDoorProg
import Derived.Test.YtoahnjkclckodaaGreatDoorShelf
import Derived.Deep.QuietTactic
import Derived.BigQuiet
import Derived.LoopTactic
import Derived.Laws.IdiomStrings
open Option renaming some→A,none→Y
open Bool renaming false→ur,true→tT
open Go renaming World→J,Value→tS,TypeId→xD,Addr→z7,Calls→vv
open Go.Obj renaming cells→r7
open Go.World renaming setCell→AF,cell?→At
open Or renaming inl→wD,inr→wF
open Go.Ending renaming returned→wg
open Go.Value renaming bool→xt,slice→O,string→r9,int→I,pointer→vo,func→z6,tuple→y9
open Go.IntKind renaming i64→U,u8→r8
open Go.Proofs.Tryz renaming prog→va
open Decidable renaming decide→wj
namespace Go.Proofs.YtoahnjkclckodaaGreatDoor
set_option maxHeartbeats 1000000
set_option maxRecDepth 100000
open Go.RowKit
theorem zzx{α:Sort _}(a:α):∃x,x=a:=⟨a,rfl⟩
theorem zzy{α:Sort _}(a:α):∃x,a=x:=⟨a,rfl⟩
theorem Z{α:Sort _}{a:α}:a=a:=rfl
abbrev oc:=@Go.heap_alloc_new
abbrev oe:=@if_neg
abbrev oj:=@if_pos
abbrev oA:=@Go.heap_setCell_other
abbrev oB:=@decide_eq_true_eq
abbrev oE:=@decide_eq_false
abbrev oF:=@if_false
abbrev oT:=@Go.World.grownBy.refl
abbrev oX:=@if_true
abbrev o1:=@of_decide_eq_true
abbrev o3:=@Go.World.size_alloc
abbrev o4:=@congrArg
abbrev o5:=@Go.World.grownBy.trans
abbrev o6:=@Option.some.injEq
abbrev o7:=@Option.map_eq_some_iff
abbrev o8:=@or_false
abbrev o9:=@beq_eq_false_iff_ne
abbrev pb:=@Go.Sem.run_bind
abbrev ph:=@Go.Sem.run_pure
abbrev qv:=@Option.some.inj
abbrev q5:=@of_decide_eq_false
abbrev q6:=@beq_self_eq_true
abbrev q7:=@beq_iff_eq
abbrev JL:=@Array.getElem?_eq_some_iff
abbrev JM:=@Nat.le_refl
abbrev JO:=@Below.refl
abbrev JP:=@List.setIfInBounds_toArray
abbrev JQ:=@Below.heap_setCell
abbrev JR:=@List.getElem?_eq_getElem
abbrev JS:=@Nat.lt_of_lt_of_le
abbrev JU:=@Nat.le_trans
abbrev JV:=@List.set_cons_succ
abbrev JW:=@List.set_cons_zero
abbrev JX:=@Calls.mono
abbrev JY:=@List.take_succ_cons
abbrev JZ:=@List.drop_succ_cons
abbrev J0:=@Nat.zero_le
abbrev J1:=@ByteArray.toList_eq
abbrev J2:=@List.length_append
abbrev J3:=@List.getElem?_eq_some_iff
abbrev J4:=@Bool.and_eq_true
abbrev J5:=@List.take_of_length_le
abbrev J6:=@List.drop_zero
abbrev J7:=@List.take_zero
abbrev J8:=@List.mem_of_getElem?
abbrev J9:=@Nat.le_succ
abbrev Ka:=@Bool.false_eq_true
abbrev Kb:=@List.eq_nil_of_length_eq_zero
abbrev Kc:=@Array.length_toList
abbrev Kd:=@List.getElem?_append_right
abbrev Ke:=@Nat.le_of_lt
abbrev Kf:=@List.length_cons
abbrev Kg:=@Bool.eq_iff_iff
abbrev Kh:=@List.all_eq_true
abbrev Ki:=@List.not_mem_nil
abbrev Kj:=@List.take_add_one
abbrev Kk:=@List.mem_cons
abbrev Kl:=@List.getElem?_append_left
abbrev Km:=@List.getElem?_cons_succ
abbrev Kn:=@Array.getElem?_eq_none
abbrev Ko:=@List.length_singleton
abbrev Kp:=@Below.heap_alloc
abbrev Kq:=@cell_of_row
def Hid(p:Prop):Prop:=p
theorem Hid.o{p:Prop}(h:Hid p):p:=h
theorem Hd{p:Prop}(h:p):Hid p:=h
theorem zz2{p0 p1:Prop}(a0:p0)(a1:p1):Hid p0∧Hid p1:=⟨a0,a1⟩
theorem zz3{p0 p1 p2:Prop}(a0:p0)(a1:p1)(a2:p2):Hid p0∧Hid p1∧Hid p2:=⟨a0,a1,a2⟩
theorem zz4{p0 p1 p2 p3:Prop}(a0:p0)(a1:p1)(a2:p2)(a3:p3):Hid p0∧Hid p1∧Hid p2∧Hid p3:=⟨a0,a1,a2,a3⟩
theorem zz5{p0 p1 p2 p3 p4:Prop}(a0:p0)(a1:p1)(a2:p2)(a3:p3)(a4:p4):Hid p0∧Hid p1∧Hid p2∧Hid p3∧Hid p4:=⟨a0,a1,a2,a3,a4⟩
theorem zz6{p0 p1 p2 p3 p4 p5:Prop}(a0:p0)(a1:p1)(a2:p2)(a3:p3)(a4:p4)(a5:p5):Hid p0∧Hid p1∧Hid p2∧Hid p3∧Hid p4∧Hid p5:=⟨a0,a1,a2,a3,a4,a5⟩
theorem zz7{p0 p1 p2 p3 p4 p5 p6:Prop}(a0:p0)(a1:p1)(a2:p2)(a3:p3)(a4:p4)(a5:p5)(a6:p6):Hid p0∧Hid p1∧Hid p2∧Hid p3∧Hid p4∧Hid p5∧Hid p6:=⟨a0,a1,a2,a3,a4,a5,a6⟩
abbrev Kr(w W:World):Prop:=Below w.heap.size w W
def hasB(st:ByteArray) (c:UInt8):Bool:=st.data.toList.contains c
theorem wh(p:ByteArray→Bool)(l:List ByteArray)(k:Nat)(x:ByteArray)(a:l[k]?=A x)(h:(l.take k).any p=ur):(l.take (k+1)).any p=p x:=by rw[Kj,a,List.any_append,h];simp
theorem BL(p:ByteArray→Bool)(l:List ByteArray)(k:Nat)(x:ByteArray)(a:l[k]?=A x)(h:p x=tT):l.any p=true:=
 List.any_eq_true.2 ⟨x,J8 a,h⟩
theorem below_drewN{B:Nat}{a w:J}(h:Below B a w)(n:Nat):Below B a (w.drewN n):=⟨h.os,h.tape,h.output,h.size,h.block⟩
theorem Jq(s:ByteArray)(a b i:Nat)(h:i<(s.extract a b).size)(c:a+i<s.size):(s.extract a b)[i]=s[a+i]:=by simp only[ByteArray.getElem_eq_getElem_data,ByteArray.data_extract,Array.getElem_extract]
theorem jg(t:ByteArray)(h:0<t.size):t.toList.isEmpty=false:=by
 rw[J1]
 cases b:t.data.toList with
 | nil =>
  have:t.data.toList.length=0:=by rw[b];rfl
  rw[Kc]at this;have c:t.size=t.data.size:=rfl;omega
 | cons a l=>rfl
theorem cell_new1(w:J)(v:tS)(t:xD):(w.alloc (r7 #[v] t)).cell? ⟨w.heap.size,0,Y⟩=A v:=by
 have h:(w.alloc (r7 #[v] t)).heap[w.heap.size]?=A (r7 #[v] t):=oc w _;exact Kq _ _ 0 _ _ _ h
theorem heap_set{w:J}{g:Nat}{cs:Array tS}{t:xD}(h:w.heap[g]?=A (r7 cs t (0,0)))(i:Nat)(u:tS) :
  (w.setCell ⟨g,i,Y⟩ u).heap[g]?=A (r7 (cs.setIfInBounds i u) t (0,0)):=by
 simp[AF,Array.getElem?_modify,h]
theorem ec{a w:J}{g:Nat}(h:a.grownBy w (A g))(i:Nat)(u:tS):a.grownBy (w.setCell ⟨g,i,Y⟩ u) (A g):=
 ⟨h.os,h.tape,h.output,by simpa [AF]using h.size,fun j c b=>(JQ w ⟨g,i,Y⟩ u j (fun e=>b (by rw[e]))).trans (h.block j c b)⟩
theorem grown_drewN{a w:J}{row:Option Nat}(h:a.grownBy w row)(n:Nat):a.grownBy (w.drewN n) row:=⟨h.os,h.tape,h.output,h.size,h.block⟩
theorem aa{B i:Nat}{w w':J}{o:Option Obj}(a:Below B w w')(h:w.heap[i]?=o)(hi:i<B):w'.heap[i]?=o:=(a.block i hi).trans h
def an(p:UInt8→Bool) (s:ByteArray) (k:Nat):Nat:=k+((s.data.toList.drop k).takeWhile p).length
theorem drop_cons(s:ByteArray)(k:Nat)(h:k<s.size):s.data.toList.drop k=s[k]::s.data.toList.drop (k+1):=by rw[List.drop_eq_getElem_cons (by simpa using h)];rfl
theorem drop_end(s:ByteArray)(k:Nat)(h:s.size≤k):s.data.toList.drop k=[]:=List.drop_eq_nil_of_le (by simpa using h)
theorem gR(p:UInt8→Bool)(s:ByteArray)(k:Nat)(h:k<s.size)(a:p s[k]=tT):an p s (k+1)=an p s k:=by unfold an;rw[drop_cons s k h];simp[a];omega
theorem vp(p:UInt8→Bool)(s:ByteArray)(k:Nat)(h:k<s.size)(a:p s[k]=ur):an p s k=k:=by unfold an;rw[drop_cons s k h];simp[a]
theorem oo(p:UInt8→Bool)(s:ByteArray)(k:Nat)(h:s.size≤k):an p s k=k:=by unfold an;rw[drop_end s k h];rfl
theorem fA(p:UInt8→Bool)(s:ByteArray)(k:Nat):k≤an p s k:=by unfold an;omega
theorem dB(p:UInt8→Bool)(s:ByteArray)(k:Nat)(h:k≤s.size):an p s k≤s.size:=by
 unfold an;have a:=(List.takeWhile_sublist p (l:=s.data.toList.drop k)).length_le;have b:(s.data.toList.drop k).length=s.size-k:=by simp
 omega
theorem grown_below{a w w':J}{row:Option Nat}(b:a.grownBy w row)(c:Kr w w'):a.grownBy w' row:=
 ⟨c.os.trans b.os,c.tape.trans b.tape,c.output.trans b.output,JU b.size c.size,fun i hi d=>(c.block i (JS hi b.size)).trans (b.block i hi d)⟩
theorem aF{a w:J}(h:Kr a w)(row:Option Nat):a.grownBy w row:=⟨h.os,h.tape,h.output,h.size,fun i hi _=>h.block i hi⟩
theorem ap{w w':J}{i:Nat}{row:Option Nat}{o:Obj}(b:w.grownBy w' row)(h:w.heap[i]?=A o)(a:A i≠row):w'.heap[i]?=A o:=
 (b.block i (JL.1 h).1 a).trans h
theorem ll{w:J}{i j:Nat}{cs b:Array tS}{t u:xD}(h:w.heap[i]?=A (r7 cs t (0,0)))(k:w.heap[j]?=A (r7 b u (0,0)))(a:t≠u):i≠j:=by
 rintro rfl;rw[h]at k;injection k with k
 injection k with _ k
 exact a k
theorem cells3{w:J}{T:Nat}{a b c:tS}{t:xD}(h:w.heap[T]?=A (r7 #[a,b,c] t (0,0))) :
  w.cell? ⟨T,0,Y⟩=A a∧w.cell? ⟨T,1,Y⟩=A b∧w.cell? ⟨T,2,Y⟩=A c∧w.frozen? ⟨T,0,Y⟩=ur∧w.frozen? ⟨T,1,Y⟩=ur∧w.frozen? ⟨T,2,Y⟩=false:=by
 simp[At,World.frozen?,h]
theorem bz{a w:J}{row:Option Nat}(h:a.grownBy w row){T:Nat}(d:a.heap.size≤T)(i:Nat)(u:tS):a.grownBy (w.setCell ⟨T,i,Y⟩ u) row:=
 ⟨h.os,h.tape,h.output,by simpa [AF]using h.size,fun j c b=>(JQ w ⟨T,i,Y⟩ u j (by show j≠T;omega)).trans (h.block j c b)⟩
theorem az{w:J}{g T:Nat}{o:Obj}(h:w.heap[g]?=A o)(a:T≠g)(i:Nat)(u:tS):(w.setCell ⟨T,i,Y⟩ u).heap[g]?=A o:=
 (JQ w ⟨T,i,Y⟩ u g (fun e=>a e.symm)).trans h
theorem iF(w:J)(o:Obj)(i:Nat):(w.alloc o).heap[i]?=if i=w.heap.size then A o else w.heap[i]?:=by
 show (w.heap.push o)[i]?=_
 rw[Array.getElem?_push]
theorem jx(w:J)(l:List tS)(t:xD):∀(j:Nat) (u:tS),l[j]?=A u→(w.alloc (r7 l.toArray t)).cell? ((⟨w.heap.size,0,Y⟩:z7).add j)=A u:=by
 intro j u h;have b:(w.alloc (r7 l.toArray t)).heap[w.heap.size]?=A (r7 l.toArray t (0,0)):=oc w _;have e:((⟨w.heap.size,0,Y⟩:z7).add j)=⟨w.heap.size,j,Y⟩:=by
  unfold Addr.add
  by_cases a:j=0
  ·rw[oj a,a]
  ·rw[oe a];simp
 rw[e,Kq _ _ _ _ _ _ b]
 simpa using h
theorem aB{w:J}{T:Nat}{cs:Array tS}{t:xD}(h:w.heap[T]?=A (r7 cs t (0,0)))(i:Nat):w.frozen? ⟨T,i,Y⟩=false:=by simp[World.frozen?,h]
theorem ownsRow_base{w:J}{b b':Nat}{e:xD}{size n:Nat}{v:tS}{xs:List tS}(h:w.ownsRow b e size v n xs)(c:b'≤b):w.ownsRow b' e size v n xs:=by
 obtain⟨d,a⟩:=h;refine⟨d,?_⟩;rcases a with a|⟨g,cap,cur,f,i,r⟩
 ·exact wD a
 ·exact wF ⟨g,cap,cur,f,JU c i,r⟩
theorem bN{a b:Bool}(h:a=b):wg (xt a)=wg (xt b):=by rw[h]
theorem ownsRow_below{w w':J}{b:Nat}{e:xD}{size n:Nat}{v:tS}{xs:List tS}(h:w.ownsRow b e size v n xs)(a:Kr w w'):w'.ownsRow b e size v n xs:=by
 refine h.kept (aF a Y) ?_
 cases c:v.ownBlock with
 | none=>exact wD Z
 | some k=>exact wF (by simp)
section
variable {P:Program} (w:J)
theorem ma(base:Nat)(t ty e:xD)(i:TypeInfo)(z:tS)(size bytes:Nat)(E:P.underlying t=A (.slice e))(hi:P.info? e=A i)(M:i.zero=A z)
  (o:i.size=size) (F:i.bytes=bytes) (G:z.cells.size=size) (Q:0<size)
  (v:tS) (n:Nat) (xs:List tS) (b:w.ownsRow base e size v n xs)
  (a:z7) (m c:Nat) (news:List tS) (s:news.length=m*size) (d:∀j u,news[j]?=A u→w.cell? (a.add j)=A u) (R:∀u∈news,u.oneCell'=tT)
  (x:n+m≤maxLen) (h:(n+m)*bytes≤140737488355328) (p:base≤w.heap.size) (hm:0<m) :
  ∃C w',(Builtin.append_ #[t,t] ty #[v,O (A a) m c]).run P w=.ok C w'∧w'.ownsRow base e size C (n+m) (xs++news)∧
   ((∃g cap,v=O (A ⟨g,0,Y⟩) n cap∧C=O (A ⟨g,0,Y⟩) (n+m) cap∧w.grownBy w' (A g))∨
    (∃cap,C=O (A ⟨w.heap.size,0,Y⟩) (n+m) cap∧Kr w w')):=by
 subst o;subst F;have D:n+m≤9223372036854775807:=by simp only[maxLen]at x;omega
 have hlen:(xs++news).length=(n+m)*i.size:=by rw[J2,b.1,s,Nat.add_mul]
 have grown:∀(old:Nat),old<n+m→
   (w.drew.alloc (r7 (xs.toArray++news.toArray++Builtin.zeroCells z.cells (grownCap w (n+m) old e-(n+m))) e)).ownsRow base e i.size
    (O (A ⟨w.heap.size,0,Y⟩) (n+m) (grownCap w (n+m) old e)) (n+m) (xs++news)∧
   Kr w (w.drew.alloc (r7 (xs.toArray++news.toArray++Builtin.zeroCells z.cells (grownCap w (n+m) old e-(n+m))) e)):=by
  intro old X;have H:=grownCap_ge w (n+m) old e;have q:grownCap w (n+m) old e≤maxLen:=grownCap_le_maxLen w (n+m) old e x;refine⟨⟨hlen,wF ⟨w.heap.size,_,_,Z,p,oc w.drew _,H,q,?_,?_⟩⟩,(JO _ w).drew.alloc (JM _) _⟩
  ·simp only[Array.size_append,List.size_toArray,size_zeroCells,G,b.1,s,←Nat.add_mul]
   congr 1
   omega
  ·simp only[Array.toList_append,List.append_assoc];rw[←List.append_assoc,←hlen];exact List.take_left
 rcases b.2 with ⟨rfl,rfl⟩|⟨g,cap,cur,rfl,K,N,S,q,L,r⟩
 ·have T:xs=[]:=Kb (by simpa using b.1);subst T;have y:=run_append_nil (P:=P) w t ty e i z E hi M a m c news s d (by omega) (by omega) (by have V:=h;simp only[Nat.zero_add]at V;omega);have l:=grown 0 (by omega);simp only[Nat.zero_add,List.nil_append,Array.empty_append]at l ⊢;exact⟨_,_,y,l.1,wF ⟨_,Z,l.2⟩⟩
 ·by_cases f:n+m≤cap
  ·have B:n*i.size+news.length≤cur.size:=by rw[s,L,←Nat.add_mul];exact Nat.mul_le_mul_right _ f
   have y:=run_append_room (P:=P) w t ty e i E hi g n cap cur N a m c news s d R f B;refine⟨_,_,y,⟨hlen,wF ⟨g,cap,_,Z,K,setRow_heap w g cur _ e _ N,f,q,?_,?_⟩⟩,wD ⟨g,cap,Z,Z,⟨Z,Z,Z,by simp,fun k _ W=>setRow_other w g k _ (fun e=>W (by simp[e]))⟩⟩⟩
   ·simp only[List.size_toArray,J2,List.length_take,List.length_drop,Kc];omega
   ·rw[r,←hlen];exact List.take_left
  ·have holds:∀j u,xs[j]?=A u→w.cell? ((⟨g,0,Y⟩:z7).add j)=A u:=b.cells (g:=g) Z;have y:=run_append_grow (P:=P) w t ty e i z E hi M ⟨g,0,Y⟩ n cap xs b.1 holds a m c news s d (by omega) (by omega) (growslice_fits (by omega) h);have l:=grown cap (by omega);exact⟨_,_,y,l.1,wF ⟨_,Z,l.2⟩⟩
theorem bS{ops:Array Oper}{rest:List Oper}{o:Oper}{a:Act}{Q:Exit→Act→J→Prop}(q:o.guard=Y)(s x:Operand)(t:xD)
  (E:o.op=.call { callee:=.builtin .append,args:=#[s,x],argTypes:=#[t,t] })
  (base:Nat) (e:xD) (i:TypeInfo) (z:tS) (size bytes:Nat) (F:P.underlying t=A (.slice e)) (hi:P.info? e=A i) (G:i.zero=A z)
  (d:i.size=size) (r:i.bytes=bytes) (y:z.cells.size=size) (B:0<size)
  (v:tS) (n:Nat) (xs:List tS) (H:a.eval s=v) (p:w.ownsRow base e size v n xs)
  (C:z7) (m c:Nat) (news:List tS) (L:a.eval x=O (A C) m c) (M:news.length=m*size) (f:∀j u,news[j]?=A u→w.cell? (C.add j)=A u) (N:∀u∈news,u.oneCell'=tT)
  (D:n+m≤maxLen) (b:(n+m)*bytes≤140737488355328) (k:base≤w.heap.size) (hm:0<m)
  (h:∀l w',w'.ownsRow base e size l (n+m) (xs++news)→
   ((∃g cap,v=O (A ⟨g,0,Y⟩) n cap∧l=O (A ⟨g,0,Y⟩) (n+m) cap∧w.grownBy w' (A g))∨(∃cap,l=O (A ⟨w.heap.size,0,Y⟩) (n+m) cap∧Kr w w'))→
   wpList P ops Q rest (a.put o.dst l) w') :
  wpList P ops Q (o::rest) a w:=by
 refine wpList_plain q fun K R=>?_
 obtain⟨l,w',S,T,V⟩:=ma (P:=P) w base t o.type e i z size bytes F hi G d r y B v n xs p C m c news M f N D b k hm;unfold Oper.wp execOp;simp only[E,resolve,invoke,builtin,pb,ph,Result.andThen_ok,List.map_toArray,List.map_cons,List.map_nil,H,L,S];exact R _ _ (h l w' T V)
end
structure Chg (F:Nat→Prop) (w w':J):Prop where
 os:w'.os=w.os
 a:w'.tape=w.tape
 c:w'.output=w.output
 z:w.heap.size≤w'.heap.size
 q:∀b,b<w.heap.size→¬F b→w'.heap[b]?=w.heap[b]?
theorem Chg.refl(F:Nat→Prop)(w:J):Chg F w w:=⟨Z,Z,Z,JM _,fun _ _ _=>rfl⟩
theorem Chg.h{F:Nat→Prop}{a b c:J}(h:Chg F a b)(k:Chg F b c):Chg F a c:=
 ⟨k.os.trans h.os,k.a.trans h.a,k.c.trans h.c,JU h.z k.z,fun i hi d=>(k.q i (JS hi h.z) d).trans (h.q i hi d)⟩
theorem Chg.N{F G:Nat→Prop}{a b:J}(h:Chg F a b)(c:∀i,F i→G i):Chg G a b:=⟨h.os,h.a,h.c,h.z,fun i hi d=>h.q i hi fun k=>d (c i k)⟩
theorem Chg.u{F:Nat→Prop}{a b:J}(h:Kr a b):Chg F a b:=⟨h.os,h.tape,h.output,h.size,fun i hi _=>h.block i hi⟩
theorem Chg.K{F:Nat→Prop}{a b:J}(h:Chg F a b){p:z7}(c:F p.block∨a.heap.size≤p.block)(v:tS):Chg F a (b.setCell p v):=
 ⟨h.os,h.a,h.c,by simpa [AF]using h.z,fun i hi d=>(oA _ _ _ _ (by rintro rfl;rcases c with c|c;exact d c;omega)).trans (h.q i hi d)⟩
theorem Chg.C{F:Nat→Prop}{B:Nat}{w a b:J}(hw:Below B w a)(h:Chg F a b)(hF:∀i,F i→B≤i)(hB:B≤a.heap.size):Below B w b:=
 ⟨h.os.trans hw.os,h.a.trans hw.tape,h.c.trans hw.output,JU hw.size h.z,fun i hi=>(h.q i (JS hi hB) fun k=>by have:=hF i k;omega).trans (hw.block i hi)⟩
theorem aP{w:J}{base n size:Nat}{e:xD}{v:tS}{xs:List tS}(h:w.ownsRow base e size v n xs):∀g,v.ownBlock=A g→base≤g∧g<w.heap.size:=by
 intro g a;rcases h.2 with ⟨rfl,_⟩|⟨d,cap,cur,rfl,b,c,_⟩
 ·cases a
 ·injection a with a
  subst a;exact⟨b,(JL.1 c).1⟩
theorem dj{w w':J}{B:Nat}{e:xD}{z n:Nat}{v:tS}{xs:List tS}(h:w.ownsRow B e z v n xs)(a:∀g,v.ownBlock=A g→w'.heap[g]?=w.heap[g]?):w'.ownsRow B e z v n xs:=by
 refine⟨h.1,?_⟩;rcases h.2 with b|⟨g,cap,cur,rfl,c,d,rest⟩
 ·exact wD b
 ·exact wF ⟨g,cap,cur,Z,c,(a g Z).trans d,rest⟩
theorem hH{w w':J}{B:Nat}{e:xD}{z n:Nat}{v:tS}{xs:List tS}(h:w.ownsRow B e z v n xs)(a:Kr w w'):w'.ownsRow B e z v n xs:=
 dj h fun g b=>a.block g (h.lt g b).2
theorem cells5{w:J}{T:Nat}{a b c d e:tS}{t:xD}(h:w.heap[T]?=A (r7 #[a,b,c,d,e] t (0,0))) :
  w.cell? ⟨T,0,Y⟩=A a∧w.cell? ⟨T,1,Y⟩=A b∧w.cell? ⟨T,2,Y⟩=A c∧w.cell? ⟨T,3,Y⟩=A d∧w.cell? ⟨T,4,Y⟩=A e:=by
 simp[At,h]
theorem bc(w:J)(a b:Obj):((w.alloc a).alloc b).heap[w.heap.size]?=A a∧((w.alloc a).alloc b).heap[w.heap.size+1]?=A b∧True:=
 ⟨by rw[iF,o3,oe (by omega),iF,oj Z],by rw[iF,o3,oj Z],trivial⟩
theorem ab{w:J}{T:Nat}{cs:Array tS}{t:xD}(h:w.heap[T]?=A (r7 cs t (0,0)))(i:Nat):w.frozen? ⟨T,i,Y⟩=false:=by simp[World.frozen?,h]
theorem xe(Q k:Nat)(s:ByteArray)(w:J)(a:w.cell? ⟨Q,0,Y⟩=A (r9 s))(b:w.cell? ⟨Q,1,Y⟩=A (I U k))(c:k≤s.size)(d:s.size≤16384) :
  vv va 139 #[vo (A ⟨Q,0,Y⟩)] w fun e w'=>e=wg (I U ((s.size:Int)-k))∧∃n,w'=w.drewN n:=by
 go_enter Tryz.func139,Tryz.ntmps139
 go_wp2
 go_quiet (fail)
 go_wp2
 ·go_ret;refine⟨?_,_,Z⟩;have:s.size≤k:=by assumption
  have e:(s.size:Int)-k=0:=by omega
  rw[e];rfl
 ·go_quiet (fail)
  go_wp2
  go_ret;exact⟨Z,_,World.drewN_drewN ..⟩
theorem sR(R Q k:Nat)(s:ByteArray)(w:J)(f:w.cell? ⟨R,0,Y⟩=A (vo (A ⟨Q,0,Y⟩)))(g:w.cell? ⟨R,1,Y⟩=A (r9 s))(a:w.cell? ⟨Q,0,Y⟩=A (r9 s))(b:w.cell? ⟨Q,1,Y⟩=A (I U k))(c:k≤s.size)(d:s.size≤16384) :
  vv va 169 #[vo (A ⟨R,0,Y⟩)] w fun e w'=>e=wg (I U k)∧∃n,w'=w.drewN n:=by
 go_enter Tryz.func169,Tryz.ntmps169
 go_wp2
 go_quiet ((go_at_call 139;refine Calls.quiet_of (xe Q k s _ a b c d)))
 go_wp2
 go_ret;refine⟨?_,_,Z⟩;have e:(s.size:Int)-(↑s.size - ↑k)=k:=by omega
 simp;omega
theorem Hb(R Q k:Nat)(s:ByteArray)(w:J)(a:w.cell? ⟨R,0,Y⟩=A (vo (A ⟨Q,0,Y⟩)))(b:w.cell? ⟨R,1,Y⟩=A (r9 s))(c:w.cell? ⟨Q,0,Y⟩=A (r9 s))(d:w.cell? ⟨Q,1,Y⟩=A (I U k))(f:k≤s.size)(g:s.size≤16384) :
  vv va 165 #[vo (A ⟨R,0,Y⟩)] w fun e w'=>e=wg (r9 (s.extract k s.size))∧∃n,w'=w.drewN n:=by
 go_enter Tryz.func165,Tryz.ntmps165
 go_wp2
 go_quiet ((go_at_call 169;refine Calls.quiet_of (sR R Q k s _ a b c d f g)))
 go_wp2
 go_ret;refine⟨Z,_,Z⟩
theorem vZ(l:List UInt8)(c:UInt8):wj (0≤Lib.indexByte l c)=l.contains c:=by
 induction l with
 | nil=>rfl
 | cons a l d =>
  have j:=Lib.indexByte_ge l c;simp only[Lib.indexByte,List.contains_cons,←d]
  by_cases h:a=c
  ·subst h;simp
  ·have f:(a==c)=false:=by simpa using h
   have g:(c==a)=false:=by simpa using fun e=>h e.symm
   simp only[f,g,Ka,oF,Bool.false_or]
   by_cases b:Lib.indexByte l c=-1
   ·simp[b]
   ·have i:(Lib.indexByte l c == -1)=false:=by simpa using b
    simp only[i,Ka,oF];apply decide_eq_decide.2;omega
theorem kS(st:ByteArray)(c:UInt8):wj (0≤Lib.indexByte st.data.toList c)=hasB st c:=vZ _ _
theorem iD(st:ByteArray)(c:UInt8)(w:J) :
  vv va 161 #[r9 st,I r8 (c.toNat:Int)] w fun e w'=>(e=wg (I U (Lib.indexByte st.data.toList c)))∧w=w':=
 (Tryz.strings_IndexByte st (c.toNat:Int) w).mono fun e w' ⟨a,b⟩=>⟨by simpa using a,b.symm⟩
theorem xU(T:Nat)(st t:ByteArray)(w:J)(b:w.cell? ⟨T,0,Y⟩=A (r9 t))(c:0<t.size) :
  vv va 199 #[r9 st,vo (A ⟨T,0,Y⟩)] w fun e w'=>e=wg (xt (hasB st t[0]))∧w=w':=by
 have a:=Hd (kS st t[0])
 go_enter Tryz.func199,Tryz.ntmps199
 go_wp2_with (go_at_call 161;refine (iD _ _ _).mono ?_;rintro e w' ⟨rfl,rfl⟩)
 go_ret;exact⟨by rw[←a.o];rfl,Z⟩
theorem Gt(B T n cap:Nat)(a:List ByteArray)(t:ByteArray)(w:J)(hB:w.heap[B]?=A (r7 (a.map r9).toArray 9 (0,0)))(h:a.length=n)(r:n≤100)
  (j:w.cell? ⟨T,0,Y⟩=A (r9 t)) (l:0<t.size) :
  vv va 214 #[O (A ⟨B,0,Y⟩) n cap,z6 (.func 199) #[] #[vo (A ⟨T,0,Y⟩)]] w fun e w'=>(∃i:Int,e=wg (I U i)∧wj (0≤i)=a.any (hasB · t[0]))∧w=w':=by
 have b:∀i,i<n→∃st,a[i]?=A st∧w.cell? ⟨B,i,Y⟩=A (r9 st):=by
  intro i hi;refine⟨a[i]'(by omega),JR (by omega),?_⟩;simp[At,hB,List.getElem?_eq_getElem (show i<a.length by omega)]
 obtain⟨s,u⟩:=zz2 b h;clear b hB h
 go_enter Tryz.func214,Tryz.ntmps214
 go_wp2
 go_loop [8,5] (fun i _=>∃k:Nat,k≤n∧i=I U k∧(a.take k).any (hasB · t[0])=ur) (fun i _=>n-(intOf i).toNat)
 case atStart=>exact⟨0,J0 _,Z,Z⟩
 case round =>
  obtain⟨k,x,rfl,c⟩:=hrel;have m:=Hd c;clear c
  by_cases f:k<n
  ·obtain⟨st,d,v⟩:=s.o k f;have p:=Hd d;clear d
   cases q:hasB st t[0]
   ·have g:=Hd q;go_wp2_with (go_at_call 199;refine (xU T _ t _ j l).mono ?_;rintro e w' ⟨rfl,rfl⟩)
    go_round
    case rel=>exact⟨k+1,by omega,by go_num,by rw[wh _ _ _ _ p.o m.o];exact g.o⟩
    case measure=>simp[intOf];omega
   ·have g:=Hd q;go_wp2_with (go_at_call 199;refine (xU T _ t _ j l).mono ?_;rintro e w' ⟨rfl,rfl⟩)
    go_ret;refine⟨⟨k,Z,?_⟩,Z⟩;rw[BL (hasB · t[0]) _ _ _ p.o g.o];simp
  ·go_wp2
   go_ret;refine⟨⟨-1,Z,?_⟩,Z⟩;have e:a.take k=a:=J5 (by rw[u.o];omega);have:=m.o;rw[e]at this;rw[this];rfl
theorem wq(B T n cap:Nat)(a:List ByteArray)(t:ByteArray)(w:J)(hB:w.heap[B]?=A (r7 (a.map r9).toArray 9 (0,0)))(c:a.length=n)(b:n≤100)
  (d:w.cell? ⟨T,0,Y⟩=A (r9 t)) (f:0<t.size) :
  vv va 198 #[O (A ⟨B,0,Y⟩) n cap,z6 (.func 199) #[] #[vo (A ⟨T,0,Y⟩)]] w fun e w'=>e=wg (xt (a.any (hasB · t[0])))∧w=w':=by
 have g:=Hd (Gt B T n cap a t w hB c b d f);clear c hB
 go_enter Tryz.func198,Tryz.ntmps198
 go_wp2_with (go_at_call 214;refine JX g.o ?_;rintro e w' ⟨⟨i,rfl,hi⟩,rfl⟩;have h:=Hd hi;clear hi)
 go_ret;exact⟨by rw[←h.o];rfl,Z⟩
def Rdr(w:J) (R Q:Nat) (s:ByteArray) (k:Nat):Prop:=
 w.heap[R]?=A (r7 #[vo (A ⟨Q,0,Y⟩),r9 s] 223 (0,0))∧∃p:Int,w.heap[Q]?=A (r7 #[r9 s,I U k,I U p] 246 (0,0))
theorem Rdr.ne{w:J}{R Q:Nat}{s:ByteArray}{k:Nat}(h:Rdr w R Q s k):R≠Q:=by
 obtain⟨b,p,a⟩:=h;rintro rfl;rw[b]at a;simp at a
theorem Rdr.z{w:J}{R Q:Nat}{s:ByteArray}{k:Nat}(h:Rdr w R Q s k) :
  w.cell? ⟨R,0,Y⟩=A (vo (A ⟨Q,0,Y⟩))∧w.cell? ⟨R,1,Y⟩=A (r9 s)∧w.cell? ⟨Q,0,Y⟩=A (r9 s)∧w.cell? ⟨Q,1,Y⟩=A (I U k)∧
  (∃p:Int,w.cell? ⟨Q,2,Y⟩=A (I U p))∧w.frozen? ⟨Q,1,Y⟩=ur∧w.frozen? ⟨Q,2,Y⟩=ur∧R<w.heap.size∧Q<w.heap.size:=by
 obtain⟨d,p,c⟩:=h;have a:=(JL.1 d).1;have b:=(JL.1 c).1;exact⟨by simp[At,d],by simp[At,d],by simp[At,c],by simp[At,c],⟨p,by simp[At,c]⟩,by simp[World.frozen?,c],by simp[World.frozen?,c],a,b⟩
theorem Rdr.K{w w':J}{R Q:Nat}{s:ByteArray}{k:Nat}(h:Rdr w R Q s k)(c:Kr w w'):Rdr w' R Q s k:=by
 obtain⟨_,_,_,_,_,_,_,a,b⟩:=h.z;obtain⟨d,p,e⟩:=h;exact⟨by rw[c.block R a];exact d,p,by rw[c.block Q b];exact e⟩
theorem xQ(R Q k:Nat)(s:ByteArray)(w:J)(h:Rdr w R Q s k)(a:k≤s.size)(b:s.size≤16384) :
  vv va 165 #[vo (A ⟨R,0,Y⟩)] w fun e w'=>e=wg (r9 (s.extract k s.size))∧Kr w w':=by
 obtain⟨c,d,f,g,⟨p,i⟩,f1,f2,j,l⟩:=h.z;refine (Hb R Q k s w c d f g a b).mono ?_;rintro e w' ⟨rfl,n,rfl⟩;exact⟨Z,below_drewN (JO _ _) n⟩
theorem Em(R Q k:Nat)(s:ByteArray)(w:J)(h:Rdr w R Q s k)(c:k=s.size)(d:s.size≤16384)(f:tS) :
  vv va 164 #[vo (A ⟨R,0,Y⟩),f] w fun e w'=>e=wg (xt ur)∧Kr w w':=by
 have a:(s.extract k s.size).toList=[]:=by subst c;simp
 have g:(s.extract k s.size).toList.isEmpty=true:=by simp[a]
 have i:=Hd (xQ R Q k s w h (by omega) d);clear h a;generalize s.extract k s.size=t at *
 go_enter Tryz.func164,Tryz.ntmps164
 go_wp2_with (first|(go_at_call 165;refine JX i.o ?_;rintro e w' ⟨rfl,b⟩))
 go_ret;exact⟨Z,b.alloc b.size _⟩
theorem AB(R Q k:Nat)(s:ByteArray)(w:J)(h:Rdr w R Q s k)(v:k<s.size)(l:s.size≤16384)(B n cap:Nat)(a:List ByteArray)(hB:w.heap[B]?=A (r7 (a.map r9).toArray 9 (0,0)))(j:a.length=n)(d:n≤100) :
  vv va 164 #[vo (A ⟨R,0,Y⟩),O (A ⟨B,0,Y⟩) n cap] w fun e w'=>e=wg (xt (a.any (hasB · s[k])))∧Kr w w':=by
 have f:B<w.heap.size:=(JL.1 hB).1;obtain⟨m,p⟩:=zz2 hB j;have g:(s.extract k s.size).size=s.size-k:=by simp
 have i:0<(s.extract k s.size).size:=by omega
 have b:(s.extract k s.size)[0]=s[k]:=Jq s k s.size 0 i (by omega);have q:(s.extract k s.size).toList.isEmpty=false:=jg _ i;have r:=Hd (xQ R Q k s w h (by omega) l);clear hB j;rw[←b];generalize s.extract k s.size=t at *;clear g b
 go_enter Tryz.func164,Tryz.ntmps164
 go_wp2_with (first
  | (go_at_call 165;refine JX r.o ?_;rintro e w' ⟨rfl,c⟩)
  | (go_at_call 198;refine (wq B _ n cap a t _ ((Kp _ _ _ (by have:=c.size;omega)).trans (aa c m.o f)) p.o d (cell_new1 _ _ _) i).mono ?_;rintro e u ⟨rfl,rfl⟩))
 go_ret;exact⟨Z,c.alloc c.size _⟩
theorem kC(Q k:Nat)(p:Int)(s:ByteArray)(w:J)(h:w.heap[Q]?=A (r7 #[r9 s,I U k,I U p] 246 (0,0)))(b:k<s.size)(c:s.size≤16384) :
  vv va 167 #[vo (A ⟨Q,0,Y⟩)] w fun e w'=>e=wg (y9 #[I r8 (s[k].toNat:Int),.nilIface])∧w.grownBy w' (A Q)∧w'.heap[Q]?=A (r7 #[r9 s,I U (k+1:Nat),I U (-1)] 246 (0,0)):=by
 have d:w.cell? ⟨Q,0,Y⟩=A (r9 s):=by simp[At,h]
 have f:w.cell? ⟨Q,1,Y⟩=A (I U k):=by simp[At,h]
 have g:w.cell? ⟨Q,2,Y⟩=A (I U p):=by simp[At,h]
 have f1:w.frozen? ⟨Q,1,Y⟩=false:=by simp[World.frozen?,h]
 have f2:w.frozen? ⟨Q,2,Y⟩=false:=by simp[World.frozen?,h]
 have H:=Hd h;clear h;have a:wj ((s.size:Int)≤k)=false:=by simp;omega
 go_enter Tryz.func167,Tryz.ntmps167
 go_wp2
 go_quiet (fail)
 go_wp2
 go_quiet (fail)
 go_wp2
 go_ret2
 refine⟨Z,ec (grown_drewN (ec (oT w _) _ _) _) _ _,?_⟩;rw[heap_set (w:=World.drewN _ _) (heap_set H.o 2 (I U (-1)))];rfl
def sF(w:J) (Q:Nat):Nat:=match w.cell? ⟨Q,1,Y⟩ with|some (I _ n)=>n.toNat|_=>0
theorem Rdr.pos{w:J}{R Q:Nat}{s:ByteArray}{k:Nat}(h:Rdr w R Q s k):sF w Q=k:=by
 obtain⟨_,_,_,a,_⟩:=h.z;simp[sF,a]
theorem Rdr.u{w w':J}{R Q:Nat}{s:ByteArray}{k d:Nat}{p:Int}(h:Rdr w R Q s k)(f:w.grownBy w' (A Q))(g:w'.heap[Q]?=A (r7 #[r9 s,I U d,I U p] 246 (0,0))):Rdr w' R Q s d:=by
 obtain⟨_,_,_,_,_,_,_,a,b⟩:=h.z;have c:=h.ne;obtain⟨i,p,j⟩:=h;exact⟨(f.block R a (by intro e;injection e with e;exact c e)).trans i,_,g⟩
theorem wV(R Q k:Nat)(s:ByteArray)(w:J)(h:Rdr w R Q s k)(a:k≤s.size)(b:s.size≤16384) :
  vv va 169 #[vo (A ⟨R,0,Y⟩)] w fun e w'=>e=wg (I U k)∧Kr w w':=by
 obtain⟨c,d,f,g,⟨p,i⟩,f1,f2,j,l⟩:=h.z;refine (sR R Q k s w c d f g a b).mono ?_;rintro e w' ⟨rfl,n,rfl⟩;exact⟨Z,below_drewN (JO _ _) n⟩
theorem Rdr.q{w:J}{R Q:Nat}{s:ByteArray}{k:Nat}(h:Rdr w R Q s k):∃p:Int,w.heap[Q]?=A (r7 #[r9 s,I U k,I U p] 246 (0,0)):=h.2
theorem take_any(R Q k:Nat)(s:ByteArray)(w:J)(h:Rdr w R Q s k)(hk:k≤s.size)(m:s.size≤16384)(B n cap:Nat)(a:List ByteArray)(hB:w.heap[B]?=A (r7 (a.map r9).toArray 9 (0,0)))(hn:a.length=n)(T:n≤100) :
  vv va 168 #[vo (A ⟨R,0,Y⟩),O (A ⟨B,0,Y⟩) n cap] w fun e w'=>e=wg (r9 (s.extract k (an (fun c=>a.any (hasB · c)) s k)))∧w.grownBy w' (A Q)∧Rdr w' R Q s (an (fun c=>a.any (hasB · c)) s k):=by
 have V:A B≠A Q:=by
  obtain⟨p,hq⟩:=h.q;intro e;injection e with e
  exact ll hB hq (by decide) e
 obtain⟨HB,HN⟩:=zz2 hB hn;clear hB hn
 go_enter Tryz.func168,Tryz.ntmps168
 go_wp2_with (first
  | (go_at_call 169;refine (wV R Q k s _ h hk m).mono ?_;rintro e w1 ⟨rfl,g⟩))
 have t:=h.K g
 go_loopw [16] (fun _ wr=>∃j,k≤j∧j≤s.size∧an (fun c=>a.any (hasB · c)) s j=an (fun c=>a.any (hasB · c)) s k∧Rdr wr R Q s j∧w.grownBy wr (A Q)) (fun _ wr=>s.size-sF wr Q)
 case atStart=>exact⟨k,JM _,hk,Z,t,aF g _⟩
 case round =>
  obtain⟨j,af,u,v,f,G⟩:=hrel;obtain⟨W,X⟩:=zz2 v (ap G HB.o V);clear v g t
  by_cases H:j<s.size
  ·have K:=Hd (fun (x:Bool) (hx:(a.any (hasB · s[j]))=x)=>(AB R Q j s wr f H m B n cap a X.o HN.o T).mono (R':=fun e w'=>e=wg (xt x)∧Kr wr w') (fun e w' hh=>by rw[←hx];exact hh))
   cases r:a.any (hasB · s[j])
   ·obtain⟨HP,y⟩:=zz2 r (K.o _ r);clear K r
    go_wp2_with (first
     | (go_at_call 164;refine JX y.o ?_;rintro e w2 ⟨rfl,b⟩))
    obtain⟨L,M,N,S,⟨p,q2⟩,f1,f2,z,C⟩:=(f.K b).z
    go_quiet ((go_at_call 169;refine Calls.quiet_of (sR R Q j s _ L M N S u m)))
    go_wp2
    go_ret;have e:an (fun c=>a.any (hasB · c)) s k=j:=by rw[←W.o];exact vp _ s j H HP.o
    rw[e];exact⟨Z,grown_drewN (grown_below G b) _,f.K (below_drewN b _)⟩
   ·obtain⟨HP,y⟩:=zz2 r (K.o _ r);clear K r
    go_wp2_with (first
     | (go_at_call 164;refine JX y.o ?_;rintro e w2 ⟨rfl,b⟩;have d:=f.K b;obtain⟨L,M,N,S,⟨p,q2⟩,f1,f2,z,C⟩:=d.z;obtain⟨p',D⟩:=d.q;have ad:=Hd D;clear D)
     | (go_at_call 167;refine (kC Q j _ s _ ad.o H m).mono ?_;rintro e w3 ⟨rfl,i,E⟩;have F:=Hd E;clear E))
    refine⟨⟨j+1,by omega,by omega,?_,d.u i F.o,o5 (grown_below G b) i⟩,?_⟩
    ·rw[←W.o];exact gR _ s j H HP.o
    ·rw[(d.u i F.o).pos,f.pos];omega
  ·have l:j=s.size:=by omega
   have HJ:=Hd l;have y:=Hd (Em R Q j s wr f l m (O (A ⟨B,0,Y⟩) n cap));clear l
   go_wp2_with (first
    | (go_at_call 164;refine JX y.o ?_;rintro e w2 ⟨rfl,b⟩))
   obtain⟨L,M,N,S,⟨p,q2⟩,f1,f2,z,C⟩:=(f.K b).z
   go_quiet ((go_at_call 169;refine Calls.quiet_of (sR R Q j s _ L M N S u m)))
   go_wp2
   go_ret;have e:an (fun c=>a.any (hasB · c)) s k=j:=by rw[←W.o];exact oo _ s j (by omega)
   rw[e];exact⟨Z,grown_drewN (grown_below G b) _,f.K (below_drewN b _)⟩
theorem Rdr.h{w:J}{R Q:Nat}{s:ByteArray}{k:Nat}(h:Rdr w R Q s k){T i:Nat}(u:tS)(a:T≠R)(b:T≠Q):Rdr (w.setCell ⟨T,i,Y⟩ u) R Q s k:=by
 obtain⟨c,p,d⟩:=h;exact⟨az c a _ _,p,az d b _ _⟩
theorem Rdr.move{w w':J}{R Q:Nat}{s:ByteArray}{k:Nat}{row:Option Nat}(h:Rdr w R Q s k)(a:w.grownBy w' row)(b:A R≠row)(c:A Q≠row):Rdr w' R Q s k:=by
 obtain⟨d,p,e⟩:=h;exact⟨ap a d b,p,ap a e c⟩
theorem sT(l:List UInt8)(c:UInt8):Lib.indexByte l c=if l.contains c then ((l.takeWhile (· != c)).length:Int) else -1:=by
 induction l with
 | nil=>rfl
 | cons a l d =>
  simp only[Lib.indexByte,List.contains_cons,d]
  by_cases h:a=c
  ·subst h;simp
  ·have f:(a==c)=false:=by simpa using h
   have g:(c==a)=false:=by simpa using fun e=>h e.symm
   have i:(a != c)=true:=by simpa using h
   simp only[f,g,Ka,oF,Bool.false_or,List.takeWhile_cons,i,oX,Kf]
   by_cases b:l.contains c
   ·simp only[b,oX];rw[oe (by simp)];omega
   ·simp only[b];simp
theorem C9(l:List UInt8)(c:UInt8)(h:l.contains c=ur):l.takeWhile (· != c)=l:=by
 induction l with
 | nil=>rfl
 | cons a l b =>
  simp only[List.contains_cons,Bool.or_eq_false_iff]at h;have d:(a != c)=true:=by
   have:=h.1;simp only[bne_iff_ne];rintro rfl;simp at this
  rw[List.takeWhile_cons,oj d,b h.2]
theorem Gu(l:List UInt8)(c:UInt8)(h:l.contains c=tT):(l.takeWhile (· != c)).length<l.length:=by
 induction l with
 | nil=>simp at h
 | cons a l b =>
  by_cases e:a=c
  ·subst e;simp
  ·have d:(a != c)=true:=by simpa using e
   rw[List.takeWhile_cons,oj d];have f:l.contains c=true:=by
    simp only[List.contains_cons,Bool.or_eq_true]at h;rcases h with h|h
    ·exact absurd (by simpa using h:c=a).symm e
    ·exact h
   have:=b f;simp;omega
theorem G7(t:ByteArray)(i:Nat)(w:J)(hi:Lib.indexByte t.data.toList 10=(i:Int))(hle:i<t.size)(j:t.size≤16384) :
  vv va 200 #[r9 t,r9 ⟨#[10]⟩] w fun e w'=>(∃b c,e=wg (y9 #[r9 (t.extract 0 i),b,c]))∧Kr w w':=by
 have d:=Hd ((Tryz.stringslite_Index_one t 10 w).mono (R':=fun e w'=>e=wg (I U (i:Int))∧w=w') (fun e w' a=>⟨by rw[←hi];exact a.1,a.2.symm⟩));clear hi;have f:(0:Int)≤i:=by omega
 have g:(i:Int)≤t.size:=by omega
 have h:(i:Int)+1≤t.size:=by omega
 have k:(ByteArray.mk #[10]).size=1:=rfl
 go_enter Tryz.func200,Tryz.ntmps200
 go_wp2_with (first
  | (go_at_call 215;refine JX d.o ?_;rintro e w' ⟨rfl,rfl⟩))
 go_quiet (fail)
 go_wp2
 go_ret3
 exact⟨⟨_,_,Z⟩,below_drewN (JO _ _) _⟩
theorem Iu(t:ByteArray)(w:J)(hi:Lib.indexByte t.data.toList 10=-1) :
  vv va 200 #[r9 t,r9 ⟨#[10]⟩] w fun e w'=>(∃b c,e=wg (y9 #[r9 t,b,c]))∧Kr w w':=by
 have d:=Hd ((Tryz.stringslite_Index_one t 10 w).mono (R':=fun e w'=>e=wg (I U (-1))∧w=w') (fun e w' a=>⟨by rw[←hi];exact a.1,a.2.symm⟩));clear hi
 go_enter Tryz.func200,Tryz.ntmps200
 go_wp2_with (first
  | (go_at_call 215;refine JX d.o ?_;rintro e w' ⟨rfl,rfl⟩))
 go_ret3
 exact⟨⟨_,_,Z⟩,JO _ _⟩
theorem Ij(t:ByteArray)(w:J)(h:t.size≤16384) :
  vv va 166 #[r9 t,r9 ⟨#[10]⟩] w fun e w'=>(∃n b c,e=wg (y9 #[r9 n,b,c])∧n.size=(t.data.toList.takeWhile (· != 10)).length)∧Kr w w':=by
 have f:∀W:J,vv va 200 #[r9 t,r9 ⟨#[10]⟩] W fun e w'=>(∃n b c,e=wg (y9 #[r9 n,b,c])∧n.size=(t.data.toList.takeWhile (· != 10)).length)∧Kr W w':=by
  intro W;have hi:=sT t.data.toList 10
  by_cases d:t.data.toList.contains 10
  ·rw[oj d]at hi;have i:(t.data.toList.takeWhile (· != 10)).length<t.size:=by simpa using Gu _ _ d
   refine (G7 t _ W hi i h).mono ?_;rintro e w' ⟨⟨b,c,rfl⟩,a⟩;exact⟨⟨_,b,c,Z,by simp;omega⟩,a⟩
  ·rw[oe d]at hi;refine (Iu t W hi).mono ?_;rintro e w' ⟨⟨b,c,rfl⟩,a⟩;exact⟨⟨_,b,c,Z,by rw[C9 _ _ (by simpa using d)];simp⟩,a⟩
 have j:=Hd f;clear f
 go_enter Tryz.func166,Tryz.ntmps166
 go_wp2_with (first
  | (go_at_call 200;refine (j.o _).mono ?_;rintro e w' ⟨⟨n,b,c,rfl,g⟩,a⟩;have k:=Hd g;clear g))
 go_ret3
 exact⟨⟨n,b,c,Z,k.o⟩,a⟩
def dl(c:UInt8):Bool:=c==9||c==10||c==13||c==32
def ib:Nat→ByteArray→Nat→Nat
 | 0,_,k=>k
 | f+1,s,k=>if h:k<s.size then (if dl s[k] then ib f s (k+1) else if s[k]==35 then ib f s (an (· != 10) s k) else k) else k
def skip(s:ByteArray) (k:Nat):Nat:=ib (s.size-k) s k
theorem jF(s:ByteArray)(k:Nat)(h:k<s.size)(a:s[k]=35):k+1≤an (· != 10) s k:=by
 rw[←gR (· != 10) s k h (by rw[a];rfl)];exact fA _ _ _
theorem zB(s:ByteArray):∀(f k:Nat),s.size-k≤f→ib f s k=skip s k:=by
 have H:∀(n f g k:Nat),s.size-k≤n→s.size-k≤f→s.size-k≤g→ib f s k=ib g s k:=by
  intro n
  induction n with
  | zero =>
   intro f g k e _ _;have a:¬k<s.size:=by omega
   cases f<;>cases g<;>simp[ib,a]
  | succ n c =>
   intro f g k e d j
   by_cases a:k<s.size
   ·obtain⟨f,rfl⟩:∃h,f=h+1:=⟨f-1,by omega⟩;obtain⟨g,rfl⟩:∃i,g=i+1:=⟨g-1,by omega⟩;simp only[ib,a,dif_pos]
    split
    ·exact c f g (k+1) (by omega) (by omega) (by omega)
    ·split
     ·rename_i _ b
      have:=jF s k a (by simpa using b);exact c f g _ (by omega) (by omega) (by omega)
     ·rfl
   ·cases f<;>cases g<;>simp[ib,a]
 exact fun f k d=>H _ _ _ k (JM _) d (JM _)
theorem ly(s:ByteArray)(k:Nat)(h:k<s.size)(a:dl s[k]=tT):skip s k=skip s (k+1):=by
 conv=>lhs;unfold skip
 rw[show s.size-k=(s.size-(k+1))+1 from by omega];simp only[ib,h,dif_pos,a,oX];rfl
theorem l8(s:ByteArray)(k:Nat)(h:k<s.size)(a:s[k]=35):skip s k=skip s (an (· != 10) s k):=by
 have d:=jF s k h a
 conv=>lhs;unfold skip
 rw[show s.size-k=(s.size-(k+1))+1 from by omega];have c:dl s[k]=false:=by rw[a];rfl
 have b:(s[k]==35)=true:=by rw[a];rfl
 simp only[ib,h,dif_pos,c,b,oX,Ka,oF];exact zB s _ _ (by omega)
theorem jG(s:ByteArray)(k:Nat)(h:k<s.size)(a:dl s[k]=ur)(b:(s[k]==35)=ur):skip s k=k:=by
 unfold skip;rw[show s.size-k=(s.size-(k+1))+1 from by omega];simp[ib,h,a,b]
theorem fg(s:ByteArray)(k:Nat)(h:s.size≤k):skip s k=k:=by
 unfold skip;rw[show s.size-k=0 from by omega];rfl
theorem vB(s:ByteArray):∀(n k:Nat),s.size-k≤n→skip s (an dl s k)=skip s k:=by
 intro n
 induction n with
 | zero=>intro k h;rw[oo _ _ _ (by omega)]
 | succ n c =>
  intro k h
  by_cases a:k<s.size
  ·by_cases b:dl s[k]=tT
   ·rw[←gR _ _ _ a b,c (k+1) (by omega),ly s k a b]
   ·rw[vp _ _ _ a (by simpa using b)]
  ·rw[oo _ _ _ (by omega)]
theorem lA(s:ByteArray):∀(n k:Nat),s.size-k≤n→k≤skip s k:=by
 intro n
 induction n with
 | zero=>intro k h;rw[fg _ _ (by omega)];exact JM _
 | succ n c =>
  intro k h
  by_cases a:k<s.size
  ·by_cases d:dl s[k]=tT
   ·rw[ly s k a d];have:=c (k+1) (by omega);omega
   ·by_cases b:s[k]=35
    ·have e:=jF s k a b;rw[l8 s k a b];have:=c (an (· != 10) s k) (by omega);omega
    ·rw[jG s k a (by simpa using d) (by simpa using b)];exact JM _
  ·rw[fg _ _ (by omega)];exact JM _
theorem Ar(s:ByteArray):∀(n k:Nat),s.size-k≤n→k≤s.size→skip s k≤s.size:=by
 intro n
 induction n with
 | zero=>intro k h a;rw[fg _ _ (by omega)];exact a
 | succ n c =>
  intro k h hle
  by_cases a:k<s.size
  ·by_cases d:dl s[k]=tT
   ·rw[ly s k a d];exact c (k+1) (by omega) (by omega)
   ·by_cases b:s[k]=35
    ·have e:=jF s k a b;rw[l8 s k a b];exact c _ (by omega) (dB _ _ _ hle)
    ·rw[jG s k a (by simpa using d) (by simpa using b)];exact hle
  ·rw[fg _ _ (by omega)];exact hle
theorem Io(s:ByteArray):∀(n k:Nat),s.size-k≤n→∀h:skip s k<s.size,dl s[skip s k]=ur∧(s[skip s k]==35)=false:=by
 intro n
 induction n with
 | zero=>intro k f h;rw[fg _ _ (by omega)]at h;omega
 | succ n d =>
  intro k f h
  by_cases a:k<s.size
  ·by_cases c:dl s[k]=tT
   ·have e:=ly s k a c;simp only[e]at h ⊢;exact d (k+1) (by omega) h
   ·by_cases b:s[k]=35
    ·have g:=jF s k a b;have e:=l8 s k a b;simp only[e]at h ⊢;exact d _ (by omega) h
    ·have e:=jG s k a (by simpa using c) (by simpa using b);simp only[e];exact⟨by simpa using c,by simpa using b⟩
  ·rw[fg _ _ (by omega)]at h;omega
theorem lC(R Q k:Nat)(s:ByteArray)(w:J)(h:Rdr w R Q s k)(g:k<s.size)(i:s.size≤16384)(a:List ByteArray)(arr:Array tS)(b:arr=(a.map r9).toArray)(n cap:Nat)(j:a.length=n)(c:n≤100)
  (x:Bool) (l:a.any (hasB · s[k])=x) :
  vv va 164 #[vo (A ⟨R,0,Y⟩),O (A ⟨w.heap.size,0,Y⟩) n cap] (w.alloc (r7 arr 9)) fun e w'=>e=wg (xt x)∧Kr w w':=by
 subst b;have d:Kr w (w.alloc (r7 (a.map r9).toArray 9)):=(JO _ w).alloc (JM _) _;refine (AB R Q k s _ (h.K d) g i w.heap.size n cap a (oc w _) j c).mono ?_;rintro e w' ⟨rfl,f⟩;exact⟨by rw[l],d.trans (f.mono d.size)⟩
theorem s7(R Q k:Nat)(s:ByteArray)(w:J)(h:Rdr w R Q s k)(d:k=s.size)(f:s.size≤16384)(arr:Array tS)(c:tS) :
  vv va 164 #[vo (A ⟨R,0,Y⟩),c] (w.alloc (r7 arr 9)) fun e w'=>e=wg (xt ur)∧Kr w w':=by
 have a:Kr w (w.alloc (r7 arr 9)):=(JO _ w).alloc (JM _) _;refine (Em R Q k s _ (h.K a) d f c).mono ?_;rintro e w' ⟨rfl,b⟩;exact⟨Z,a.trans (b.mono a.size)⟩
theorem rK(R Q k:Nat)(s:ByteArray)(w:J)(h:Rdr w R Q s k)(f:k≤s.size)(g:s.size≤16384)(a:List ByteArray)(arr:Array tS)(b:arr=(a.map r9).toArray)(n cap:Nat)(i:a.length=n)(d:n≤100)
  (p:UInt8→Bool) (j:(fun c=>a.any (hasB · c))=p) :
  vv va 168 #[vo (A ⟨R,0,Y⟩),O (A ⟨w.heap.size,0,Y⟩) n cap] (w.alloc (r7 arr 9)) fun e w'=>e=wg (r9 (s.extract k (an p s k)))∧w.grownBy w' (A Q)∧Rdr w' R Q s (an p s k):=by
 subst b;subst j;have l:Kr w (w.alloc (r7 (a.map r9).toArray 9)):=(JO _ w).alloc (JM _) _;refine (take_any R Q k s _ (h.K l) f g w.heap.size n cap a (oc w _) i d).mono ?_;rintro e w' ⟨rfl,m,o⟩;exact⟨Z,(World.grownBy_alloc w _ _).trans m,o⟩
theorem hZ(R Q k:Nat)(s:ByteArray)(w:J)(h:Rdr w R Q s k)(d:k<s.size)(f:s.size≤16384)(a:List ByteArray)(x:Bool)(g:a.any (hasB · s[k])=x)(arr:Array tS)(b:arr=(a.map r9).toArray)(n cap:Nat)(i:a.length=n)(c:n≤100)
  (B:Nat) (hB:w.heap.size=B) :
  vv va 164 #[vo (A ⟨R,0,Y⟩),O (A ⟨B,0,Y⟩) n cap] (w.alloc (r7 arr 9)) fun e w'=>e=wg (xt x)∧Kr w w':=by
 subst hB;exact lC R Q k s w h d f a arr b n cap i c x g
theorem take_at(R Q k:Nat)(s:ByteArray)(w:J)(h:Rdr w R Q s k)(f:k≤s.size)(g:s.size≤16384)(a:List ByteArray)(p:UInt8→Bool)(i:(fun c=>a.any (hasB · c))=p)(arr:Array tS)(b:arr=(a.map r9).toArray)(n cap:Nat)(j:a.length=n)(d:n≤100)
  (B:Nat) (hB:w.heap.size=B) :
  vv va 168 #[vo (A ⟨R,0,Y⟩),O (A ⟨B,0,Y⟩) n cap] (w.alloc (r7 arr 9)) fun e w'=>e=wg (r9 (s.extract k (an p s k)))∧w.grownBy w' (A Q)∧Rdr w' R Q s (an p s k):=by
 subst hB;exact rK R Q k s w h f g a arr b n cap j d p i
theorem pJ:(fun c=>[(⟨#[9,10,13,32]⟩:ByteArray)].any (hasB · c))=dl:=by
 funext c
 show ((([9,10,13,32]:List UInt8).contains c)||false)=_
 simp only[List.contains_cons,List.contains_nil,Bool.or_false,dl,Bool.or_assoc]
theorem rX(c:UInt8):[(⟨#[35]⟩:ByteArray)].any (hasB · c)=(c==35):=by
 show ((([35]:List UInt8).contains c)||false)=_
 simp only[List.contains_cons,List.contains_nil,Bool.or_false]
theorem kT(c:UInt8):[(⟨#[9,10,13,32]⟩:ByteArray),⟨#[35]⟩].any (hasB · c)=(dl c||c==35):=by
 rw[←rX,←pJ];simp
theorem xp(R Q k:Nat)(s:ByteArray)(w:J)(h:Rdr w R Q s k)(a:k≤s.size)(b:s.size≤16384) :
  vv va 165 #[vo (A ⟨R,0,Y⟩)] w fun e w'=>(∃t,e=wg (r9 t)∧t.data.toList=s.data.toList.drop k∧t.size=s.size-k)∧Kr w w':=by
 refine (xQ R Q k s w h a b).mono ?_;rintro e w' ⟨rfl,c⟩;exact⟨⟨_,Z,by rw[ByteArray.data_extract,Array.toList_extract];simp[List.extract,List.take_of_length_le],by simp⟩,c⟩
theorem uR(R Q k:Nat)(s:ByteArray)(w:J)(h:Rdr w R Q s k)(hk:k≤s.size)(n:s.size≤16384) :
  vv va 138 #[vo (A ⟨R,0,Y⟩)] w fun e w'=>e=wg (y9 #[])∧w.grownBy w' (A Q)∧Rdr w' R Q s (skip s k):=by
 go_enter Tryz.func138,Tryz.ntmps138
 go_wp2_with fail
 go_loopw [33] (fun _ wr=>∃j,k≤j∧j≤s.size∧skip s j=skip s k∧Rdr wr R Q s j∧w.grownBy wr (A Q)) (fun _ wr=>s.size-sF wr Q)
 case atStart=>exact⟨k,JM _,hk,Z,h,oT w _⟩
 case round =>
  obtain⟨j,bm,v,H,r,hg⟩:=hrel;have HS:=Hd H;clear H
  by_cases x:j<s.size
  ·cases u:dl s[j]
   ·cases G:s[j]==35
    ·have B:=Hd (lC R Q j s wr r x n [⟨#[9,10,13,32]⟩,⟨#[35]⟩] _ Z 2 2 Z (by omega) ur (by rw[kT,u,G];rfl));have HE:=Hd (jG s j x u G);clear u G
     go_wp2_with (first
      | (go_at_call 164;refine JX B.o ?_;rintro e K ⟨rfl,a⟩))
     go_end0
     rw[←HS.o,HE.o];exact⟨Z,grown_below hg a,r.K a⟩
    ·have B:=Hd (lC R Q j s wr r x n [⟨#[9,10,13,32]⟩,⟨#[35]⟩] _ Z 2 2 Z (by omega) tT (by rw[kT,u,G];rfl));have L:=Hd G;clear u G;go_wp2_with fail
     refine JX B.o ?_;rintro e K ⟨rfl,a⟩;have f:=r.K a;have C:=Hd (lC R Q j s K f x n [⟨#[35]⟩] _ Z 1 1 Z (by omega) tT (by rw[rX];exact L.o));go_wp2_with fail
     refine JX C.o ?_;rintro e w3 ⟨rfl,g⟩;have y:=f.K g;go_wp2_with fail
     refine (xp R Q j s w3 y v n).mono ?_;rintro e w4 ⟨⟨t,rfl,M,N⟩,S⟩;have a6:=y.K S;obtain⟨HT,bn⟩:=zz2 M N;have T:t.size≤16384:=by omega
     clear M N;go_wp2_with fail
     refine (Ij t w4 T).mono ?_;rintro e w5 ⟨⟨d,b,c,rfl,D⟩,V⟩;have ba:=a6.K V;have HN:=Hd D;have E:j+d.size=an (· != 10) s j:=by unfold an;rw[D,HT.o]
     have bb:an (· != 10) s j≤s.size:=dB _ _ _ v;have W:j+d.size≤s.size:=by omega
     have bd:=Hd E;have bg:w.grownBy w5 (A Q):=grown_below (grown_below (grown_below (grown_below hg a) g) S) V;have bq:j<j+d.size:=by rw[E];exact jF s j x (by simpa using L.o)
     clear E bb D;go_wp2_with fail
     go_loopw [22] (fun i wi=>∃m:Nat,m≤d.size∧i=I U m∧Rdr wi R Q s (j+m)∧w.grownBy wi (A Q)) (fun i _=>d.size-(intOf i).toNat)
     case atStart=>exact⟨0,J0 _,Z,ba,bg⟩
     case round =>
      obtain⟨m,hm,rfl,z,X⟩:=hrel
      by_cases bt:m<d.size
      ·obtain⟨r0,r1,q0,q1,⟨p,q2⟩,f1,f2,bB,bR⟩:=z.z;obtain⟨p',ad⟩:=z.q;have bk:=Hd ad;clear ad
       go_wp2_with (first
        | (go_at_call 167;refine (kC Q (j+m) _ s _ bk.o (by omega) n).mono ?_;rintro e w6 ⟨rfl,af,aq⟩;have bl:=Hd aq;clear aq))
       go_roundw
       case rel=>exact⟨m+1,by omega,by go_num,z.u af bl.o,o5 X af⟩
       case measure=>simp[intOf];omega
      ·obtain rfl:m=d.size:=by omega
       go_wp2_with fail
       refine (rK R Q (j+d.size) s _ z W n [⟨#[9,10,13,32]⟩] _ Z 1 1 Z (by omega) dl pJ).mono ?_;rintro e w7 ⟨rfl,F,l⟩;have HP:=Hd (vB s _ (j+d.size) (JM _));have b0:=fA dl s (j+d.size);have hle:=dB dl s (j+d.size) W;generalize an dl s (j+d.size)=j2 at *;go_wp2_with fail
       refine⟨⟨j2,by omega,hle,?_,l,o5 X F⟩,?_⟩
       ·rw[HP.o,bd.o,←l8 s j x (by simpa using L.o)];exact HS.o
       ·rw[l.pos,r.pos];omega
   ·have B:=Hd (lC R Q j s wr r x n [⟨#[9,10,13,32]⟩,⟨#[35]⟩] _ Z 2 2 Z (by omega) tT (by rw[kT,u];rfl));have ar:(s[j]==35)=false:=by
     cases hh:s[j]==35
     ·rfl
     ·exfalso
      have e:s[j]=35:=by simpa using hh
      rw[e]at u;cases u
    have L:=Hd ar;have b1:j<an dl s j:=by
     have:=fA dl s (j+1);rw[gR dl s j x u]at this;omega
    clear u ar;go_wp2_with fail
    refine JX B.o ?_;rintro e K ⟨rfl,a⟩;have f:=r.K a;have C:=Hd (lC R Q j s K f x n [⟨#[35]⟩] _ Z 1 1 Z (by omega) ur (by rw[rX];exact L.o));go_wp2_with fail
    refine JX C.o ?_;rintro e w3 ⟨rfl,g⟩;have y:=f.K g;have HT:=Hd (rK R Q j s w3 y v n [⟨#[9,10,13,32]⟩] _ Z 1 1 Z (by omega) dl pJ);have HP:=Hd (vB s _ j (JM _));have hle:=dB dl s j v;generalize an dl s j=j2 at *;go_wp2_with fail
    refine JX HT.o ?_;rintro e w7 ⟨rfl,F,l⟩;go_wp2_with fail
    refine⟨⟨j2,by omega,hle,?_,l,o5 (grown_below (grown_below hg a) g) F⟩,?_⟩
    ·rw[HP.o];exact HS.o
    ·rw[l.pos,r.pos];omega
  ·have a1:j=s.size:=by omega
   have HE:=Hd (fg s j (by omega));have B:=Hd (s7 R Q j s wr r a1 n #[r9 ⟨#[9,10,13,32]⟩,r9 ⟨#[35]⟩] (O (A ⟨wr.heap.size,0,Y⟩) 2 2));clear a1
   go_wp2_with (first
    | (go_at_call 164;refine JX B.o ?_;rintro e K ⟨rfl,a⟩))
   go_end0
   rw[←HS.o,HE.o];exact⟨Z,grown_below hg a,r.K a⟩
def bY(c:UInt8):Bool:=wj (48≤c.toNat)&&wj (c.toNat≤57)
def nS:Nat:=9223372036854775807
def gW:Nat→List UInt8→Option Nat
 | n,[]=>A n
 | n,c::r=>if bY c&&wj (10*n+(c.toNat-48)≤nS) then gW (10*n+(c.toNat-48)) r else Y
def number(l:List UInt8):Option Nat:=if l.isEmpty then Y else gW 0 l
theorem AX(s:ByteArray)(w:J):∃c w',(convert 9 29 (r9 s)).run va w=.ok (O (A ⟨w.heap.size,0,Y⟩) s.size c) w'∧Kr w w'∧
  ∀j (a:j<s.size),w'.cell? ⟨w.heap.size,j,Y⟩=A (I r8 (s[j].toNat:Int)):=by
 refine⟨_,_,run_bytes_of_string w 9 29 5 s Tryz.underlying9 Tryz.underlying29 Tryz.underlying5,(JO _ w).drew.alloc (JM _) _,fun j a=>?_⟩;have h:(w.drew.alloc (r7 (bytesRow s (grownCap w s.size 0 5)) 5 ((bytesRow s (grownCap w s.size 0 5)).size,(bytesRow s (grownCap w s.size 0 5)).size+1))).heap[w.heap.size]?=_:=oc w.drew _;unfold World.cell?;rw[h];exact bytesRow_at s _ j a
theorem Dz(s:ByteArray)(k m:Nat)(h:k<s.size)(a:bY s[k]=tT)(hm:10*m+(s[k].toNat-48)≤nS) :
  gW m (s.data.toList.drop k)=gW (10*m+(s[k].toNat-48)) (s.data.toList.drop (k+1)):=by
 rw[drop_cons s k h];simp only[gW,a,Bool.true_and,oB,hm,oX]
theorem Gz(s:ByteArray)(k m:Nat)(h:k<s.size)(a:bY s[k]=ur∨nS<10*m+(s[k].toNat-48)) :
  gW m (s.data.toList.drop k)=none:=by
 rw[drop_cons s k h];simp only[gW];rw[oe];rcases a with a|a
 ·simp[a]
 ·simp only[J4,oB,not_and];intro _;omega
theorem vU(s:ByteArray)(h:0<s.size):number s.data.toList=gW 0 s.data.toList:=by
 unfold number;rw[oe];have:=jg s h;rw[J1]at this;rw[this];simp
theorem BH(s:ByteArray)(h:s.size=0):number s.data.toList=none:=by
 have e:s.data.toList=[]:=by
  have a:s.data.toList.length=0:=by rw[Kc];exact h
  exact Kb a
 rw[e];rfl
theorem ow(s:ByteArray)(w:J)(V:s.size≤100000) :
  vv va 173 #[r9 s] w fun e w'=>e=wg (y9 #[I U (((number s.data.toList).getD 0:Nat):Int),xt (number s.data.toList).isSome])∧Kr w w':=by
 obtain⟨c,w1,r,a,b⟩:=AX s w;have L:=Hd b;clear b;have f:∀(o:Option Nat),number s.data.toList=o→∀(e:Ending) (w':J),e=wg (y9 #[I U ((o.getD 0:Nat):Int),xt o.isSome])→Kr w w'→(e=wg (y9 #[I U (((number s.data.toList).getD 0:Nat):Int),xt (number s.data.toList).isSome])∧Kr w w'):=by intro o M e w' he N;rw[M];exact⟨he,N⟩
 have t:=Hd f;clear f
 go_enter Tryz.func173,Tryz.ntmps173
 go_wp2
 clear r
 go_loopw [4,11] (fun n i wr=>∃(k m:Nat),k≤s.size∧i=I U k∧n=I U m∧m≤9223372036854775807∧gW m (s.data.toList.drop k)=gW 0 s.data.toList∧wr=w1) (fun _ i _=>s.size-(intOf i).toNat)
 case atStart=>exact⟨0,0,J0 _,Z,Z,by omega,Z,Z⟩
 case round =>
  obtain⟨k,m,W,rfl,rfl,hm,g,rfl⟩:=hrel;have z:=Hd g;clear g
  by_cases j:k<s.size
  ·have Q:=L.o k j;have X:=s[k].toNat_lt;obtain⟨R,S⟩:=zz2 (Dz s k m j) (Gz s k m j);have H:Hid (bY s[k]=(wj (48≤s[k].toNat)&&wj (s[k].toNat≤57))):=rfl;generalize bY s[k]=C at *;generalize s[k].toNat=d at *;have u:∀h:48≤d∧d≤57,C=true:=fun h=>by rw[H.o];simp[h.1,h.2]
   have v:∀h:¬(48≤d∧d≤57),C=false:=fun h=>by rw[H.o];simp;omega
   obtain⟨D,x⟩:=zz2 u v;clear u v;have y:(C=ur∨nS<10*m+(d-48))→number s.data.toList=none:=fun h=>by rw[vU s (by omega),←z.o];exact S.o h
   have p:=Hd y;clear y
   go_wp2
   ·go_ret2
    have B:9223372036854775807<10*m+(d-48):=by omega
    exact t.o Y (p.o (wF B)) _ _ Z a
   ·have B:10*m+(d-48)≤9223372036854775807:=by omega
    refine⟨⟨k+1,10*m+(d-48),by omega,by go_num,?_,B,?_,by trivial⟩,by simp[intOf];omega⟩
    ·congr 1;omega
    ·rw[←R.o (D.o (by omega)) B];exact z.o
   ·go_ret2
    exact t.o Y (p.o (wD (x.o (by omega)))) _ _ Z a
   ·go_ret2
    exact t.o Y (p.o (wD (x.o (by omega)))) _ _ Z a
  ·obtain rfl:k=s.size:=by omega
   rcases Nat.eq_zero_or_pos s.size with q|q
   ·have E:m=0:=by
     have F:=z.o;have e:s.data.toList=[]:=Kb (by rw[Kc];exact q);rw[e]at F;simp[gW]at F;exact F
    have he:s.toList.isEmpty=true:=by rw[J1,Kb (l:=s.data.toList) (by rw[Kc];exact q)];rfl
    have G:=Hd q;subst E;clear q
    go_wp2
    go_ret2
    exact t.o Y (BH s G.o) _ _ Z a
   ·have he:s.toList.isEmpty=false:=jg s q;have K:number s.data.toList=A m:=by rw[vU s q,←z.o,drop_end s _ (JM _)];rfl
    have T:=Hd K;clear K
    go_wp2
    go_ret2
    exact t.o _ T.o _ _ Z a
theorem tq(s:ByteArray)(w:J)(a:s.size≤16384) :
  vv va 173 #[r9 s] w fun e w'=>e=wg (y9 #[I U (((number s.data.toList).getD 0:Nat):Int),xt (number s.data.toList).isSome])∧Kr w w':=ow s w (by omega)
theorem yB(p:UInt8→Bool)(h:(List.range 256).all (fun n=>p (UInt8.ofNat n))=tT)(c:UInt8):p c=true:=by
 have a:=Kh.1 h c.toNat (List.mem_range.2 c.toNat_lt)
 simpa using a
def isLow(c:UInt8):Bool:=wj (97≤c.toNat)&&wj (c.toNat≤122)
def a8(c:UInt8):Bool:=isLow c||bY c||c==95
def dy:ByteArray:=⟨#[97,98,99,100,101,102,103,104,105,106,107,108,109,110,111,112,113,114,115,116,117,118,119,120,121,122]⟩
def ke:ByteArray:=⟨#[48,49,50,51,52,53,54,55,56,57]⟩
def f9:ByteArray:=⟨#[97,98,99,100,101,102,103,104,105,106,107,108,109,110,111,112,113,114,115,116,117,118,119,120,121,122,48,49,50,51,52,53,54,55,56,57,95]⟩
theorem mM(c:UInt8):hasB dy c=isLow c:=by
 have:=yB (fun c=>hasB dy c==isLow c) (by kernel_rfl) c
 simpa using this
theorem BY(c:UInt8):hasB ke c=bY c:=by
 have:=yB (fun c=>hasB ke c==bY c) (by kernel_rfl) c
 simpa using this
theorem yb(c:UInt8):hasB f9 c=a8 c:=by
 have:=yB (fun c=>hasB f9 c==a8 c) (by kernel_rfl) c
 simpa using this
def fk(l:List UInt8):Bool:=
 match l with
 | []=>ur
 | c::_=>wj (l.length≤24)&&isLow c
theorem kK(s:ByteArray)(w:J)(l:s.size≤16384) :
  vv va 172 #[r9 s] w fun e w'=>e=wg (xt (fk s.data.toList))∧w=w':=by
 rcases Nat.eq_zero_or_pos s.size with a|a
 ·have e:s.data.toList=[]:=Kb (by rw[Kc];exact a);have he:s.toList.isEmpty=true:=by rw[J1,e];rfl
  have h:=Hd e;clear e a
  go_enter Tryz.func172,Tryz.ntmps172
  go_wp2
  go_ret;rw[h.o];exact⟨Z,Z⟩
 ·have he:s.toList.isEmpty=false:=jg s a;have b:s.data.toList=s[0]::s.data.toList.drop 1:=by
   have:=drop_cons s 0 a
   simpa using this
  have c:fk s.data.toList=(wj (s.size≤24)&&hasB dy s[0]):=by rw[mM,b];unfold fk;simp only[←b,Kc];rfl
  have d:=Hd c;have j:=Hd ((iD dy s[0] w).mono (R':=fun e w'=>(∃i:Int,e=wg (I U i)∧wj (0≤i)=hasB dy s[0])∧w=w') (fun e w' f=>⟨⟨_,f.1,kS _ _⟩,f.2⟩));clear c b
  go_enter Tryz.func172,Tryz.ntmps172
  by_cases g:s.size≤24
  ·go_wp2_with (first
    | (go_at_call 161;refine JX j.o ?_;rintro e w' ⟨⟨i,rfl,hi⟩,rfl⟩;have k:=Hd hi;clear hi))
   go_ret;rw[d.o,←k.o];exact⟨by simp[g],Z⟩
  ·go_wp2
   go_ret;rw[d.o];exact⟨by simp[g],Z⟩
def aI(w:J):Prop:=∀c:Nat,c<256→w.cell? ⟨3,c,Y⟩=A (I r8 (if Lib.isSp (UInt8.ofNat c) then 1 else 0))
theorem aI.lt{w:J}(h:aI w):3<w.heap.size:=by
 have a:=h 0 (by omega);unfold World.cell? at a;rcases Nat.lt_or_ge 3 w.heap.size with b|b
 ·exact b
 ·rw[Kn b]at a;cases a
theorem aI.q{w w':J}(h:aI w)(b:w'.heap[(3:Nat)]?=w.heap[(3:Nat)]?):aI w':=
 fun c d=>(World.cell?_of_block (a:=⟨3,c,Y⟩) b).trans (h c d)
theorem aI.C{w w':J}(h:aI w)(a:Kr w w'):aI w':=h.q (a.block _ h.lt)
theorem aI.u{w w':J}{g:Nat}(h:aI w)(a:w.grownBy w' (A g))(b:g≠3):aI w':=
 h.q (a.block _ h.lt (fun e=>by injection e with e;exact b e.symm))
theorem qw(s:ByteArray)(L:List ByteArray)(c:(Lib.fields s.data.toList).map (fun l=>r9 ⟨l.toArray⟩)=L.map r9)(d:s.size<4294967281)(a:s.data.toList.all (fun b=>wj (b.toNat<128))=tT)(w:J)(f:aI w) :
  vv va 174 #[r9 s] w fun e w'=>e=wg (O (A ⟨w.heap.size,0,Y⟩) L.length L.length)∧w'=w.alloc (r7 (L.map r9).toArray 9):=by
 have hlen:(Lib.fields s.data.toList).length=L.length:=by
  have:=o4 List.length c
  simpa using this
 refine (Any.strings_Fields_core Tryz.lays157 (by kernel_rfl) s w d (fun j b g=>?_) f).mono ?_
 ·have:=Kh.1 a b (J8 g)
  simpa using this
 ·rintro e w' ⟨he,hw⟩;rw[hlen]at he;rw[c]at hw;exact⟨he,hw⟩
def ia:List ByteArray:=[⟨#[102,97,99,116]⟩,⟨#[114,117,108,101]⟩,⟨#[115,97,108,105,101,110,99,101]⟩,⟨#[110,111,116]⟩,⟨#[116,101,115,116]⟩,⟨#[97,115,115,101,114,116]⟩,⟨#[114,101,116,114,97,99,116]⟩,⟨#[115,97,121]⟩,⟨#[104,97,108,116]⟩,⟨#[97,110,100]⟩,⟨#[111,114]⟩]
def EB:ByteArray:=⟨#[102,97,99,116,32,114,117,108,101,32,115,97,108,105,101,110,99,101,32,110,111,116,32,116,101,115,116,32,97,115,115,101,114,116,32,114,101,116,114,97,99,116,32,115,97,121,32,104,97,108,116,32,97,110,100,32,111,114]⟩
def eT:List ByteArray:=[⟨#[61,62]⟩,⟨#[33,61]⟩,⟨#[60,61]⟩,⟨#[62,61]⟩,⟨#[40]⟩,⟨#[41]⟩,⟨#[123]⟩,⟨#[125]⟩,⟨#[44]⟩,⟨#[59]⟩,⟨#[61]⟩,⟨#[60]⟩,⟨#[62]⟩,⟨#[43]⟩,⟨#[45]⟩,⟨#[42]⟩,⟨#[95]⟩]
def Eh:ByteArray:=⟨#[61,62,32,33,61,32,60,61,32,62,61,32,40,32,41,32,123,32,125,32,44,32,59,32,61,32,60,32,62,32,43,32,45,32,42,32,95]⟩
theorem yh(w:J)(a:aI w) :
  vv va 174 #[r9 EB] w fun e w'=>e=wg (O (A ⟨w.heap.size,0,Y⟩) 11 11)∧w'=w.alloc (r7 (ia.map r9).toArray 9):=
 qw EB ia (by kernel_rfl) (by decide) (by kernel_rfl) w a
theorem yz(w:J)(a:aI w) :
  vv va 174 #[r9 Eh] w fun e w'=>e=wg (O (A ⟨w.heap.size,0,Y⟩) 17 17)∧w'=w.alloc (r7 (eT.map r9).toArray 9):=
 qw Eh eT (by kernel_rfl) (by decide) (by kernel_rfl) w a
theorem vS(w:J)(a:aI w) :
  vv va 171 #[] w fun e w'=>e=wg (O (A ⟨w.heap.size,0,Y⟩) 11 11)∧w'=w.alloc (r7 (ia.map r9).toArray 9):=by
 have b:=Hd (yh w a)
 go_enter Tryz.func171,Tryz.ntmps171
 go_wp2_with (first
  | (go_at_call 174;refine JX b.o ?_;rintro e w' ⟨rfl,rfl⟩))
 go_ret;exact⟨Z,Z⟩
def jK(l:List UInt8):Bool:=ia.any (fun b=>b.data.toList==l)
theorem Ef(x:ByteArray):Lib.containsS ia x=jK x.data.toList:=by
 rw[Kg,Lib.containsS_iff,jK,List.any_eq_true]
 constructor
 ·intro h;exact⟨x,h,by simp⟩
 ·rintro ⟨y,c,he⟩;have e:y=x:=by
   have a:y.data.toList=x.data.toList:=by simpa using he
   have b:y.data=x.data:=Array.toList_inj.1 a;exact ByteArray.ext b
  rwa [←e]
theorem np(B c:Nat)(x:ByteArray)(w:J)(h:w.heap[B]?=A (r7 (ia.map r9).toArray 9 (0,0))) :
  vv va 170 #[O (A ⟨B,0,Y⟩) 11 c,r9 x] w fun e w'=>e=wg (xt (jK x.data.toList))∧w=w':=by
 refine (Tryz.slices_Contains_string B 0 11 c ia x w (by decide) (by decide) (fun j a=>?_)).mono ?_
 ·rw[Nat.zero_add,Kq _ _ _ _ _ _ h];simp[List.getD_eq_getElem?_getD,List.getElem?_eq_getElem a]
 ·rintro e w' ⟨rfl,hw⟩;refine⟨?_,hw.symm⟩;rw[show ia.take 11=ia from rfl,Ef]
