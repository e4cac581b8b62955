/- Several texts joined, each with its own sentence and conditions ahead of it: Kit, Mem, ScanA, ScanB, ScanC, ScanD, ScanE. -/
import Derived.WalkKit
import Derived.WalkSpells
import Derived.WalkLawsBesides
import Derived.Maps.AppendAt
import Derived.Lib.Hide
import Derived.ArgAppend
import Derived.Deep.AppendLies
import Derived.Test.YtglbjooofdnbkaaGreatDoorProg
import Derived.Test.YtglbjooofdnbkaaGreatDoorShelf
import Derived.Deep.QuietTactic
import Derived.BigQuiet
import Derived.LoopTactic
import Derived.Laws.IdiomStrings
namespace Go.Proofs.YtglbjooofdnbkaaGreatDoor
theorem Hd{p:Prop}(h:p):Go.RowKit.Hid p:=Go.Lib.hid h
set_option maxHeartbeats 1000000
set_option maxRecDepth 100000
open Go.RowKit
def hasB (st:ByteArray) (c:UInt8):Bool:=st.data.toList.contains c
theorem take_succ_any (p:ByteArray→Bool)(l:List ByteArray)(k:Nat)(x:ByteArray)(hx:l[k]? = some x)(h:(l.take k).any p=false):(l.take (k+1)).any p=p x:=by
 rw[List.take_add_one,hx,List.any_append,h];simp
theorem any_of_mem (p:ByteArray→Bool)(l:List ByteArray)(k:Nat)(x:ByteArray)(hx:l[k]? = some x)(h:p x=true):l.any p=true:=
 List.any_eq_true.2 ⟨x,List.mem_of_getElem? hx,h⟩
theorem below_drewN {B:Nat}{a w:World}(h:Below B a w)(n:Nat):Below B a (w.drewN n):=⟨h.os,h.tape,h.output,h.size,h.block⟩
theorem bx_get (s:ByteArray)(a b i:Nat)(h:i<(s.extract a b).size)(h':a+i<s.size):(s.extract a b)[i]=s[a+i]:=by
 simp only[ByteArray.getElem_eq_getElem_data,ByteArray.data_extract,Array.getElem_extract]
theorem bne_of_size (t:ByteArray)(h:0<t.size):t.toList.isEmpty=false:=by
 rw[ByteArray.toList_eq]
 cases hh:t.data.toList with
 | nil =>
  have:t.data.toList.length=0:=by rw[hh];rfl
  rw[Array.length_toList] at this
  have h2:t.size=t.data.size:=rfl
  omega
 | cons a l=>rfl
theorem cell_new1 (w:World)(v:Value)(t:TypeId):(w.alloc (.cells #[v] t)).cell? ⟨w.heap.size,0,none⟩=some v:=by
 have h:(w.alloc (.cells #[v] t)).heap[w.heap.size]? = some (.cells #[v] t):=heap_alloc_new w _
 exact cell_of_row _ _ 0 _ _ _ h
theorem heap_set {w:World}{g:Nat}{cs:Array Value}{t:TypeId}(h:w.heap[g]? = some (.cells cs t (0,0)))(i:Nat)(u:Value) :
  (w.setCell ⟨g,i,none⟩ u).heap[g]? = some (.cells (cs.setIfInBounds i u) t (0,0)):=by
 simp[World.setCell,Array.getElem?_modify,h]
theorem grown_set {a w:World}{g:Nat}(h:a.grownBy w (some g))(i:Nat)(u:Value):a.grownBy (w.setCell ⟨g,i,none⟩ u) (some g):=
 ⟨h.os,h.tape,h.output,by simpa [World.setCell] using h.size,fun j hj hne=>(Below.heap_setCell w ⟨g,i,none⟩ u j (fun e=>hne (by rw[e]))).trans (h.block j hj hne)⟩
theorem grown_drewN {a w:World}{row:Option Nat}(h:a.grownBy w row)(n:Nat):a.grownBy (w.drewN n) row:=⟨h.os,h.tape,h.output,h.size,h.block⟩
theorem heap_below {B i:Nat}{w w':World}{o:Option Obj}(hb:Below B w w')(h:w.heap[i]? = o)(hi:i<B):w'.heap[i]? = o:=(hb.block i hi).trans h
def scanTo (p:UInt8→Bool) (s:ByteArray) (k:Nat):Nat:=k+((s.data.toList.drop k).takeWhile p).length
theorem drop_cons (s:ByteArray)(k:Nat)(h:k<s.size):s.data.toList.drop k=s[k]::s.data.toList.drop (k+1):=by
 rw[List.drop_eq_getElem_cons (by simpa using h)];rfl
theorem drop_end (s:ByteArray)(k:Nat)(h:s.size≤k):s.data.toList.drop k=[]:=List.drop_eq_nil_of_le (by simpa using h)
theorem scanTo_yes (p:UInt8→Bool)(s:ByteArray)(k:Nat)(h:k<s.size)(hp:p s[k]=true):scanTo p s (k+1)=scanTo p s k:=by
 unfold scanTo;rw[drop_cons s k h];simp[hp];omega
theorem scanTo_no (p:UInt8→Bool)(s:ByteArray)(k:Nat)(h:k<s.size)(hp:p s[k]=false):scanTo p s k=k:=by
 unfold scanTo;rw[drop_cons s k h];simp[hp]
theorem scanTo_end (p:UInt8→Bool)(s:ByteArray)(k:Nat)(h:s.size≤k):scanTo p s k=k:=by
 unfold scanTo;rw[drop_end s k h];rfl
theorem scanTo_ge (p:UInt8→Bool)(s:ByteArray)(k:Nat):k≤scanTo p s k:=by unfold scanTo;omega
theorem scanTo_le (p:UInt8→Bool)(s:ByteArray)(k:Nat)(h:k≤s.size):scanTo p s k≤s.size:=by
 unfold scanTo
 have h1:=(List.takeWhile_sublist p (l:=s.data.toList.drop k)).length_le
 have h2:(s.data.toList.drop k).length=s.size-k:=by simp
 omega
theorem grown_below {a w w':World}{row:Option Nat}(hg:a.grownBy w row)(hb:Below w.heap.size w w'):a.grownBy w' row:=
 ⟨hb.os.trans hg.os,hb.tape.trans hg.tape,hb.output.trans hg.output,Nat.le_trans hg.size hb.size,fun i hi hne=>(hb.block i (Nat.lt_of_lt_of_le hi hg.size)).trans (hg.block i hi hne)⟩
theorem grown_of_below {a w:World}(h:Below a.heap.size a w)(row:Option Nat):a.grownBy w row:=⟨h.os,h.tape,h.output,h.size,fun i hi _=>h.block i hi⟩
theorem heap_grown {w w':World}{i:Nat}{row:Option Nat}{o:Obj}(hg:w.grownBy w' row)(h:w.heap[i]? = some o)(hne:some i≠row):w'.heap[i]? = some o:=
 (hg.block i (Array.getElem?_eq_some_iff.1 h).1 hne).trans h
theorem ne_of_type {w:World}{i j:Nat}{cs ds:Array Value}{t u:TypeId}(h:w.heap[i]? = some (.cells cs t (0,0)))(k:w.heap[j]? = some (.cells ds u (0,0)))(hne:t≠u):i≠j:=by
 rintro rfl
 rw[h] at k
 injection k with k
 injection k with _ k
 exact hne k
theorem cells3 {w:World}{T:Nat}{a b c:Value}{t:TypeId}(h:w.heap[T]? = some (.cells #[a,b,c] t (0,0))) :
  w.cell? ⟨T,0,none⟩=some a∧w.cell? ⟨T,1,none⟩=some b∧w.cell? ⟨T,2,none⟩=some c∧w.frozen? ⟨T,0,none⟩=false∧w.frozen? ⟨T,1,none⟩=false∧w.frozen? ⟨T,2,none⟩=false:=by
 simp[World.cell?,World.frozen?,h]
theorem grown_set_far {a w:World}{row:Option Nat}(h:a.grownBy w row){T:Nat}(hT:a.heap.size≤T)(i:Nat)(u:Value):a.grownBy (w.setCell ⟨T,i,none⟩ u) row:=
 ⟨h.os,h.tape,h.output,by simpa [World.setCell] using h.size,fun j hj hne=>(Below.heap_setCell w ⟨T,i,none⟩ u j (by show j≠T;omega)).trans (h.block j hj hne)⟩
theorem heap_set_far {w:World}{g T:Nat}{o:Obj}(h:w.heap[g]? = some o)(hT:T≠g)(i:Nat)(u:Value):(w.setCell ⟨T,i,none⟩ u).heap[g]? = some o:=
 (Below.heap_setCell w ⟨T,i,none⟩ u g (fun e=>hT e.symm)).trans h
theorem at_alloc (w:World)(o:Obj)(i:Nat):(w.alloc o).heap[i]? = if i=w.heap.size then some o else w.heap[i]?:=by
 show (w.heap.push o)[i]? = _
 rw[Array.getElem?_push]
theorem news_new (w:World)(l:List Value)(t:TypeId):∀(j:Nat)(u:Value),l[j]? = some u→(w.alloc (.cells l.toArray t)).cell? ((⟨w.heap.size,0,none⟩:Addr).add j)=some u:=by
 intro j u h
 have hb:(w.alloc (.cells l.toArray t)).heap[w.heap.size]? = some (.cells l.toArray t (0,0)):=heap_alloc_new w _
 have e:((⟨w.heap.size,0,none⟩:Addr).add j)=⟨w.heap.size,j,none⟩:=by
  unfold Addr.add
  by_cases h0:j=0
  ·rw[if_pos h0,h0]
  ·rw[if_neg h0];simp
 rw[e,cell_of_row _ _ _ _ _ _ hb]
 simpa using h
theorem frozen_of {w:World}{T:Nat}{cs:Array Value}{t:TypeId}(h:w.heap[T]? = some (.cells cs t (0,0)))(i:Nat):w.frozen? ⟨T,i,none⟩=false:=by
 simp[World.frozen?,h]
theorem ownsRow_base {w:World}{b b':Nat}{e:TypeId}{size n:Nat}{v:Value}{xs:List Value}(h:w.ownsRow b e size v n xs)(hb:b'≤b):w.ownsRow b' e size v n xs:=by
 obtain⟨h1,h2⟩:=h
 refine⟨h1,?_⟩
 rcases h2 with h2|⟨g,cap,cur,hv,hg,r⟩
 ·exact .inl h2
 ·exact .inr ⟨g,cap,cur,hv,Nat.le_trans hb hg,r⟩
theorem ret_bool {a b:Bool}(h:a=b):Ending.returned (.bool a)=.returned (.bool b):=by rw[h]
theorem ownsRow_below {w w':World}{b:Nat}{e:TypeId}{size n:Nat}{v:Value}{xs:List Value}(h:w.ownsRow b e size v n xs)(hb:Below w.heap.size w w'):w'.ownsRow b e size v n xs:=by
 refine h.kept (grown_of_below hb none) ?_
 cases hv:v.ownBlock with
 | none=>exact .inl rfl
 | some k=>exact .inr (by simp)
section
variable {P:Program} (w:World)
theorem run_append_both (base:Nat)(t ty e:TypeId)(i:TypeInfo)(z:Value)(size bytes:Nat)(ht:P.underlying t=some (.slice e))(hi:P.info? e=some i)(hz:i.zero=some z)
  (hsize:i.size=size) (hby:i.bytes=bytes) (hzs:z.cells.size=size) (hsz:0<size)
  (v:Value) (n:Nat) (xs:List Value) (hown:w.ownsRow base e size v n xs)
  (a:Addr) (m c:Nat) (news:List Value) (hl:news.length=m*size) (hnews:∀j u,news[j]? = some u→w.cell? (a.add j)=some u) (h1:∀u∈news,u.oneCell'=true)
  (h63:n+m≤maxLen) (hbytes:(n+m)*bytes≤140737488355328) (hbase:base≤w.heap.size) (hm:0<m) :
  ∃v' w',(Builtin.append_ #[t,t] ty #[v,.slice (some a) m c]).run P w=.ok v' w'∧w'.ownsRow base e size v' (n+m) (xs++news) ∧
   ((∃g cap,v=.slice (some ⟨g,0,none⟩) n cap∧v'=.slice (some ⟨g,0,none⟩) (n+m) cap∧w.grownBy w' (some g)) ∨
    (∃cap,v'=.slice (some ⟨w.heap.size,0,none⟩) (n+m) cap∧Below w.heap.size w w')):=by
 subst hsize
 subst hby
 have hsmall:n+m≤9223372036854775807:=by simp only[maxLen] at h63;omega
 have hlen:(xs++news).length=(n+m)*i.size:=by rw[List.length_append,hown.1,hl,Nat.add_mul]
 have grown:∀(old:Nat),old<n+m →
   (w.drew.alloc (.cells (xs.toArray++news.toArray++Builtin.zeroCells z.cells (grownCap w (n+m) old e-(n+m))) e)).ownsRow base e i.size
    (.slice (some ⟨w.heap.size,0,none⟩) (n+m) (grownCap w (n+m) old e)) (n+m) (xs++news) ∧
   Below w.heap.size w (w.drew.alloc (.cells (xs.toArray++news.toArray++Builtin.zeroCells z.cells (grownCap w (n+m) old e-(n+m))) e)):=by
  intro old ho
  have hge:=grownCap_ge w (n+m) old e
  have hcm:grownCap w (n+m) old e≤maxLen:=grownCap_le_maxLen w (n+m) old e h63
  refine⟨⟨hlen,.inr ⟨w.heap.size,_,_,rfl,hbase,heap_alloc_new w.drew _,hge,hcm,?_,?_⟩⟩,(Below.refl _ w).drew.alloc (Nat.le_refl _) _⟩
  ·simp only[Array.size_append,List.size_toArray,size_zeroCells,hzs,hown.1,hl,←Nat.add_mul]
   congr 1
   omega
  ·simp only[Array.toList_append,List.append_assoc]
   rw[←List.append_assoc,←hlen]
   exact List.take_left
 rcases hown.2 with ⟨rfl,rfl⟩|⟨g,cap,cur,rfl,hbg,hg,hnc,hcm,hcs,htake⟩
 ·have hx:xs=[]:=List.eq_nil_of_length_eq_zero (by simpa using hown.1)
  subst hx
  have hr:=run_append_nil (P:=P) w t ty e i z ht hi hz a m c news hl hnews (by omega) (by omega) (by have hb:=hbytes;simp only[Nat.zero_add] at hb;omega)
  have hgr:=grown 0 (by omega)
  simp only[Nat.zero_add,List.nil_append,Array.empty_append] at hgr ⊢
  exact⟨_,_,hr,hgr.1,Or.inr ⟨_,rfl,hgr.2⟩⟩
 ·by_cases hroom:n+m≤cap
  ·have hfit:n*i.size+news.length≤cur.size:=by rw[hl,hcs,←Nat.add_mul];exact Nat.mul_le_mul_right _ hroom
   have hr:=run_append_room (P:=P) w t ty e i ht hi g n cap cur hg a m c news hl hnews h1 hroom hfit
   refine⟨_,_,hr,⟨hlen,.inr ⟨g,cap,_,rfl,hbg,setRow_heap w g cur _ e _ hg,hroom,hcm,?_,?_⟩⟩,Or.inl ⟨g,cap,rfl,rfl,⟨rfl,rfl,rfl,by simp,fun k _ hk=>setRow_other w g k _ (fun e=>hk (by simp[e]))⟩⟩⟩
   ·simp only[List.size_toArray,List.length_append,List.length_take,List.length_drop,Array.length_toList]
    omega
   ·rw[htake,←hlen]
    exact List.take_left
  ·have holds:∀j u,xs[j]? = some u→w.cell? ((⟨g,0,none⟩:Addr).add j)=some u:=hown.cells (g:=g) rfl
   have hr:=run_append_grow (P:=P) w t ty e i z ht hi hz ⟨g,0,none⟩ n cap xs hown.1 holds a m c news hl hnews (by omega) (by omega) (growslice_fits (by omega) hbytes)
   have hgr:=grown cap (by omega)
   exact⟨_,_,hr,hgr.1,Or.inr ⟨_,rfl,hgr.2⟩⟩
theorem wpList_append_both {ops:Array Oper}{rest:List Oper}{o:Oper}{a:Act}{Q:Exit→Act→World→Prop}(hgd:o.guard=none)(s x:Operand)(t:TypeId)
  (ho:o.op=.call { callee:=.builtin .append,args:=#[s,x],argTypes:=#[t,t] })
  (base:Nat) (e:TypeId) (i:TypeInfo) (z:Value) (size bytes:Nat) (ht:P.underlying t=some (.slice e)) (hi:P.info? e=some i) (hz:i.zero=some z)
  (hsize:i.size=size) (hby:i.bytes=bytes) (hzs:z.cells.size=size) (hsz:0<size)
  (v:Value) (n:Nat) (xs:List Value) (hs:a.eval s=v) (hown:w.ownsRow base e size v n xs)
  (ad:Addr) (m c:Nat) (news:List Value) (hx:a.eval x=.slice (some ad) m c) (hl:news.length=m*size) (hnews:∀j u,news[j]? = some u→w.cell? (ad.add j)=some u) (h1:∀u∈news,u.oneCell'=true)
  (h63:n+m≤maxLen) (hbytes:(n+m)*bytes≤140737488355328) (hbase:base≤w.heap.size) (hm:0<m)
  (h:∀v' w',w'.ownsRow base e size v' (n+m) (xs++news) →
   ((∃g cap,v=.slice (some ⟨g,0,none⟩) n cap∧v'=.slice (some ⟨g,0,none⟩) (n+m) cap∧w.grownBy w' (some g))∨(∃cap,v'=.slice (some ⟨w.heap.size,0,none⟩) (n+m) cap∧Below w.heap.size w w')) →
   wpList P ops Q rest (a.put o.dst v') w') :
  wpList P ops Q (o::rest) a w:=by
 refine wpList_plain hgd fun K hK=>?_
 obtain⟨v',w',hr,h2,h3⟩:=run_append_both (P:=P) w base t o.type e i z size bytes ht hi hz hsize hby hzs hsz v n xs hown ad m c news hl hnews h1 h63 hbytes hbase hm
 unfold Oper.wp execOp
 simp only[ho,resolve,invoke,builtin,Sem.run_bind,Sem.run_pure,Result.andThen_ok,List.map_toArray,List.map_cons,List.map_nil,hs,hx,hr]
 exact hK _ _ (h v' w' h2 h3)
end
structure Chg (F:Nat→Prop) (w w':World):Prop where
 os:w'.os=w.os
 tape:w'.tape=w.tape
 output:w'.output=w.output
 size:w.heap.size≤w'.heap.size
 block:∀b,b<w.heap.size→¬F b→w'.heap[b]? = w.heap[b]?
theorem Chg.refl (F:Nat→Prop)(w:World):Chg F w w:=⟨rfl,rfl,rfl,Nat.le_refl _,fun _ _ _=>rfl⟩
theorem Chg.trans {F:Nat→Prop}{a b c:World}(h:Chg F a b)(k:Chg F b c):Chg F a c:=
 ⟨k.os.trans h.os,k.tape.trans h.tape,k.output.trans h.output,Nat.le_trans h.size k.size,fun i hi hf=>(k.block i (Nat.lt_of_lt_of_le hi h.size) hf).trans (h.block i hi hf)⟩
theorem Chg.sub {F G:Nat→Prop}{a b:World}(h:Chg F a b)(hs:∀i,F i→G i):Chg G a b:=⟨h.os,h.tape,h.output,h.size,fun i hi hf=>h.block i hi fun k=>hf (hs i k)⟩
theorem Chg.of_below {F:Nat→Prop}{a b:World}(h:Below a.heap.size a b):Chg F a b:=⟨h.os,h.tape,h.output,h.size,fun i hi _=>h.block i hi⟩
theorem Chg.setCell {F:Nat→Prop}{a b:World}(h:Chg F a b){p:Addr}(hg:F p.block∨a.heap.size≤p.block)(v:Value):Chg F a (b.setCell p v):=
 ⟨h.os,h.tape,h.output,by simpa [World.setCell] using h.size,fun i hi hf=>(heap_setCell_other _ _ _ _ (by rintro rfl;rcases hg with hg|hg;exact hf hg;omega)).trans (h.block i hi hf)⟩
theorem own_block {w:World}{base n size:Nat}{e:TypeId}{v:Value}{xs:List Value}(h:w.ownsRow base e size v n xs):∀g,v.ownBlock=some g→base≤g∧g<w.heap.size:=by
 intro g hg
 rcases h.2 with ⟨rfl,_⟩|⟨g',cap,cur,rfl,hb,hc,_⟩
 ·cases hg
 ·injection hg with hg
  subst hg
  exact⟨hb,(Array.getElem?_eq_some_iff.1 hc).1⟩
theorem owns_keep {w w':World}{B:Nat}{e:TypeId}{z n:Nat}{v:Value}{xs:List Value}(h:w.ownsRow B e z v n xs)(hk:∀g,v.ownBlock=some g→w'.heap[g]? = w.heap[g]?):w'.ownsRow B e z v n xs:=by
 refine⟨h.1,?_⟩
 rcases h.2 with hn|⟨g,cap,cur,rfl,hb,hg,rest⟩
 ·exact Or.inl hn
 ·exact Or.inr ⟨g,cap,cur,rfl,hb,(hk g rfl).trans hg,rest⟩
theorem owns_below {w w':World}{B:Nat}{e:TypeId}{z n:Nat}{v:Value}{xs:List Value}(h:w.ownsRow B e z v n xs)(hb:Below w.heap.size w w'):w'.ownsRow B e z v n xs:=
 owns_keep h fun g hg=>hb.block g (h.lt g hg).2
theorem cells5 {w:World}{T:Nat}{a b c d e:Value}{t:TypeId}(h:w.heap[T]? = some (.cells #[a,b,c,d,e] t (0,0))) :
  w.cell? ⟨T,0,none⟩=some a∧w.cell? ⟨T,1,none⟩=some b∧w.cell? ⟨T,2,none⟩=some c∧w.cell? ⟨T,3,none⟩=some d∧w.cell? ⟨T,4,none⟩=some e:=by
 simp[World.cell?,h]
theorem two_new' (w:World)(a b:Obj):((w.alloc a).alloc b).heap[w.heap.size]? = some a∧((w.alloc a).alloc b).heap[w.heap.size+1]? = some b∧True:=
 ⟨by rw[at_alloc,World.size_alloc,if_neg (by omega),at_alloc,if_pos rfl],by rw[at_alloc,World.size_alloc,if_pos rfl],trivial⟩
theorem frozen5 {w:World}{T:Nat}{cs:Array Value}{t:TypeId}(h:w.heap[T]? = some (.cells cs t (0,0)))(i:Nat):w.frozen? ⟨T,i,none⟩=false:=by
 simp[World.frozen?,h]
theorem rlen_any (Q k:Nat)(s:ByteArray)(w:World)(h0:w.cell? ⟨Q,0,none⟩=some (.string s))(h1:w.cell? ⟨Q,1,none⟩=some (.int .i64 k))(hk:k≤s.size)(hs:s.size≤16384) :
  Calls Tryz.prog 98 #[.pointer (some ⟨Q,0,none⟩)] w fun e w'=>e=.returned (.int .i64 ((s.size:Int)-k))∧∃n,w'=w.drewN n:=by
 go_enter Tryz.func98,Tryz.ntmps98
 go_wp2
 go_quiet (fail)
 go_wp2
 ·go_ret
  refine⟨?_,_,rfl⟩
  have:s.size≤k:=by assumption
  have e:(s.size:Int)-k=0:=by omega
  rw[e];rfl
 ·go_quiet (fail)
  go_wp2
  go_ret
  exact⟨rfl,_,World.drewN_drewN ..⟩
theorem at_any (R Q k:Nat)(s:ByteArray)(w:World)(r0:w.cell? ⟨R,0,none⟩=some (.pointer (some ⟨Q,0,none⟩)))(r1:w.cell? ⟨R,1,none⟩=some (.string s))(h0:w.cell? ⟨Q,0,none⟩=some (.string s))(h1:w.cell? ⟨Q,1,none⟩=some (.int .i64 k))(hk:k≤s.size)(hs:s.size≤16384) :
  Calls Tryz.prog 128 #[.pointer (some ⟨R,0,none⟩)] w fun e w'=>e=.returned (.int .i64 k)∧∃n,w'=w.drewN n:=by
 go_enter Tryz.func128,Tryz.ntmps128
 go_wp2
 go_quiet ((go_at_call 98;refine Calls.quiet_of (rlen_any Q k s _ h0 h1 hk hs)))
 go_wp2
 go_ret
 refine⟨?_,_,rfl⟩
 have e:(s.size:Int)-(↑s.size - ↑k)=k:=by omega
 simp
 omega
theorem rest_any (R Q k:Nat)(s:ByteArray)(w:World)(r0:w.cell? ⟨R,0,none⟩=some (.pointer (some ⟨Q,0,none⟩)))(r1:w.cell? ⟨R,1,none⟩=some (.string s))(h0:w.cell? ⟨Q,0,none⟩=some (.string s))(h1:w.cell? ⟨Q,1,none⟩=some (.int .i64 k))(hk:k≤s.size)(hs:s.size≤16384) :
  Calls Tryz.prog 124 #[.pointer (some ⟨R,0,none⟩)] w fun e w'=>e=.returned (.string (s.extract k s.size))∧∃n,w'=w.drewN n:=by
 go_enter Tryz.func124,Tryz.ntmps124
 go_wp2
 go_quiet ((go_at_call 128;refine Calls.quiet_of (at_any R Q k s _ r0 r1 h0 h1 hk hs)))
 go_wp2
 go_ret
 refine⟨rfl,_,rfl⟩
theorem indexbyte_dec (l:List UInt8)(c:UInt8):decide (0≤Lib.indexByte l c)=l.contains c:=by
 induction l with
 | nil=>rfl
 | cons a l ih =>
  have hg:=Lib.indexByte_ge l c
  simp only[Lib.indexByte,List.contains_cons,←ih]
  by_cases h:a=c
  ·subst h;simp
  ·have h1:(a==c)=false:=by simpa using h
   have h2:(c==a)=false:=by simpa using fun e=>h e.symm
   simp only[h1,h2,Bool.false_eq_true,if_false,Bool.false_or]
   by_cases h3:Lib.indexByte l c=-1
   ·simp[h3]
   ·have h4:(Lib.indexByte l c == -1)=false:=by simpa using h3
    simp only[h4,Bool.false_eq_true,if_false]
    apply decide_eq_decide.2
    omega
theorem indexbyte_has (st:ByteArray)(c:UInt8):decide (0≤Lib.indexByte st.data.toList c)=hasB st c:=indexbyte_dec _ _
theorem strings_IndexByte' (st:ByteArray)(c:UInt8)(w:World) :
  Calls Tryz.prog 92 #[.string st,.int .u8 (c.toNat:Int)] w fun e w'=>(e=.returned (.int .i64 (Lib.indexByte st.data.toList c)))∧w=w':=
 (Tryz.strings_IndexByte st (c.toNat:Int) w).mono fun e w' ⟨h1,h2⟩=>⟨by simpa using h1,h2.symm⟩
theorem one1_any (T:Nat)(st t:ByteArray)(w:World)(ht:w.cell? ⟨T,0,none⟩=some (.string t))(h0:0<t.size) :
  Calls Tryz.prog 141 #[.string st,.pointer (some ⟨T,0,none⟩)] w fun e w'=>e=.returned (.bool (hasB st t[0]))∧w=w':=by
 have HD:=Hd (indexbyte_has st t[0])
 go_enter Tryz.func141,Tryz.ntmps141
 go_wp2_with (go_at_call 92;refine (strings_IndexByte' _ _ _).mono ?_;rintro e w' ⟨rfl,rfl⟩)
 go_ret
 exact⟨by rw[←HD.out];rfl,rfl⟩
theorem idxf_any (B T n cap:Nat)(sets:List ByteArray)(t:ByteArray)(w:World)(hB:w.heap[B]? = some (.cells (sets.map Value.string).toArray 9 (0,0)))(hn:sets.length=n)(hn2:n≤100)
  (ht:w.cell? ⟨T,0,none⟩=some (.string t)) (h0:0<t.size) :
  Calls Tryz.prog 148 #[.slice (some ⟨B,0,none⟩) n cap,.func (.func 141) #[] #[.pointer (some ⟨T,0,none⟩)]] w fun e w'=>(∃i:Int,e=.returned (.int .i64 i)∧decide (0≤i)=sets.any (hasB · t[0]))∧w=w':=by
 have hcell:∀i,i<n→∃st,sets[i]? = some st∧w.cell? ⟨B,i,none⟩=some (.string st):=by
  intro i hi
  refine⟨sets[i]'(by omega),List.getElem?_eq_getElem (by omega),?_⟩
  simp[World.cell?,hB,List.getElem?_eq_getElem (show i<sets.length by omega)]
 have HC:=Hd hcell
 have HN:=Hd hn
 clear hcell hB hn
 go_enter Tryz.func148,Tryz.ntmps148
 go_wp2
 go_loop [8,5] (fun i _=>∃k:Nat,k≤n∧i=.int .i64 k∧(sets.take k).any (hasB · t[0])=false) (fun i _=>n-(intOf i).toNat)
 case atStart=>exact⟨0,Nat.zero_le _,rfl,rfl⟩
 case round =>
  obtain⟨k,hk,rfl,hno⟩:=hrel
  have HO:=Hd hno
  clear hno
  by_cases hlt:k<n
  ·obtain⟨st,hst,hck⟩:=HC.out k hlt
   have HS:=Hd hst
   clear hst
   cases hb:hasB st t[0]
   ·have HR:=Hd hb
    go_wp2_with (go_at_call 141;refine (one1_any T _ t _ ht h0).mono ?_;rintro e w' ⟨rfl,rfl⟩)
    go_round
    case rel=>exact⟨k+1,by omega,by go_num,by rw[take_succ_any _ _ _ _ HS.out HO.out];exact HR.out⟩
    case measure=>simp[intOf];omega
   ·have HR:=Hd hb
    go_wp2_with (go_at_call 141;refine (one1_any T _ t _ ht h0).mono ?_;rintro e w' ⟨rfl,rfl⟩)
    go_ret
    refine⟨⟨k,rfl,?_⟩,rfl⟩
    rw[any_of_mem (hasB · t[0]) _ _ _ HS.out HR.out];simp
  ·go_wp2
   go_ret
   refine⟨⟨-1,rfl,?_⟩,rfl⟩
   have e:sets.take k=sets:=List.take_of_length_le (by rw[HN.out];omega)
   have:=HO.out
   rw[e] at this
   rw[this];rfl
theorem containsf_any (B T n cap:Nat)(sets:List ByteArray)(t:ByteArray)(w:World)(hB:w.heap[B]? = some (.cells (sets.map Value.string).toArray 9 (0,0)))(hn:sets.length=n)(hn2:n≤100)
  (ht:w.cell? ⟨T,0,none⟩=some (.string t)) (h0:0<t.size) :
  Calls Tryz.prog 140 #[.slice (some ⟨B,0,none⟩) n cap,.func (.func 141) #[] #[.pointer (some ⟨T,0,none⟩)]] w fun e w'=>e=.returned (.bool (sets.any (hasB · t[0])))∧w=w':=by
 have HC:=Hd (idxf_any B T n cap sets t w hB hn hn2 ht h0)
 clear hn hB
 go_enter Tryz.func140,Tryz.ntmps140
 go_wp2_with (go_at_call 148;refine Calls.mono HC.out ?_;rintro e w' ⟨⟨i,rfl,hi⟩,rfl⟩;have HI:=Hd hi;clear hi)
 go_ret
 exact⟨by rw[←HI.out];rfl,rfl⟩
def Rdr (w:World) (R Q:Nat) (s:ByteArray) (k:Nat):Prop:=
 w.heap[R]? = some (.cells #[.pointer (some ⟨Q,0,none⟩),.string s] 150 (0,0))∧∃p:Int,w.heap[Q]? = some (.cells #[.string s,.int .i64 k,.int .i64 p] 177 (0,0))
theorem Rdr.ne {w:World}{R Q:Nat}{s:ByteArray}{k:Nat}(h:Rdr w R Q s k):R≠Q:=by
 obtain⟨h1,p,h2⟩:=h
 rintro rfl
 rw[h1] at h2
 simp at h2
theorem Rdr.cells {w:World}{R Q:Nat}{s:ByteArray}{k:Nat}(h:Rdr w R Q s k) :
  w.cell? ⟨R,0,none⟩=some (.pointer (some ⟨Q,0,none⟩))∧w.cell? ⟨R,1,none⟩=some (.string s)∧w.cell? ⟨Q,0,none⟩=some (.string s)∧w.cell? ⟨Q,1,none⟩=some (.int .i64 k) ∧
  (∃p:Int,w.cell? ⟨Q,2,none⟩=some (.int .i64 p))∧w.frozen? ⟨Q,1,none⟩=false∧w.frozen? ⟨Q,2,none⟩=false∧R<w.heap.size∧Q<w.heap.size:=by
 obtain⟨h1,p,h2⟩:=h
 have a:=(Array.getElem?_eq_some_iff.1 h1).1
 have b:=(Array.getElem?_eq_some_iff.1 h2).1
 exact⟨by simp[World.cell?,h1],by simp[World.cell?,h1],by simp[World.cell?,h2],by simp[World.cell?,h2],⟨p,by simp[World.cell?,h2]⟩,by simp[World.frozen?,h2],by simp[World.frozen?,h2],a,b⟩
theorem Rdr.keep {w w':World}{R Q:Nat}{s:ByteArray}{k:Nat}(h:Rdr w R Q s k)(hb:Below w.heap.size w w'):Rdr w' R Q s k:=by
 obtain⟨_,_,_,_,_,_,_,a,b⟩:=h.cells
 obtain⟨h1,p,h2⟩:=h
 exact⟨by rw[hb.block R a];exact h1,p,by rw[hb.block Q b];exact h2⟩
theorem rest_b (R Q k:Nat)(s:ByteArray)(w:World)(h:Rdr w R Q s k)(hk:k≤s.size)(hs:s.size≤16384) :
  Calls Tryz.prog 124 #[.pointer (some ⟨R,0,none⟩)] w fun e w'=>e=.returned (.string (s.extract k s.size))∧Below w.heap.size w w':=by
 obtain⟨r0,r1,q0,q1,⟨p,q2⟩,f1,f2,hR,hQ⟩:=h.cells
 refine (rest_any R Q k s w r0 r1 q0 q1 hk hs).mono ?_
 rintro e w' ⟨rfl,n,rfl⟩
 exact⟨rfl,below_drewN (Below.refl _ _) n⟩
theorem one_no (R Q k:Nat)(s:ByteArray)(w:World)(h:Rdr w R Q s k)(hk:k=s.size)(hs:s.size≤16384)(sl:Value) :
  Calls Tryz.prog 123 #[.pointer (some ⟨R,0,none⟩),sl] w fun e w'=>e=.returned (.bool false)∧Below w.heap.size w w':=by
 have hx:(s.extract k s.size).toList=[]:=by subst hk;simp
 have hx2:(s.extract k s.size).toList.isEmpty=true:=by simp[hx]
 have HC:=Hd (rest_b R Q k s w h (by omega) hs)
 clear h hx
 generalize s.extract k s.size=t at *
 go_enter Tryz.func123,Tryz.ntmps123
 go_wp2_with (first|(go_at_call 124;refine Calls.mono HC.out ?_;rintro e w' ⟨rfl,hb⟩))
 go_ret
 exact⟨rfl,hb.alloc hb.size _⟩
theorem one_yes (R Q k:Nat)(s:ByteArray)(w:World)(h:Rdr w R Q s k)(hk:k<s.size)(hs:s.size≤16384)(B n cap:Nat)(sets:List ByteArray)(hB:w.heap[B]? = some (.cells (sets.map Value.string).toArray 9 (0,0)))(hn:sets.length=n)(hn2:n≤100) :
  Calls Tryz.prog 123 #[.pointer (some ⟨R,0,none⟩),.slice (some ⟨B,0,none⟩) n cap] w fun e w'=>e=.returned (.bool (sets.any (hasB · s[k])))∧Below w.heap.size w w':=by
 have hBl:B<w.heap.size:=(Array.getElem?_eq_some_iff.1 hB).1
 have HB:=Hd hB
 have HN:=Hd hn
 have hx0:(s.extract k s.size).size=s.size-k:=by simp
 have hx:0<(s.extract k s.size).size:=by omega
 have hx1:(s.extract k s.size)[0]=s[k]:=bx_get s k s.size 0 hx (by omega)
 have hx2:(s.extract k s.size).toList.isEmpty=false:=bne_of_size _ hx
 have HC:=Hd (rest_b R Q k s w h (by omega) hs)
 clear hB hn
 rw[←hx1]
 generalize s.extract k s.size=t at *
 clear hx0 hx1
 go_enter Tryz.func123,Tryz.ntmps123
 go_wp2_with (first
  | (go_at_call 124;refine Calls.mono HC.out ?_;rintro e w' ⟨rfl,hb⟩)
  | (go_at_call 140;refine (containsf_any B _ n cap sets t _ ((Below.heap_alloc _ _ _ (by have:=hb.size;omega)).trans (heap_below hb HB.out hBl)) HN.out hn2 (cell_new1 _ _ _) hx).mono ?_;rintro e w'' ⟨rfl,rfl⟩))
 go_ret
 exact⟨rfl,hb.alloc hb.size _⟩
theorem readb_any (Q k:Nat)(p:Int)(s:ByteArray)(w:World)(h:w.heap[Q]? = some (.cells #[.string s,.int .i64 k,.int .i64 p] 177 (0,0)))(hk:k<s.size)(hs:s.size≤16384) :
  Calls Tryz.prog 126 #[.pointer (some ⟨Q,0,none⟩)] w fun e w'=>e=.returned (.tuple #[.int .u8 (s[k].toNat:Int),.nilIface])∧w.grownBy w' (some Q)∧w'.heap[Q]? = some (.cells #[.string s,.int .i64 (k+1:Nat),.int .i64 (-1)] 177 (0,0)):=by
 have q0:w.cell? ⟨Q,0,none⟩=some (.string s):=by simp[World.cell?,h]
 have q1:w.cell? ⟨Q,1,none⟩=some (.int .i64 k):=by simp[World.cell?,h]
 have q2:w.cell? ⟨Q,2,none⟩=some (.int .i64 p):=by simp[World.cell?,h]
 have f1:w.frozen? ⟨Q,1,none⟩=false:=by simp[World.frozen?,h]
 have f2:w.frozen? ⟨Q,2,none⟩=false:=by simp[World.frozen?,h]
 have H:=Hd h
 clear h
 have hlt:decide ((s.size:Int)≤k)=false:=by simp;omega
 go_enter Tryz.func126,Tryz.ntmps126
 go_wp2
 go_quiet (fail)
 go_wp2
 go_quiet (fail)
 go_wp2
 go_ret2
 refine⟨rfl,grown_set (grown_drewN (grown_set (World.grownBy.refl w _) _ _) _) _ _,?_⟩
 rw[heap_set (w:=World.drewN _ _) (heap_set H.out 2 (.int .i64 (-1)))]
 rfl
def posOf (w:World) (Q:Nat):Nat:=match w.cell? ⟨Q,1,none⟩ with|some (.int _ n)=>n.toNat|_=>0
theorem Rdr.pos {w:World}{R Q:Nat}{s:ByteArray}{k:Nat}(h:Rdr w R Q s k):posOf w Q=k:=by
 obtain⟨_,_,_,q1,_⟩:=h.cells
 simp[posOf,q1]
theorem Rdr.grown {w w':World}{R Q:Nat}{s:ByteArray}{k k':Nat}{p:Int}(h:Rdr w R Q s k)(hg:w.grownBy w' (some Q))(hq:w'.heap[Q]? = some (.cells #[.string s,.int .i64 k',.int .i64 p] 177 (0,0))):Rdr w' R Q s k':=by
 obtain⟨_,_,_,_,_,_,_,a,b⟩:=h.cells
 have hne:=h.ne
 obtain⟨h1,p,h2⟩:=h
 exact⟨(hg.block R a (by intro e;injection e with e;exact hne e)).trans h1,_,hq⟩
theorem at_b (R Q k:Nat)(s:ByteArray)(w:World)(h:Rdr w R Q s k)(hk:k≤s.size)(hs:s.size≤16384) :
  Calls Tryz.prog 128 #[.pointer (some ⟨R,0,none⟩)] w fun e w'=>e=.returned (.int .i64 k)∧Below w.heap.size w w':=by
 obtain⟨r0,r1,q0,q1,⟨p,q2⟩,f1,f2,hR,hQ⟩:=h.cells
 refine (at_any R Q k s w r0 r1 q0 q1 hk hs).mono ?_
 rintro e w' ⟨rfl,n,rfl⟩
 exact⟨rfl,below_drewN (Below.refl _ _) n⟩
theorem Rdr.q {w:World}{R Q:Nat}{s:ByteArray}{k:Nat}(h:Rdr w R Q s k):∃p:Int,w.heap[Q]? = some (.cells #[.string s,.int .i64 k,.int .i64 p] 177 (0,0)):=h.2
theorem take_any (R Q k:Nat)(s:ByteArray)(w:World)(h:Rdr w R Q s k)(hk:k≤s.size)(hs:s.size≤16384)(B n cap:Nat)(sets:List ByteArray)(hB:w.heap[B]? = some (.cells (sets.map Value.string).toArray 9 (0,0)))(hn:sets.length=n)(hn2:n≤100) :
  Calls Tryz.prog 127 #[.pointer (some ⟨R,0,none⟩),.slice (some ⟨B,0,none⟩) n cap] w fun e w'=>e=.returned (.string (s.extract k (scanTo (fun c=>sets.any (hasB · c)) s k)))∧w.grownBy w' (some Q)∧Rdr w' R Q s (scanTo (fun c=>sets.any (hasB · c)) s k):=by
 have hBQ:some B≠some Q:=by
  obtain⟨p,hq⟩:=h.q
  intro e;injection e with e
  exact ne_of_type hB hq (by decide) e
 have HB:=Hd hB
 have HN:=Hd hn
 clear hB hn
 go_enter Tryz.func127,Tryz.ntmps127
 go_wp2_with (first
  | (go_at_call 128;refine (at_b R Q k s _ h hk hs).mono ?_;rintro e w1 ⟨rfl,hb1⟩))
 have hR1:=h.keep hb1
 go_loopw [16] (fun _ wr=>∃j,k≤j∧j≤s.size∧scanTo (fun c=>sets.any (hasB · c)) s j=scanTo (fun c=>sets.any (hasB · c)) s k∧Rdr wr R Q s j∧w.grownBy wr (some Q)) (fun _ wr=>s.size-posOf wr Q)
 case atStart=>exact⟨k,Nat.le_refl _,hk,rfl,hR1,grown_of_below hb1 _⟩
 case round =>
  obtain⟨j,hkj,hjs,hsc,hr,hg⟩:=hrel
  have HS:=Hd hsc
  have HBr:=Hd (heap_grown hg HB.out hBQ)
  clear hsc hb1 hR1
  by_cases hj:j<s.size
  ·have HO:=Hd (fun (x:Bool) (hx:(sets.any (hasB · s[j]))=x)=>(one_yes R Q j s wr hr hj hs B n cap sets HBr.out HN.out hn2).mono (R':=fun e w'=>e=.returned (.bool x)∧Below wr.heap.size wr w') (fun e w' hh=>by rw[←hx];exact hh))
   cases hp:sets.any (hasB · s[j])
   ·have HP:=Hd hp
    have HC:=Hd (HO.out _ hp)
    clear HO hp
    go_wp2_with (first
     | (go_at_call 123;refine Calls.mono HC.out ?_;rintro e w2 ⟨rfl,hb2⟩))
    obtain⟨r0,r1,q0,q1,⟨p,q2⟩,f1,f2,hRl,hQl⟩:=(hr.keep hb2).cells
    go_quiet ((go_at_call 128;refine Calls.quiet_of (at_any R Q j s _ r0 r1 q0 q1 hjs hs)))
    go_wp2
    go_ret
    have e:scanTo (fun c=>sets.any (hasB · c)) s k=j:=by rw[←HS.out];exact scanTo_no _ s j hj HP.out
    rw[e]
    exact⟨rfl,grown_drewN (grown_below hg hb2) _,hr.keep (below_drewN hb2 _)⟩
   ·have HP:=Hd hp
    have HC:=Hd (HO.out _ hp)
    clear HO hp
    go_wp2_with (first
     | (go_at_call 123;refine Calls.mono HC.out ?_;rintro e w2 ⟨rfl,hb2⟩;have hr2:=hr.keep hb2;obtain⟨r0,r1,q0,q1,⟨p,q2⟩,f1,f2,hRl,hQl⟩:=hr2.cells;obtain⟨p',hQ2⟩:=hr2.q;have HQ2:=Hd hQ2;clear hQ2)
     | (go_at_call 126;refine (readb_any Q j _ s _ HQ2.out hj hs).mono ?_;rintro e w3 ⟨rfl,hg3,hQ3⟩;have HQ3:=Hd hQ3;clear hQ3))
    refine⟨⟨j+1,by omega,by omega,?_,hr2.grown hg3 HQ3.out,World.grownBy.trans (grown_below hg hb2) hg3⟩,?_⟩
    ·rw[←HS.out];exact scanTo_yes _ s j hj HP.out
    ·rw[(hr2.grown hg3 HQ3.out).pos,hr.pos];omega
  ·have hjj:j=s.size:=by omega
   have HJ:=Hd hjj
   have HC:=Hd (one_no R Q j s wr hr hjj hs (.slice (some ⟨B,0,none⟩) n cap))
   clear hjj
   go_wp2_with (first
    | (go_at_call 123;refine Calls.mono HC.out ?_;rintro e w2 ⟨rfl,hb2⟩))
   obtain⟨r0,r1,q0,q1,⟨p,q2⟩,f1,f2,hRl,hQl⟩:=(hr.keep hb2).cells
   go_quiet ((go_at_call 128;refine Calls.quiet_of (at_any R Q j s _ r0 r1 q0 q1 hjs hs)))
   go_wp2
   go_ret
   have e:scanTo (fun c=>sets.any (hasB · c)) s k=j:=by rw[←HS.out];exact scanTo_end _ s j (by omega)
   rw[e]
   exact⟨rfl,grown_drewN (grown_below hg hb2) _,hr.keep (below_drewN hb2 _)⟩
theorem Rdr.set_far {w:World}{R Q:Nat}{s:ByteArray}{k:Nat}(h:Rdr w R Q s k){T i:Nat}(u:Value)(hR:T≠R)(hQ:T≠Q):Rdr (w.setCell ⟨T,i,none⟩ u) R Q s k:=by
 obtain⟨h1,p,h2⟩:=h
 exact⟨heap_set_far h1 hR _ _,p,heap_set_far h2 hQ _ _⟩
theorem Rdr.move {w w':World}{R Q:Nat}{s:ByteArray}{k:Nat}{row:Option Nat}(h:Rdr w R Q s k)(hg:w.grownBy w' row)(hR:some R≠row)(hQ:some Q≠row):Rdr w' R Q s k:=by
 obtain⟨h1,p,h2⟩:=h
 exact⟨heap_grown hg h1 hR,p,heap_grown hg h2 hQ⟩
theorem indexByte_while (l:List UInt8)(c:UInt8):Lib.indexByte l c=if l.contains c then ((l.takeWhile (· != c)).length:Int) else -1:=by
 induction l with
 | nil=>rfl
 | cons a l ih =>
  simp only[Lib.indexByte,List.contains_cons,ih]
  by_cases h:a=c
  ·subst h;simp
  ·have h1:(a==c)=false:=by simpa using h
   have h2:(c==a)=false:=by simpa using fun e=>h e.symm
   have h3:(a != c)=true:=by simpa using h
   simp only[h1,h2,Bool.false_eq_true,if_false,Bool.false_or,List.takeWhile_cons,h3,if_true,List.length_cons]
   by_cases h4:l.contains c
   ·simp only[h4,if_true]
    rw[if_neg (by simp)];omega
   ·simp only[h4];simp
theorem while_all (l:List UInt8)(c:UInt8)(h:l.contains c=false):l.takeWhile (· != c)=l:=by
 induction l with
 | nil=>rfl
 | cons a l ih =>
  simp only[List.contains_cons,Bool.or_eq_false_iff] at h
  have h3:(a != c)=true:=by
   have:=h.1
   simp only[bne_iff_ne];rintro rfl;simp at this
  rw[List.takeWhile_cons,if_pos h3,ih h.2]
theorem while_lt (l:List UInt8)(c:UInt8)(h:l.contains c=true):(l.takeWhile (· != c)).length<l.length:=by
 induction l with
 | nil=>simp at h
 | cons a l ih =>
  by_cases e:a=c
  ·subst e;simp
  ·have h3:(a != c)=true:=by simpa using e
   rw[List.takeWhile_cons,if_pos h3]
   have h4:l.contains c=true:=by
    simp only[List.contains_cons,Bool.or_eq_true] at h
    rcases h with h|h
    ·exact absurd (by simpa using h:c=a).symm e
    ·exact h
   have:=ih h4
   simp;omega
theorem cut1_yes (t:ByteArray)(i:Nat)(w:World)(hi:Lib.indexByte t.data.toList 10=(i:Int))(hle:i<t.size)(hs:t.size≤16384) :
  Calls Tryz.prog 142 #[.string t,.string ⟨#[10]⟩] w fun e w'=>(∃b c,e=.returned (.tuple #[.string (t.extract 0 i),b,c]))∧Below w.heap.size w w':=by
 have HC:=Hd ((Tryz.stringslite_Index_one t 10 w).mono (R':=fun e w'=>e=.returned (.int .i64 (i:Int))∧w=w') (fun e w' hh=>⟨by rw[←hi];exact hh.1,hh.2.symm⟩))
 clear hi
 have hi1:(0:Int)≤i:=by omega
 have hi2:(i:Int)≤t.size:=by omega
 have hi3:(i:Int)+1≤t.size:=by omega
 have hb:(ByteArray.mk #[10]).size=1:=rfl
 go_enter Tryz.func142,Tryz.ntmps142
 go_wp2_with (first
  | (go_at_call 149;refine Calls.mono HC.out ?_;rintro e w' ⟨rfl,rfl⟩))
 go_quiet (fail)
 go_wp2
 go_ret3
 exact⟨⟨_,_,rfl⟩,below_drewN (Below.refl _ _) _⟩
theorem cut1_no (t:ByteArray)(w:World)(hi:Lib.indexByte t.data.toList 10=-1) :
  Calls Tryz.prog 142 #[.string t,.string ⟨#[10]⟩] w fun e w'=>(∃b c,e=.returned (.tuple #[.string t,b,c]))∧Below w.heap.size w w':=by
 have HC:=Hd ((Tryz.stringslite_Index_one t 10 w).mono (R':=fun e w'=>e=.returned (.int .i64 (-1))∧w=w') (fun e w' hh=>⟨by rw[←hi];exact hh.1,hh.2.symm⟩))
 clear hi
 go_enter Tryz.func142,Tryz.ntmps142
 go_wp2_with (first
  | (go_at_call 149;refine Calls.mono HC.out ?_;rintro e w' ⟨rfl,rfl⟩))
 go_ret3
 exact⟨⟨_,_,rfl⟩,Below.refl _ _⟩
theorem cut_any (t:ByteArray)(w:World)(hs:t.size≤16384) :
  Calls Tryz.prog 125 #[.string t,.string ⟨#[10]⟩] w fun e w'=>(∃n b c,e=.returned (.tuple #[.string n,b,c])∧n.size=(t.data.toList.takeWhile (· != 10)).length)∧Below w.heap.size w w':=by
 have HC:∀W:World,Calls Tryz.prog 142 #[.string t,.string ⟨#[10]⟩] W fun e w'=>(∃n b c,e=.returned (.tuple #[.string n,b,c])∧n.size=(t.data.toList.takeWhile (· != 10)).length)∧Below W.heap.size W w':=by
  intro W
  have hi:=indexByte_while t.data.toList 10
  by_cases hc:t.data.toList.contains 10
  ·rw[if_pos hc] at hi
   have hl:(t.data.toList.takeWhile (· != 10)).length<t.size:=by simpa using while_lt _ _ hc
   refine (cut1_yes t _ W hi hl hs).mono ?_
   rintro e w' ⟨⟨b,c,rfl⟩,hb⟩
   exact⟨⟨_,b,c,rfl,by simp;omega⟩,hb⟩
  ·rw[if_neg hc] at hi
   refine (cut1_no t W hi).mono ?_
   rintro e w' ⟨⟨b,c,rfl⟩,hb⟩
   exact⟨⟨_,b,c,rfl,by rw[while_all _ _ (by simpa using hc)];simp⟩,hb⟩
 have HH:=Hd HC
 clear HC
 go_enter Tryz.func125,Tryz.ntmps125
 go_wp2_with (first
  | (go_at_call 142;refine (HH.out _).mono ?_;rintro e w' ⟨⟨n,b,c,rfl,hn⟩,hb⟩;have HN:=Hd hn;clear hn))
 go_ret3
 exact⟨⟨n,b,c,rfl,HN.out⟩,hb⟩
def blankB (c:UInt8):Bool:=c==9||c==10||c==13||c==32
def skipTo:Nat→ByteArray→Nat→Nat
 | 0,_,k=>k
 | f+1,s,k=>if h:k<s.size then (if blankB s[k] then skipTo f s (k+1) else if s[k]==35 then skipTo f s (scanTo (· != 10) s k) else k) else k
def skip (s:ByteArray) (k:Nat):Nat:=skipTo (s.size-k) s k
theorem scan_hash (s:ByteArray)(k:Nat)(h:k<s.size)(hc:s[k]=35):k+1≤scanTo (· != 10) s k:=by
 rw[←scanTo_yes (· != 10) s k h (by rw[hc];rfl)]
 exact scanTo_ge _ _ _
theorem skipTo_more (s:ByteArray):∀(f k:Nat),s.size-k≤f→skipTo f s k=skip s k:=by
 have H:∀(n f g k:Nat),s.size-k≤n→s.size-k≤f→s.size-k≤g→skipTo f s k=skipTo g s k:=by
  intro n
  induction n with
  | zero =>
   intro f g k hn _ _
   have hk:¬k<s.size:=by omega
   cases f<;>cases g<;>simp[skipTo,hk]
  | succ n ih =>
   intro f g k hn hf hg
   by_cases hk:k<s.size
   ·obtain⟨f,rfl⟩:∃f',f=f'+1:=⟨f-1,by omega⟩
    obtain⟨g,rfl⟩:∃g',g=g'+1:=⟨g-1,by omega⟩
    simp only[skipTo,hk,dif_pos]
    split
    ·exact ih f g (k+1) (by omega) (by omega) (by omega)
    ·split
     ·rename_i _ h35
      have:=scan_hash s k hk (by simpa using h35)
      exact ih f g _ (by omega) (by omega) (by omega)
     ·rfl
   ·cases f<;>cases g<;>simp[skipTo,hk]
 exact fun f k hf=>H _ _ _ k (Nat.le_refl _) hf (Nat.le_refl _)
theorem skip_blank (s:ByteArray)(k:Nat)(h:k<s.size)(hb:blankB s[k]=true):skip s k=skip s (k+1):=by
 conv=>lhs;unfold skip
 rw[show s.size-k=(s.size-(k+1))+1 from by omega]
 simp only[skipTo,h,dif_pos,hb,if_true]
 rfl
theorem skip_hash (s:ByteArray)(k:Nat)(h:k<s.size)(hc:s[k]=35):skip s k=skip s (scanTo (· != 10) s k):=by
 have h1:=scan_hash s k h hc
 conv=>lhs;unfold skip
 rw[show s.size-k=(s.size-(k+1))+1 from by omega]
 have hb:blankB s[k]=false:=by rw[hc];rfl
 have h35:(s[k]==35)=true:=by rw[hc];rfl
 simp only[skipTo,h,dif_pos,hb,h35,if_true,Bool.false_eq_true,if_false]
 exact skipTo_more s _ _ (by omega)
theorem skip_stop (s:ByteArray)(k:Nat)(h:k<s.size)(hb:blankB s[k]=false)(hc:(s[k]==35)=false):skip s k=k:=by
 unfold skip
 rw[show s.size-k=(s.size-(k+1))+1 from by omega]
 simp[skipTo,h,hb,hc]
theorem skip_end (s:ByteArray)(k:Nat)(h:s.size≤k):skip s k=k:=by
 unfold skip
 rw[show s.size-k=0 from by omega]
 rfl
theorem skip_take (s:ByteArray):∀(n k:Nat),s.size-k≤n→skip s (scanTo blankB s k)=skip s k:=by
 intro n
 induction n with
 | zero=>intro k h;rw[scanTo_end _ _ _ (by omega)]
 | succ n ih =>
  intro k h
  by_cases hk:k<s.size
  ·by_cases hb:blankB s[k]=true
   ·rw[←scanTo_yes _ _ _ hk hb,ih (k+1) (by omega),skip_blank s k hk hb]
   ·rw[scanTo_no _ _ _ hk (by simpa using hb)]
  ·rw[scanTo_end _ _ _ (by omega)]
theorem skip_ge (s:ByteArray):∀(n k:Nat),s.size-k≤n→k≤skip s k:=by
 intro n
 induction n with
 | zero=>intro k h;rw[skip_end _ _ (by omega)];exact Nat.le_refl _
 | succ n ih =>
  intro k h
  by_cases hk:k<s.size
  ·by_cases hb:blankB s[k]=true
   ·rw[skip_blank s k hk hb];have:=ih (k+1) (by omega);omega
   ·by_cases hc:s[k]=35
    ·have h1:=scan_hash s k hk hc
     rw[skip_hash s k hk hc];have:=ih (scanTo (· != 10) s k) (by omega);omega
    ·rw[skip_stop s k hk (by simpa using hb) (by simpa using hc)];exact Nat.le_refl _
  ·rw[skip_end _ _ (by omega)];exact Nat.le_refl _
theorem skip_le (s:ByteArray):∀(n k:Nat),s.size-k≤n→k≤s.size→skip s k≤s.size:=by
 intro n
 induction n with
 | zero=>intro k h hk;rw[skip_end _ _ (by omega)];exact hk
 | succ n ih =>
  intro k h hle
  by_cases hk:k<s.size
  ·by_cases hb:blankB s[k]=true
   ·rw[skip_blank s k hk hb];exact ih (k+1) (by omega) (by omega)
   ·by_cases hc:s[k]=35
    ·have h1:=scan_hash s k hk hc
     rw[skip_hash s k hk hc];exact ih _ (by omega) (scanTo_le _ _ _ hle)
    ·rw[skip_stop s k hk (by simpa using hb) (by simpa using hc)];exact hle
  ·rw[skip_end _ _ (by omega)];exact hle
theorem skip_at (s:ByteArray):∀(n k:Nat),s.size-k≤n→∀h:skip s k<s.size,blankB s[skip s k]=false∧(s[skip s k]==35)=false:=by
 intro n
 induction n with
 | zero=>intro k hn h;rw[skip_end _ _ (by omega)] at h;omega
 | succ n ih =>
  intro k hn h
  by_cases hk:k<s.size
  ·by_cases hb:blankB s[k]=true
   ·have e:=skip_blank s k hk hb
    simp only[e] at h ⊢
    exact ih (k+1) (by omega) h
   ·by_cases hc:s[k]=35
    ·have h1:=scan_hash s k hk hc
     have e:=skip_hash s k hk hc
     simp only[e] at h ⊢
     exact ih _ (by omega) h
    ·have e:=skip_stop s k hk (by simpa using hb) (by simpa using hc)
     simp only[e]
     exact⟨by simpa using hb,by simpa using hc⟩
  ·rw[skip_end _ _ (by omega)] at h;omega
theorem one_lit (R Q k:Nat)(s:ByteArray)(w:World)(h:Rdr w R Q s k)(hk:k<s.size)(hs:s.size≤16384)(sets:List ByteArray)(arr:Array Value)(harr:arr=(sets.map Value.string).toArray)(n cap:Nat)(hn:sets.length=n)(hn2:n≤100)
  (x:Bool) (hx:sets.any (hasB · s[k])=x) :
  Calls Tryz.prog 123 #[.pointer (some ⟨R,0,none⟩),.slice (some ⟨w.heap.size,0,none⟩) n cap] (w.alloc (.cells arr 9)) fun e w'=>e=.returned (.bool x)∧Below w.heap.size w w':=by
 subst harr
 have hb:Below w.heap.size w (w.alloc (.cells (sets.map Value.string).toArray 9)):=(Below.refl _ w).alloc (Nat.le_refl _) _
 refine (one_yes R Q k s _ (h.keep hb) hk hs w.heap.size n cap sets (heap_alloc_new w _) hn hn2).mono ?_
 rintro e w' ⟨rfl,hb'⟩
 exact⟨by rw[hx],hb.trans (hb'.mono hb.size)⟩
theorem one_lit_no (R Q k:Nat)(s:ByteArray)(w:World)(h:Rdr w R Q s k)(hk:k=s.size)(hs:s.size≤16384)(arr:Array Value)(sl:Value) :
  Calls Tryz.prog 123 #[.pointer (some ⟨R,0,none⟩),sl] (w.alloc (.cells arr 9)) fun e w'=>e=.returned (.bool false)∧Below w.heap.size w w':=by
 have hb:Below w.heap.size w (w.alloc (.cells arr 9)):=(Below.refl _ w).alloc (Nat.le_refl _) _
 refine (one_no R Q k s _ (h.keep hb) hk hs sl).mono ?_
 rintro e w' ⟨rfl,hb'⟩
 exact⟨rfl,hb.trans (hb'.mono hb.size)⟩
theorem take_lit (R Q k:Nat)(s:ByteArray)(w:World)(h:Rdr w R Q s k)(hk:k≤s.size)(hs:s.size≤16384)(sets:List ByteArray)(arr:Array Value)(harr:arr=(sets.map Value.string).toArray)(n cap:Nat)(hn:sets.length=n)(hn2:n≤100)
  (p:UInt8→Bool) (hp:(fun c=>sets.any (hasB · c))=p) :
  Calls Tryz.prog 127 #[.pointer (some ⟨R,0,none⟩),.slice (some ⟨w.heap.size,0,none⟩) n cap] (w.alloc (.cells arr 9)) fun e w'=>e=.returned (.string (s.extract k (scanTo p s k)))∧w.grownBy w' (some Q)∧Rdr w' R Q s (scanTo p s k):=by
 subst harr
 subst hp
 have hb:Below w.heap.size w (w.alloc (.cells (sets.map Value.string).toArray 9)):=(Below.refl _ w).alloc (Nat.le_refl _) _
 refine (take_any R Q k s _ (h.keep hb) hk hs w.heap.size n cap sets (heap_alloc_new w _) hn hn2).mono ?_
 rintro e w' ⟨rfl,hg,hr⟩
 exact⟨rfl,(World.grownBy_alloc w _ _).trans hg,hr⟩
theorem one_at (R Q k:Nat)(s:ByteArray)(w:World)(h:Rdr w R Q s k)(hk:k<s.size)(hs:s.size≤16384)(sets:List ByteArray)(x:Bool)(hx:sets.any (hasB · s[k])=x)(arr:Array Value)(harr:arr=(sets.map Value.string).toArray)(n cap:Nat)(hn:sets.length=n)(hn2:n≤100)
  (B:Nat) (hB:w.heap.size=B) :
  Calls Tryz.prog 123 #[.pointer (some ⟨R,0,none⟩),.slice (some ⟨B,0,none⟩) n cap] (w.alloc (.cells arr 9)) fun e w'=>e=.returned (.bool x)∧Below w.heap.size w w':=by
 subst hB
 exact one_lit R Q k s w h hk hs sets arr harr n cap hn hn2 x hx
theorem take_at (R Q k:Nat)(s:ByteArray)(w:World)(h:Rdr w R Q s k)(hk:k≤s.size)(hs:s.size≤16384)(sets:List ByteArray)(p:UInt8→Bool)(hp:(fun c=>sets.any (hasB · c))=p)(arr:Array Value)(harr:arr=(sets.map Value.string).toArray)(n cap:Nat)(hn:sets.length=n)(hn2:n≤100)
  (B:Nat) (hB:w.heap.size=B) :
  Calls Tryz.prog 127 #[.pointer (some ⟨R,0,none⟩),.slice (some ⟨B,0,none⟩) n cap] (w.alloc (.cells arr 9)) fun e w'=>e=.returned (.string (s.extract k (scanTo p s k)))∧w.grownBy w' (some Q)∧Rdr w' R Q s (scanTo p s k):=by
 subst hB
 exact take_lit R Q k s w h hk hs sets arr harr n cap hn hn2 p hp
theorem any_blank:(fun c=>[(⟨#[9,10,13,32]⟩:ByteArray)].any (hasB · c))=blankB:=by
 funext c
 show ((([9,10,13,32]:List UInt8).contains c)||false)=_
 simp only[List.contains_cons,List.contains_nil,Bool.or_false,blankB,Bool.or_assoc]
theorem any_hash (c:UInt8):[(⟨#[35]⟩:ByteArray)].any (hasB · c)=(c==35):=by
 show ((([35]:List UInt8).contains c)||false)=_
 simp only[List.contains_cons,List.contains_nil,Bool.or_false]
theorem any_blankhash (c:UInt8):[(⟨#[9,10,13,32]⟩:ByteArray),⟨#[35]⟩].any (hasB · c)=(blankB c||c==35):=by
 rw[←any_hash,←any_blank]
 simp
theorem rest_lit (R Q k:Nat)(s:ByteArray)(w:World)(h:Rdr w R Q s k)(hk:k≤s.size)(hs:s.size≤16384) :
  Calls Tryz.prog 124 #[.pointer (some ⟨R,0,none⟩)] w fun e w'=>(∃t,e=.returned (.string t)∧t.data.toList=s.data.toList.drop k∧t.size=s.size-k)∧Below w.heap.size w w':=by
 refine (rest_b R Q k s w h hk hs).mono ?_
 rintro e w' ⟨rfl,hb⟩
 exact⟨⟨_,rfl,by rw[ByteArray.data_extract,Array.toList_extract];simp[List.extract,List.take_of_length_le],by simp⟩,hb⟩
theorem blank_any (R Q k:Nat)(s:ByteArray)(w:World)(h:Rdr w R Q s k)(hk:k≤s.size)(hs:s.size≤16384) :
  Calls Tryz.prog 97 #[.pointer (some ⟨R,0,none⟩)] w fun e w'=>e=.returned (.tuple #[])∧w.grownBy w' (some Q)∧Rdr w' R Q s (skip s k):=by
 go_enter Tryz.func97,Tryz.ntmps97
 go_wp2_with fail
 go_loopw [33] (fun _ wr=>∃j,k≤j∧j≤s.size∧skip s j=skip s k∧Rdr wr R Q s j∧w.grownBy wr (some Q)) (fun _ wr=>s.size-posOf wr Q)
 case atStart=>exact⟨k,Nat.le_refl _,hk,rfl,h,World.grownBy.refl w _⟩
 case round =>
  obtain⟨j,hkj,hjs,hsk,hr,hg⟩:=hrel
  have HS:=Hd hsk
  clear hsk
  by_cases hj:j<s.size
  ·cases hb:blankB s[j]
   ·cases hc:s[j]==35
    ·have HC:=Hd (one_lit R Q j s wr hr hj hs [⟨#[9,10,13,32]⟩,⟨#[35]⟩] _ rfl 2 2 rfl (by omega) false (by rw[any_blankhash,hb,hc];rfl))
     have HE:=Hd (skip_stop s j hj hb hc)
     clear hb hc
     go_wp2_with (first
      | (go_at_call 123;refine Calls.mono HC.out ?_;rintro e w2 ⟨rfl,hb2⟩))
     go_end0
     rw[←HS.out,HE.out]
     exact⟨rfl,grown_below hg hb2,hr.keep hb2⟩
    ·have HC:=Hd (one_lit R Q j s wr hr hj hs [⟨#[9,10,13,32]⟩,⟨#[35]⟩] _ rfl 2 2 rfl (by omega) true (by rw[any_blankhash,hb,hc];rfl))
     have HH:=Hd hc
     clear hb hc
     go_wp2_with fail
     refine Calls.mono HC.out ?_;rintro e w2 ⟨rfl,hb2⟩
     have hr2:=hr.keep hb2
     have HC2:=Hd (one_lit R Q j s w2 hr2 hj hs [⟨#[35]⟩] _ rfl 1 1 rfl (by omega) true (by rw[any_hash];exact HH.out))
     go_wp2_with fail
     refine Calls.mono HC2.out ?_;rintro e w3 ⟨rfl,hb3⟩
     have hr3:=hr2.keep hb3
     go_wp2_with fail
     refine (rest_lit R Q j s w3 hr3 hjs hs).mono ?_;rintro e w4 ⟨⟨t,rfl,htl,hts⟩,hb4⟩
     have hr4:=hr3.keep hb4
     have HT:=Hd htl
     have HTs:=Hd hts
     have htle:t.size≤16384:=by omega
     clear htl hts
     go_wp2_with fail
     refine (cut_any t w4 htle).mono ?_;rintro e w5 ⟨⟨nn,b,c,rfl,hnn⟩,hb5⟩
     have hr5:=hr4.keep hb5
     have HN:=Hd hnn
     have hn1:j+nn.size=scanTo (· != 10) s j:=by unfold scanTo;rw[hnn,HT.out]
     have hn2:scanTo (· != 10) s j≤s.size:=scanTo_le _ _ _ hjs
     have hn3:j+nn.size≤s.size:=by omega
     have HN1:=Hd hn1
     have hg5:w.grownBy w5 (some Q):=grown_below (grown_below (grown_below (grown_below hg hb2) hb3) hb4) hb5
     have hn4:j<j+nn.size:=by rw[hn1];exact scan_hash s j hj (by simpa using HH.out)
     clear hn1 hn2 hnn
     go_wp2_with fail
     go_loopw [22] (fun i wi=>∃m:Nat,m≤nn.size∧i=.int .i64 m∧Rdr wi R Q s (j+m)∧w.grownBy wi (some Q)) (fun i _=>nn.size-(intOf i).toNat)
     case atStart=>exact⟨0,Nat.zero_le _,rfl,hr5,hg5⟩
     case round =>
      obtain⟨m,hm,rfl,hrm,hgm⟩:=hrel
      by_cases hlt:m<nn.size
      ·obtain⟨r0,r1,q0,q1,⟨p,q2⟩,f1,f2,hRl,hQl⟩:=hrm.cells
       obtain⟨p',hQ2⟩:=hrm.q
       have HQ2:=Hd hQ2
       clear hQ2
       go_wp2_with (first
        | (go_at_call 126;refine (readb_any Q (j+m) _ s _ HQ2.out (by omega) hs).mono ?_;rintro e w6 ⟨rfl,hg6,hQ6⟩;have HQ6:=Hd hQ6;clear hQ6))
       go_roundw
       case rel=>exact⟨m+1,by omega,by go_num,hrm.grown hg6 HQ6.out,World.grownBy.trans hgm hg6⟩
       case measure=>simp[intOf];omega
      ·obtain rfl:m=nn.size:=by omega
       go_wp2_with fail
       refine (take_lit R Q (j+nn.size) s _ hrm hn3 hs [⟨#[9,10,13,32]⟩] _ rfl 1 1 rfl (by omega) blankB any_blank).mono ?_
       rintro e w7 ⟨rfl,hg7,hr7⟩
       have HP:=Hd (skip_take s _ (j+nn.size) (Nat.le_refl _))
       have hge:=scanTo_ge blankB s (j+nn.size)
       have hle:=scanTo_le blankB s (j+nn.size) hn3
       generalize scanTo blankB s (j+nn.size)=j2 at *
       go_wp2_with fail
       refine⟨⟨j2,by omega,hle,?_,hr7,World.grownBy.trans hgm hg7⟩,?_⟩
       ·rw[HP.out,HN1.out,←skip_hash s j hj (by simpa using HH.out)];exact HS.out
       ·rw[hr7.pos,hr.pos];omega
   ·have HC:=Hd (one_lit R Q j s wr hr hj hs [⟨#[9,10,13,32]⟩,⟨#[35]⟩] _ rfl 2 2 rfl (by omega) true (by rw[any_blankhash,hb];rfl))
    have hnh:(s[j]==35)=false:=by
     cases hh:s[j]==35
     ·rfl
     ·exfalso
      have e:s[j]=35:=by simpa using hh
      rw[e] at hb;cases hb
    have HH:=Hd hnh
    have hj1:j<scanTo blankB s j:=by
     have:=scanTo_ge blankB s (j+1)
     rw[scanTo_yes blankB s j hj hb] at this;omega
    clear hb hnh
    go_wp2_with fail
    refine Calls.mono HC.out ?_;rintro e w2 ⟨rfl,hb2⟩
    have hr2:=hr.keep hb2
    have HC2:=Hd (one_lit R Q j s w2 hr2 hj hs [⟨#[35]⟩] _ rfl 1 1 rfl (by omega) false (by rw[any_hash];exact HH.out))
    go_wp2_with fail
    refine Calls.mono HC2.out ?_;rintro e w3 ⟨rfl,hb3⟩
    have hr3:=hr2.keep hb3
    have HT:=Hd (take_lit R Q j s w3 hr3 hjs hs [⟨#[9,10,13,32]⟩] _ rfl 1 1 rfl (by omega) blankB any_blank)
    have HP:=Hd (skip_take s _ j (Nat.le_refl _))
    have hle:=scanTo_le blankB s j hjs
    generalize scanTo blankB s j=j2 at *
    go_wp2_with fail
    refine Calls.mono HT.out ?_;rintro e w7 ⟨rfl,hg7,hr7⟩
    go_wp2_with fail
    refine⟨⟨j2,by omega,hle,?_,hr7,World.grownBy.trans (grown_below (grown_below hg hb2) hb3) hg7⟩,?_⟩
    ·rw[HP.out];exact HS.out
    ·rw[hr7.pos,hr.pos];omega
  ·have hjj:j=s.size:=by omega
   have HE:=Hd (skip_end s j (by omega))
   have HC:=Hd (one_lit_no R Q j s wr hr hjj hs #[.string ⟨#[9,10,13,32]⟩,.string ⟨#[35]⟩] (.slice (some ⟨wr.heap.size,0,none⟩) 2 2))
   clear hjj
   go_wp2_with (first
    | (go_at_call 123;refine Calls.mono HC.out ?_;rintro e w2 ⟨rfl,hb2⟩))
   go_end0
   rw[←HS.out,HE.out]
   exact⟨rfl,grown_below hg hb2,hr.keep hb2⟩
def isDig (c:UInt8):Bool:=decide (48≤c.toNat)&&decide (c.toNat≤57)
def maxI:Nat:=9223372036854775807
def numGo:Nat→List UInt8→Option Nat
 | n,[]=>some n
 | n,c::r=>if isDig c&&decide (10*n+(c.toNat-48)≤maxI) then numGo (10*n+(c.toNat-48)) r else none
def number (l:List UInt8):Option Nat:=if l.isEmpty then none else numGo 0 l
theorem conv_bytes (s:ByteArray)(w:World):∃c w',(convert 9 164 (.string s)).run Tryz.prog w=.ok (.slice (some ⟨w.heap.size,0,none⟩) s.size c) w'∧Below w.heap.size w w' ∧
  ∀j (hj:j<s.size),w'.cell? ⟨w.heap.size,j,none⟩=some (.int .u8 (s[j].toNat:Int)):=by
 refine⟨_,_,run_bytes_of_string w 9 164 5 s Tryz.underlying9 Tryz.underlying164 Tryz.underlying5,(Below.refl _ w).drew.alloc (Nat.le_refl _) _,fun j hj=>?_⟩
 have h:(w.drew.alloc (.cells (bytesRow s (grownCap w s.size 0 5)) 5 ((bytesRow s (grownCap w s.size 0 5)).size,(bytesRow s (grownCap w s.size 0 5)).size+1))).heap[w.heap.size]? = _:=heap_alloc_new w.drew _
 unfold World.cell?
 rw[h]
 exact bytesRow_at s _ j hj
theorem numGo_yes (s:ByteArray)(k m:Nat)(h:k<s.size)(hd:isDig s[k]=true)(hm:10*m+(s[k].toNat-48)≤maxI) :
  numGo m (s.data.toList.drop k)=numGo (10*m+(s[k].toNat-48)) (s.data.toList.drop (k+1)):=by
 rw[drop_cons s k h];simp only[numGo,hd,Bool.true_and,decide_eq_true_eq,hm,if_true]
theorem numGo_no (s:ByteArray)(k m:Nat)(h:k<s.size)(hd:isDig s[k]=false∨maxI<10*m+(s[k].toNat-48)) :
  numGo m (s.data.toList.drop k)=none:=by
 rw[drop_cons s k h]
 simp only[numGo]
 rw[if_neg]
 rcases hd with hd|hd
 ·simp[hd]
 ·simp only[Bool.and_eq_true,decide_eq_true_eq,not_and];intro _;omega
theorem number_of (s:ByteArray)(h:0<s.size):number s.data.toList=numGo 0 s.data.toList:=by
 unfold number
 rw[if_neg]
 have:=bne_of_size s h
 rw[ByteArray.toList_eq] at this
 rw[this];simp
theorem number_nil (s:ByteArray)(h:s.size=0):number s.data.toList=none:=by
 have e:s.data.toList=[]:=by
  have h2:s.data.toList.length=0:=by rw[Array.length_toList];exact h
  exact List.eq_nil_of_length_eq_zero h2
 rw[e];rfl
theorem number_big (s:ByteArray)(w:World)(hs:s.size≤100000) :
  Calls Tryz.prog 53 #[.string s] w fun e w'=>e=.returned (.tuple #[.int .i64 (((number s.data.toList).getD 0:Nat):Int),.bool (number s.data.toList).isSome])∧Below w.heap.size w w':=by
 obtain⟨c,w1,hrun,hb1,hcell⟩:=conv_bytes s w
 have HC:=Hd hcell
 clear hcell
 have hfin:∀(o:Option Nat),number s.data.toList=o→∀(e:Ending) (w':World),e=.returned (.tuple #[.int .i64 ((o.getD 0:Nat):Int),.bool o.isSome])→Below w.heap.size w w'→(e=.returned (.tuple #[.int .i64 (((number s.data.toList).getD 0:Nat):Int),.bool (number s.data.toList).isSome])∧Below w.heap.size w w'):=by
  intro o ho e w' he hb;rw[ho];exact⟨he,hb⟩
 have HF:=Hd hfin
 clear hfin
 go_enter Tryz.func53,Tryz.ntmps53
 go_wp2
 clear hrun
 go_loopw [4,11] (fun n i wr=>∃(k m:Nat),k≤s.size∧i=.int .i64 k∧n=.int .i64 m∧m≤9223372036854775807∧numGo m (s.data.toList.drop k)=numGo 0 s.data.toList∧wr=w1) (fun _ i _=>s.size-(intOf i).toNat)
 case atStart=>exact⟨0,0,Nat.zero_le _,rfl,rfl,by omega,rfl,rfl⟩
 case round =>
  obtain⟨k,m,hk,rfl,rfl,hm,hnum,rfl⟩:=hrel
  have HN:=Hd hnum
  clear hnum
  by_cases hlt:k<s.size
  ·have hck:=HC.out k hlt
   have hd:=s[k].toNat_lt
   have HY:=Hd (numGo_yes s k m hlt)
   have HO:=Hd (numGo_no s k m hlt)
   have HD:Hid (isDig s[k]=(decide (48≤s[k].toNat)&&decide (s[k].toNat≤57))):=rfl
   generalize isDig s[k]=dg at *
   generalize s[k].toNat=d at *
   have hdg:∀h:48≤d∧d≤57,dg=true:=fun h=>by rw[HD.out];simp[h.1,h.2]
   have hdn:∀h:¬(48≤d∧d≤57),dg=false:=fun h=>by rw[HD.out];simp;omega
   have HDG:=Hd hdg
   have HDN:=Hd hdn
   clear hdg hdn
   have hno:(dg=false∨maxI<10*m+(d-48))→number s.data.toList=none:=fun h=>by
    rw[number_of s (by omega),←HN.out];exact HO.out h
   have HNO:=Hd hno
   clear hno
   go_wp2
   ·go_ret2
    have h2:9223372036854775807<10*m+(d-48):=by omega
    exact HF.out none (HNO.out (.inr h2)) _ _ rfl hb1
   ·have h2:10*m+(d-48)≤9223372036854775807:=by omega
    refine⟨⟨k+1,10*m+(d-48),by omega,by go_num,?_,h2,?_,by trivial⟩,by simp[intOf];omega⟩
    ·congr 1;omega
    ·rw[←HY.out (HDG.out (by omega)) h2];exact HN.out
   ·go_ret2
    exact HF.out none (HNO.out (.inl (HDN.out (by omega)))) _ _ rfl hb1
   ·go_ret2
    exact HF.out none (HNO.out (.inl (HDN.out (by omega)))) _ _ rfl hb1
  ·obtain rfl:k=s.size:=by omega
   rcases Nat.eq_zero_or_pos s.size with h0|h0
   ·have hm0:m=0:=by
     have h1:=HN.out
     have e:s.data.toList=[]:=List.eq_nil_of_length_eq_zero (by rw[Array.length_toList];exact h0)
     rw[e] at h1
     simp[numGo] at h1
     exact h1
    have he:s.toList.isEmpty=true:=by
     rw[ByteArray.toList_eq,List.eq_nil_of_length_eq_zero (l:=s.data.toList) (by rw[Array.length_toList];exact h0)];rfl
    have HH0:=Hd h0
    subst hm0
    clear h0
    go_wp2
    go_ret2
    exact HF.out none (number_nil s HH0.out) _ _ rfl hb1
   ·have he:s.toList.isEmpty=false:=bne_of_size s h0
    have hv:number s.data.toList=some m:=by
     rw[number_of s h0,←HN.out,drop_end s _ (Nat.le_refl _)];rfl
    have HV:=Hd hv
    clear hv
    go_wp2
    go_ret2
    exact HF.out _ HV.out _ _ rfl hb1
theorem number_any (s:ByteArray)(w:World)(hs:s.size≤16384) :
  Calls Tryz.prog 53 #[.string s] w fun e w'=>e=.returned (.tuple #[.int .i64 (((number s.data.toList).getD 0:Nat):Int),.bool (number s.data.toList).isSome])∧Below w.heap.size w w':=number_big s w (by omega)
theorem all_u8 (p:UInt8→Bool)(h:(List.range 256).all (fun n=>p (UInt8.ofNat n))=true)(c:UInt8):p c=true:=by
 have h1:=List.all_eq_true.1 h c.toNat (List.mem_range.2 c.toNat_lt)
 simpa using h1
def isLow (c:UInt8):Bool:=decide (97≤c.toNat)&&decide (c.toNat≤122)
def isOn (c:UInt8):Bool:=isLow c||isDig c||c==95
def lettersB:ByteArray:=⟨#[97,98,99,100,101,102,103,104,105,106,107,108,109,110,111,112,113,114,115,116,117,118,119,120,121,122]⟩
def digitsB:ByteArray:=⟨#[48,49,50,51,52,53,54,55,56,57]⟩
def moreB:ByteArray:=⟨#[97,98,99,100,101,102,103,104,105,106,107,108,109,110,111,112,113,114,115,116,117,118,119,120,121,122,48,49,50,51,52,53,54,55,56,57,95]⟩
theorem has_letters (c:UInt8):hasB lettersB c=isLow c:=by
 have:=all_u8 (fun c=>hasB lettersB c==isLow c) (by kernel_rfl) c
 simpa using this
theorem has_digits (c:UInt8):hasB digitsB c=isDig c:=by
 have:=all_u8 (fun c=>hasB digitsB c==isDig c) (by kernel_rfl) c
 simpa using this
theorem has_more (c:UInt8):hasB moreB c=isOn c:=by
 have:=all_u8 (fun c=>hasB moreB c==isOn c) (by kernel_rfl) c
 simpa using this
def namedB (l:List UInt8):Bool:=
 match l with
 | []=>false
 | c::_=>decide (l.length≤24)&&isLow c
theorem named_any (s:ByteArray)(w:World)(hs:s.size≤16384) :
  Calls Tryz.prog 129 #[.string s] w fun e w'=>e=.returned (.bool (namedB s.data.toList))∧w=w':=by
 rcases Nat.eq_zero_or_pos s.size with h0|h0
 ·have e:s.data.toList=[]:=List.eq_nil_of_length_eq_zero (by rw[Array.length_toList];exact h0)
  have he:s.toList.isEmpty=true:=by rw[ByteArray.toList_eq,e];rfl
  have HE:=Hd e
  clear e h0
  go_enter Tryz.func129,Tryz.ntmps129
  go_wp2
  go_ret
  rw[HE.out]
  exact⟨rfl,rfl⟩
 ·have he:s.toList.isEmpty=false:=bne_of_size s h0
  have hd:s.data.toList=s[0]::s.data.toList.drop 1:=by
   have:=drop_cons s 0 h0
   simpa using this
  have hn:namedB s.data.toList=(decide (s.size≤24)&&hasB lettersB s[0]):=by
   rw[has_letters,hd];unfold namedB;simp only[←hd,Array.length_toList];rfl
  have HN:=Hd hn
  have HC:=Hd ((strings_IndexByte' lettersB s[0] w).mono (R':=fun e w'=>(∃i:Int,e=.returned (.int .i64 i)∧decide (0≤i)=hasB lettersB s[0])∧w=w') (fun e w' hh=>⟨⟨_,hh.1,indexbyte_has _ _⟩,hh.2⟩))
  clear hn hd
  go_enter Tryz.func129,Tryz.ntmps129
  by_cases hl:s.size≤24
  ·go_wp2_with (first
    | (go_at_call 92;refine Calls.mono HC.out ?_;rintro e w' ⟨⟨i,rfl,hi⟩,rfl⟩;have HI:=Hd hi;clear hi))
   go_ret
   rw[HN.out,←HI.out]
   exact⟨by simp[hl],rfl⟩
  ·go_wp2
   go_ret
   rw[HN.out]
   exact⟨by simp[hl],rfl⟩
def AsciiTab (w:World):Prop:=∀c:Nat,c<256→w.cell? ⟨0,c,none⟩=some (.int .u8 (if Lib.isSp (UInt8.ofNat c) then 1 else 0))
theorem AsciiTab.lt {w:World}(h:AsciiTab w):0<w.heap.size:=by
 have h0:=h 0 (by omega)
 unfold World.cell? at h0
 rcases Nat.lt_or_ge 0 w.heap.size with h1|h1
 ·exact h1
 ·rw[Array.getElem?_eq_none h1] at h0;cases h0
theorem AsciiTab.block {w w':World}(h:AsciiTab w)(hb:w'.heap[(0:Nat)]? = w.heap[(0:Nat)]?):AsciiTab w':=
 fun c hc=>(World.cell?_of_block (a:=⟨0,c,none⟩) hb).trans (h c hc)
theorem AsciiTab.below {w w':World}(h:AsciiTab w)(hb:Below w.heap.size w w'):AsciiTab w':=h.block (hb.block _ h.lt)
theorem AsciiTab.grown {w w':World}{g:Nat}(h:AsciiTab w)(hb:w.grownBy w' (some g))(hg:g≠0):AsciiTab w':=
 h.block (hb.block _ h.lt (fun e=>by injection e with e;exact hg e.symm))
theorem fields_const (s:ByteArray)(L:List ByteArray)(hL:(Lib.fields s.data.toList).map (fun l=>Value.string ⟨l.toArray⟩)=L.map Value.string)(hs:s.size<4294967281)(hascii:s.data.toList.all (fun b=>decide (b.toNat<128))=true)(w:World)(ht:AsciiTab w) :
  Calls Tryz.prog 109 #[.string s] w fun e w'=>e=.returned (.slice (some ⟨w.heap.size,0,none⟩) L.length L.length)∧w'=w.alloc (.cells (L.map Value.string).toArray 9):=by
 have hlen:(Lib.fields s.data.toList).length=L.length:=by
  have:=congrArg List.length hL
  simpa using this
 refine (Any.strings_Fields_core Tryz.lays157 (by kernel_rfl) s w hs (fun j b hb=>?_) ht).mono ?_
 ·have:=List.all_eq_true.1 hascii b (List.mem_of_getElem? hb)
  simpa using this
 ·rintro e w' ⟨he,hw⟩
  rw[hlen] at he
  rw[hL] at hw
  exact⟨he,hw⟩
def wordsL:List ByteArray:=[⟨#[102,97,99,116]⟩,⟨#[114,117,108,101]⟩,⟨#[115,97,108,105,101,110,99,101]⟩,⟨#[110,111,116]⟩,⟨#[116,101,115,116]⟩,⟨#[97,115,115,101,114,116]⟩,⟨#[114,101,116,114,97,99,116]⟩,⟨#[115,97,121]⟩,⟨#[104,97,108,116]⟩,⟨#[97,110,100]⟩,⟨#[111,114]⟩]
def wordsS:ByteArray:=⟨#[102,97,99,116,32,114,117,108,101,32,115,97,108,105,101,110,99,101,32,110,111,116,32,116,101,115,116,32,97,115,115,101,114,116,32,114,101,116,114,97,99,116,32,115,97,121,32,104,97,108,116,32,97,110,100,32,111,114]⟩
def signsL:List ByteArray:=[⟨#[61,62]⟩,⟨#[33,61]⟩,⟨#[60,61]⟩,⟨#[62,61]⟩,⟨#[40]⟩,⟨#[41]⟩,⟨#[123]⟩,⟨#[125]⟩,⟨#[44]⟩,⟨#[59]⟩,⟨#[61]⟩,⟨#[60]⟩,⟨#[62]⟩,⟨#[43]⟩,⟨#[45]⟩,⟨#[42]⟩,⟨#[95]⟩]
def signsS:ByteArray:=⟨#[61,62,32,33,61,32,60,61,32,62,61,32,40,32,41,32,123,32,125,32,44,32,59,32,61,32,60,32,62,32,43,32,45,32,42,32,95]⟩
theorem fields_words (w:World)(ht:AsciiTab w) :
  Calls Tryz.prog 109 #[.string wordsS] w fun e w'=>e=.returned (.slice (some ⟨w.heap.size,0,none⟩) 11 11)∧w'=w.alloc (.cells (wordsL.map Value.string).toArray 9):=
 fields_const wordsS wordsL (by kernel_rfl) (by decide) (by kernel_rfl) w ht
theorem fields_signs (w:World)(ht:AsciiTab w) :
  Calls Tryz.prog 109 #[.string signsS] w fun e w'=>e=.returned (.slice (some ⟨w.heap.size,0,none⟩) 17 17)∧w'=w.alloc (.cells (signsL.map Value.string).toArray 9):=
 fields_const signsS signsL (by kernel_rfl) (by decide) (by kernel_rfl) w ht
theorem words_any (w:World)(ht:AsciiTab w) :
  Calls Tryz.prog 84 #[] w fun e w'=>e=.returned (.slice (some ⟨w.heap.size,0,none⟩) 11 11)∧w'=w.alloc (.cells (wordsL.map Value.string).toArray 9):=by
 have HC:=Hd (fields_words w ht)
 go_enter Tryz.func84,Tryz.ntmps84
 go_wp2_with (first
  | (go_at_call 109;refine Calls.mono HC.out ?_;rintro e w' ⟨rfl,rfl⟩))
 go_ret
 exact⟨rfl,rfl⟩
def wordB (l:List UInt8):Bool:=wordsL.any (fun b=>b.data.toList==l)
theorem wordB_iff (x:ByteArray):Lib.containsS wordsL x=wordB x.data.toList:=by
 rw[Bool.eq_iff_iff,Lib.containsS_iff,wordB,List.any_eq_true]
 constructor
 ·intro h;exact⟨x,h,by simp⟩
 ·rintro ⟨y,hy,he⟩
  have e:y=x:=by
   have h1:y.data.toList=x.data.toList:=by simpa using he
   have h2:y.data=x.data:=Array.toList_inj.1 h1
   exact ByteArray.ext h2
  rwa [←e]
theorem contains_words (B c:Nat)(x:ByteArray)(w:World)(h:w.heap[B]? = some (.cells (wordsL.map Value.string).toArray 9 (0,0))) :
  Calls Tryz.prog 83 #[.slice (some ⟨B,0,none⟩) 11 c,.string x] w fun e w'=>e=.returned (.bool (wordB x.data.toList))∧w=w':=by
 refine (Tryz.slices_Contains_string B 0 11 c wordsL x w (by decide) (by decide) (fun j hj=>?_)).mono ?_
 ·rw[Nat.zero_add,cell_of_row _ _ _ _ _ _ h]
  simp[List.getD_eq_getElem?_getD,List.getElem?_eq_getElem hj]
 ·rintro e w' ⟨rfl,hw⟩
  refine⟨?_,hw.symm⟩
  rw[show wordsL.take 11=wordsL from rfl,wordB_iff]
end Go.Proofs.YtglbjooofdnbkaaGreatDoor
