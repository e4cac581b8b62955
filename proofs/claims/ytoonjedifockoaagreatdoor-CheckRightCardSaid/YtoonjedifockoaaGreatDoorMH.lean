/- Parts of one proof, joined; conditions stand in each theorem. -/
import Derived.Test.YtoonjedifockoaaGreatDoorMC
import Derived.Test.YtoonjedifockoaaGreatDoorMG
namespace Go.Proofs.YtoonjedifockoaaGreatDoor
open Go.IntKind(i64)
open Go.Value(int string slice)
set_option maxHeartbeats 1000000
set_option maxRecDepth 100000
open Go.RowKit
theorem uZ(l:List Tok)(i:Nat)(t:Tok)(h:l[i]?=some t):(bO l)[3*i]?=some (int .u8 t.1)∧(bO l)[3*i+1]?=some (.string t.2.1)∧(bO l)[3*i+2]?=some (int i64 t.2.2):=by
 induction l generalizing i with
 | nil=>simp at h
 | cons a r c =>
  have e:bO (a::r)=fl a++bO r:=rfl;have b:(fl a).length=3:=rfl
  cases i with
  | zero =>
   obtain rfl:a=t:=by simpa using h
   rw[e];exact⟨rfl,rfl,rfl⟩
  | succ i =>
   have d:r[i]?=some t:=by simpa using h
   obtain⟨a1,a2,a3⟩:=c i d;rw[e];refine⟨?_,?_,?_⟩
   ·rw[EZ (by omega),b,show 3*(i+1)-3=3*i from by omega];exact a1
   ·rw[EZ (by omega),b,show 3*(i+1)+1-3=3*i+1 from by omega];exact a2
   ·rw[EZ (by omega),b,show 3*(i+1)+2-3=3*i+2 from by omega];exact a3
theorem DZ{w:World}{B n:Nat}{v:Value}{l:List Tok}(h:w.ownsRow B 108 3 v n (bO l))(q:0<n) :
  ∃g cap,v=slice (some ⟨g,0,none⟩) n cap∧g<w.heap.size∧B≤g∧∀i t,l[i]?=some t→w.cell? ⟨g,i*3,none⟩=some (int .u8 t.1)∧w.cell? ⟨g,i*3+1,none⟩=some (.string t.2.1)∧w.cell? ⟨g,i*3+2,none⟩=some (int i64 t.2.2):=by
 obtain⟨g,cap,rfl,hB,a⟩:∃g cap,v=slice (some ⟨g,0,none⟩) n cap∧B≤g∧g<w.heap.size:=by
  rcases h.2 with ⟨_,rfl⟩|⟨g,cap,cur,rfl,m,o,_⟩
  ·omega
  ·exact⟨g,cap,rfl,m,(Ez.1 o).1⟩
 refine⟨g,cap,rfl,a,hB,fun i t p=>?_⟩;obtain⟨a1,a2,a3⟩:=uZ l i t p;have b:=h.cells (g:=g) rfl;have e:∀j,((⟨g,0,none⟩:Addr).add j)=⟨g,j,none⟩:=fun j=>by
  unfold Addr.add
  by_cases c:j=0
  ·rw[n9 c,c]
  ·rw[n8 c];simp
 have d:=b _ _ a1;have f:=b _ _ a2;have k:=b _ _ a3;rw[e]at d f k;rw[Nat.mul_comm 3 i]at d f k;exact⟨d,f,k⟩
theorem zD(s:ByteArray)(w:World)(a:s.size≤16384)(b:aM w)(o:List Tok×Option (Nat×Nat))(c:aE s 0=o) :
  Calls Tryz.prog 46 #[.string s] w fun e W=>Ft w W∧
   ((o.2=none∧∃v,e=.returned (.tuple #[v,.agg #[int i64 0,int i64 0]])∧W.ownsRow w.heap.size 108 3 v (o.1.length+1) (bO (o.1++[(7,⟨#[]⟩,s.size)])))∨
    ∃er pl,o.2=some (er,pl)∧e=.returned (.tuple #[slice none 0 0,.agg #[int i64 er,int i64 pl]])):=by
 subst c;exact px s w a b
theorem AT(s:ByteArray):∀(f k er pl:Nat),(toks f s k).2=some (er,pl)→er≠0:=by
 intro f
 induction f with
 | zero=>intro k er pl h;cases h
 | succ f a =>
  intro k er pl h;unfold toks at h
  split at h
  ·split at h
   ·exact a _ _ _ h
   ·rename_i b
    injection h with h
    injection h with c d
    subst c;exact b
  ·cases h
theorem sw(s:ByteArray)(k er pl:Nat)(h:(aE s k).2=some (er,pl)):er≠0:=AT s _ k er pl h
def Au(t:ByteArray) (w:World) (e:Ending) (w':World):Prop:=
 Ft w w'∧∃p n c er at',e=.returned (.tuple #[.slice p n c,.agg #[int i64 er,int i64 at']])∧(0:Int)≤er∧
  ((er≠0∧iM t=false)∨(er=0∧n≠2∧iM t=false)∨(er=0∧n=2∧∃g tx,p=some ⟨g,0,none⟩∧g<w'.heap.size∧w'.cell? ⟨g,1,none⟩=some (.string tx)∧iM t=(tx.toList==t.toList)))
theorem zo(t:ByteArray)(w:World)(m:aM w):Calls Tryz.prog 46 #[.string (aQ t)] w (Au t w):=by
 by_cases j:(aQ t).size≤16384
 ·refine (zD (aQ t) w j m _ rfl).mono ?_;rintro e W ⟨c,(⟨a,v,rfl,b⟩|⟨er,pl,a,rfl⟩)⟩
  ·obtain⟨g,cap,rfl,n,_,k⟩:=DZ b (by omega);refine⟨c,_,_,_,_,_,rfl,by omega,?_⟩
   right
   by_cases d:(aE (aQ t) 0).1.length=1
   ·right
    refine⟨rfl,by omega,?_⟩;generalize i:aE (aQ t) 0=o at *;obtain⟨l,f⟩:=o;dsimp only at a d k
    match l,d with
    | [x],_ =>
     refine⟨g,x.2.1,rfl,n,(k 0 x rfl).2.1,?_⟩;unfold iM;rw[i];dsimp only;rw[a];simp[EN]
   ·left
    refine⟨rfl,by omega,?_⟩;unfold iM;rw[Bool.and_eq_false_iff]
    right
    rw[oX];intro h;have:=oT List.length h;rw[List.length_map]at this;exact d this
  ·refine⟨c,_,_,_,_,_,rfl,by omega,Or.inl ⟨by have:=sw _ _ _ _ a;omega,?_⟩⟩;unfold iM;rw[a];rfl
 ·refine (nW (aQ t) w (by omega)).mono ?_;rintro e W ⟨rfl,c⟩;refine⟨c,_,_,_,_,_,rfl,by omega,Or.inl ⟨by omega,?_⟩⟩;rw[fx,vd _ (by rw[kP]at j;omega)]
theorem Do{w:World}{T:Nat}{a b:Value}{t:TypeId}(h:w.heap[T]?=some (.cells #[a,b] t (0,0))) :
  w.cell? ⟨T,0,none⟩=some a∧w.cell? ⟨T,1,none⟩=some b∧w.frozen? ⟨T,0,none⟩=false∧w.frozen? ⟨T,1,none⟩=false:=by
 simp[World.cell?,World.frozen?,h]
theorem yV(t:ByteArray):aQ t=(⟨#[39]⟩:ByteArray)++t:=by
 apply ByteArray.ext;apply Array.toList_inj.1;rw[nN,ByteArray.data_append,Array.toList_append];rfl
theorem sd(kd:Nat)(t:ByteArray)(nm pl:Int)(p:Option Addr)(n c:Nat)(word:Bool)(w:World)(K:aM w)(L:t.size≤72007) :
  Calls Tryz.prog 153 #[.agg #[int .u8 kd,.string t,int i64 nm,int i64 pl,.slice p n c],.bool word] w (ap (bv t.data.toList&&(word||!jI t.data.toList)) w):=by
 have k:Ft w (w.alloc (.cells #[int .u8 kd,.string t,int i64 nm,int i64 pl,.slice p n c] 144)):=(EB _ w).alloc (EA _) _;have V:=n7 w (.cells #[int .u8 kd,.string t,int i64 nm,int i64 pl,.slice p n c] 144);have z:w.heap.size<(w.alloc (.cells #[int .u8 kd,.string t,int i64 nm,int i64 pl,.slice p n c] 144)).heap.size:=by simp
 have M:=zo t _ (K.below k);rw[yV]at M;have W:=Hd M;clear M;have A:=Hd (K.below k);have X:=Hd V;have u:=Hd k;have B:=Hd z;clear K V k z
 go_enter Tryz.func153,Tryz.ntmps153
 go_wp2_with fail
 refine EJ W.o ?_;rintro e w1 ⟨l,p',Z,c',er,at',rfl,N,i⟩;have a:=Hd i;have H1:=Hd (aa l X.o B.o);have v:=Hd (u.o.trans (l.mono u.o.size));have C:=Hd (A.o.below l);clear i l W A;go_wp2_with fail
 have j:=(EB _ w1).alloc (EA _) (.cells #[int i64 er,int i64 at'] 32);have D:w.heap.size<w1.heap.size:=(Ez.1 H1.o).1;have O:=Hd (aa j H1.o D);have P:=Hd (n7 w1 (.cells #[int i64 er,int i64 at'] 32));have d:=Hd (v.o.trans (j.mono v.o.size));have Q:=Hd (C.o.below j);have E:=Hd (fun g tx (m:g<w1.heap.size) (r:w1.cell? ⟨g,1,none⟩=some (.string tx))=>(j.cell (p:=⟨g,1,none⟩) m).trans r);generalize w1.alloc (.cells #[int i64 er,int i64 at'] 32)=h at *;obtain⟨f0,f1,_,_⟩:=Do P.o;obtain⟨b0,y,b2,b3,b4⟩:=cells5 O.o;have F:=fun x:Wb h=>x.cell f0
 have G:=fun x:Wb h=>x.cell y
 clear j f1 b0 b2 b3 b4;rcases a.o with ⟨m,r⟩|⟨m,r,q⟩|⟨m,r,g,tx,rfl,Y,J,q⟩
 ·have he:(er==0)=false:=by simpa using m
  have s:=Hd r;clear m r a f0 y;refine ae (by kernel_rfl) (by kernel_rfl) ?_
  repeat (go_big_quiet_step (fail))
  refine wpQuiet_nil ?_;intro W2 b;have f:=Hd (d.o.trans ((az b).mono d.o.size));clear b F G;go_wp2_with fail
  go_ret;exact⟨bN (by rw[←fx,s.o];rfl),f.o⟩
 ·have he:(er==0)=true:=by simpa using m
  have ad:((Z:Int)==2)=false:=by simp;omega
  have s:=Hd q;clear m r q a f0 y;refine ae (by kernel_rfl) (by kernel_rfl) ?_
  repeat (go_big_quiet_step (fail))
  refine wpQuiet_nil ?_;intro W2 b;have f:=Hd (d.o.trans ((az b).mono d.o.size));clear b F G;go_wp2_with fail
  go_ret;exact⟨bN (by rw[←fx,s.o];rfl),f.o⟩
 ·subst m;subst r;have gc:=E.o g tx Y J;have R:=fun x:Wb h=>x.cell gc
  cases H:(tx.toList==t.toList)
  ·rw[H]at q;have s:=Hd q;clear q a f0 y J gc;refine ae (by kernel_rfl) (by kernel_rfl) ?_
   repeat (go_big_quiet_step (fail))
   refine wpQuiet_nil ?_;intro W2 b;have f:=Hd (d.o.trans ((az b).mono d.o.size));clear b F G R;go_wp2_with fail
   go_ret;exact⟨bN (by rw[←fx,s.o];rfl),f.o⟩
  ·rw[H]at q;have s:=Hd q;clear q a
   cases word
   ·clear F G R;have S:w.heap.size<h.heap.size:=(Ez.1 O.o).1;have T:w1.heap.size<h.heap.size:=(Ez.1 P.o).1;have U:g<h.heap.size:=by omega
    clear E u B X H1 v C O P D Y L N
    go_region_held3 (fun w'=>w'.cell? ⟨w.heap.size,1,none⟩=some (.string t)∧w'.cell? ⟨w1.heap.size,0,none⟩=some (int i64 0)∧w'.cell? ⟨g,1,none⟩=some (.string tx))
     (first
      | (exact⟨by assumption,by assumption,by assumption⟩)
      | (exact⟨(World.cell?_alloc_lt h _ ⟨w.heap.size,1,none⟩ S).trans y,(World.cell?_alloc_lt h _ ⟨w1.heap.size,0,none⟩ T).trans f0,(World.cell?_alloc_lt h _ ⟨g,1,none⟩ U).trans gc⟩))
     (first
      | (go_at_call 141;refine (rW _ (Q.o.below (EB _ _).drew)).mono ?_;rintro e w6 ⟨rfl,rfl⟩)
      | (go_at_call 140;refine (kZ _ _ t _ (by exact n7 h _)).mono ?_;rintro e w6 ⟨rfl,rfl⟩))
    have I:Ft h (h.alloc (.cells (fU.map string).toArray 9)).drew:=((EB _ h).alloc (EA _) _).drew;have f:=Hd (d.o.trans (I.mono d.o.size));clear I y f0 gc J;go_wp2_with fail
    go_ret;exact⟨bN (by rw[←fx,s.o];rfl),f.o⟩
   ·clear f0 y J gc;refine ae (by kernel_rfl) (by kernel_rfl) ?_
    repeat (go_big_quiet_step (fail))
    refine wpQuiet_nil ?_;intro W2 b;have f:=Hd (d.o.trans ((az b).mono d.o.size));clear b F G R;go_wp2_with fail
    go_ret;exact⟨bN (by rw[←fx,s.o];rfl),f.o⟩
