/- Parts of one proof, joined; conditions stand in each theorem. -/
import Derived.Test.YtoonjedifockoaaGreatDoorMA
import Derived.Deep.RegionHeld3
import Derived.Deep.RegionWith
import Derived.Handy
import Derived.RangeFuncNested
import Derived.RangeFuncBound
import Derived.RangeFuncCalls
import Derived.RangeFuncLeaves
import Derived.Shelf.Abstract
import Derived.Shelf.RegionOpen
import Derived.OwnWalkIn
import Derived.TacticsInMore
import Derived.LoopNIn
import Derived.LoopIn
namespace Go.Proofs.YtoonjedifockoaaGreatDoor
open Go.IntKind(i64)
open Go.Value(int string slice)
set_option maxHeartbeats 1000000
open Go.RowKit
theorem ji:(fun c=>[cO].any (hasB · c))=isLow:=by
 funext c
 show (hasB cO c||false)=_
 rw[kQ,Bool.or_false]
theorem lK:(fun c=>[i3].any (hasB · c))=bU:=by
 funext c
 show (hasB i3 c||false)=_
 rw[yq,Bool.or_false]
theorem ll:(fun c=>[fa].any (hasB · c))=aW:=by
 funext c
 show (hasB fa c||false)=_
 rw[tU,Bool.or_false]
theorem lF(c:UInt8):[(⟨#[63,39]⟩:ByteArray)].any (hasB · c)=(c==63||c==39):=by
 show ((([63,39]:List UInt8).contains c)||false)=_
 simp only[List.contains_cons,List.contains_nil,Bool.or_false]
theorem rx(c:UInt8):[(⟨#[39]⟩:ByteArray)].any (hasB · c)=(c==39):=by
 show ((([39]:List UInt8).contains c)||false)=_
 simp only[List.contains_cons,List.contains_nil,Bool.or_false]
def al(s:ByteArray) (k:Nat) (c:UInt8):Nat×ByteArray×Nat×Nat:=
 if isLow c then (if jI (s.extract k (aA aW s k)).data.toList then 1 else 2,s.extract k (aA aW s k),if aA aW s k-k≤24 then 0 else 201,aA aW s k)
 else if c==63||c==39 then (if c==39 then 5 else 3,s.extract (k+1) (aA aW s (k+1)),if eA (s.extract (k+1) (aA aW s (k+1))).data.toList then 0 else 201,aA aW s (k+1))
 else if bU c then (4,s.extract k (aA bU s k),if (number (s.extract k (aA bU s k)).data.toList).isSome&&!((s.data.toList.drop (aA bU s k)).head?.any aW) then 0 else 201,aA bU s k)
 else match ei.find? (fun g=>Lib.hasPrefix (s.data.toList.drop k) g.data.toList) with
  | some g=>(6,g,0,k+g.size)
  | none=>(0,⟨#[]⟩,200,k)
def gG(w:World) (R Q:Nat) (s:ByteArray) (k:Nat) (c:UInt8) (e:Ending) (w':World):Prop:=
 e=.returned (.tuple #[.agg #[int .u8 (al s k c).1,.string (al s k c).2.1,int i64 k],int i64 (al s k c).2.2.1])∧w.grownBy w' (some Q)∧Rdr w' R Q s (al s k c).2.2.2
theorem xB{w:World}{R Q:Nat}{s:ByteArray}{k:Nat}{c:UInt8}{w':World}(kd:Nat)(tx:ByteArray)(er a:Nat)(h:al s k c=(kd,tx,er,a))(b:w.grownBy w' (some Q))(d:Rdr w' R Q s a) :
  gG w R Q s k c (.returned (.tuple #[.agg #[int .u8 kd,.string tx,int i64 k],int i64 er])) w':=by
 unfold gG;rw[h];exact⟨rfl,b,d⟩
theorem jA(w e:World)(R Q:Nat)(s:ByteArray)(k:Nat)(c:UInt8)(T kd er h:Nat)(f g:Int)(tx:ByteArray)(a0 u l:Value)(x:e.heap[T]?=some (.cells #[a0,u,l] 108 (0,0)))(a:w.heap.size≤T)(b:T≠R)(d:T≠Q)
  (y:w.grownBy e (some Q)) (z:Rdr e R Q s h) (hF:al s k c=(kd,tx,er,h)) (m:f=kd) (n:g=er) (tmps:Array Value) (A:tmps.getD 2 undef=.pointer (some ⟨T,0,none⟩)) (B:tmps.getD 3 undef=int i64 g) :
  bodyPost Tryz.prog Tryz.f99 (gG w R Q s k c) .ret ⟨tmps,[]⟩ (((e.setCell ⟨T,0,none⟩ (int .u8 f)).setCell ⟨T,1,none⟩ (.string tx)).setCell ⟨T,2,none⟩ (int i64 k)):=by
 subst m n;have o:(((e.setCell ⟨T,0,none⟩ (int .u8 kd)).setCell ⟨T,1,none⟩ (.string tx)).setCell ⟨T,2,none⟩ (int i64 k)).heap[T]?=some (.cells #[int .u8 kd,.string tx,int i64 k] 108 (0,0)):=
  heap_set (heap_set (heap_set x 0 _) 1 _) 2 _
 have p:=dz (dz (dz y a 0 (int .u8 kd)) a 1 (.string tx)) a 2 (int i64 k);have q:=((z.set_far (i:=0) (int .u8 kd) b d).set_far (i:=1) (.string tx) b d).set_far (i:=2) (int i64 k) b d;generalize ((e.setCell ⟨T,0,none⟩ (int .u8 kd)).setCell ⟨T,1,none⟩ (.string tx)).setCell ⟨T,2,none⟩ (int i64 k)=D at *;obtain⟨l,C,c2,_⟩:=cells3 o;refine bodyPost_ret (v:=.tuple #[.agg #[int .u8 kd,.string tx,int i64 k],int i64 er]) ?_ rfl (xB kd tx er h hF p q);have r:tmps[2]?.getD undef=.pointer (some ⟨T,0,none⟩):=by simpa using A
 have t:tmps[3]?.getD undef=int i64 er:=by simpa using B
 simp[results,Tryz.results99,go_sem,r,t,l,C,c2]
theorem ext_list(s:ByteArray)(a b:Nat)(h:a<b)(c:b≤s.size):(s.extract a b).data.toList=(s[a]'(by omega))::(s.extract (a+1) b).data.toList:=by
 have e:∀x y,(s.extract x y).data.toList=(s.data.toList.drop x).take (y-x):=by intro x y;rw[ByteArray.data_extract,Array.toList_extract]
 rw[e,e,drop_cons s a (by omega),show b-a=(b-(a+1))+1 from by omega,EK]
theorem ext_size(s:ByteArray)(a b:Nat)(c:b≤s.size):(s.extract a b).size=b-a:=by rw[ByteArray.size_extract];omega
theorem xA(s:ByteArray)(a b:Nat)(h:a<b)(c:b≤s.size)(e:isLow s[a]=true):eA (s.extract a b).data.toList=decide (b-a≤24):=by
 have d:(s.extract a b).data.toList.length=b-a:=by rw[EY];exact ext_size s a b c
 rw[ext_list s a b h c]at d ⊢;simp only[eA,e,Bool.and_true,d]
theorem yN(R Q k:Nat)(s:ByteArray)(w:World)(h:Rdr w R Q s k)(hk:k<s.size)(hs:s.size≤16384)(ht:aM w)(hQ:Q≠1)
  (hc:isLow s[k]=true) :
  Calls Tryz.prog 99 #[.pointer (some ⟨R,0,none⟩)] w (gG w R Q s k s[k]):=by
 have U:∀(W:World) (T:Nat) (cs:Array Value),W.heap[T]?=some (.cells cs 108 (0,0))→Rdr W R Q s k→some T≠some Q:=fun W T cs hT hr e=>by
  obtain⟨p,hq⟩:=hr.q;injection e with e
  exact jM hT hq (by decide) e
 have V:=Hd U;clear U;have HC:=Hd hc
 go_enter Tryz.func99,Tryz.ntmps99
 go_wp2_with fail
 have r:Ft w (w.alloc (.cells #[int .u8 0,string ⟨#[]⟩,int i64 0] 108)):=(EB _ w).alloc (EA _) _;have T2:=n7 w (.cells #[int .u8 0,string ⟨#[]⟩,int i64 0] 108);refine (sU R Q k s _ (h.keep r) (by omega) hs).mono ?_;rintro e w1 ⟨rfl,F⟩;have a:Ft w w1:=r.trans (F.mono r.size);have G:=Hd (aa F T2 (by simp));have H:=h.keep a;clear T2 F r;have t:Ft w1 (w1.alloc (.cells #[int .u8 0,string ⟨#[]⟩,int i64 k] 108)):=(EB _ w1).alloc (EA _) _;have T4:=Hd (n7 w1 (.cells #[int .u8 0,string ⟨#[]⟩,int i64 k] 108));go_wp2_with fail
 refine (fR R Q k s _ (H.keep t) hk hs [cO] true (by rw[←HC.o];exact congrFun ji s[k]) _ rfl 1 1 rfl (by omega) _ (by simp)).mono ?_;rintro e w3 ⟨rfl,I⟩;have f:Ft w1 w3:=t.trans (I.mono t.size);have A:Ft w w3:=a.trans (f.mono a.size);have J:=H.keep f;have K:=Hd (aa I T4.o (by simp));have m:=Hd (aa f G.o (Ez.1 G.o).1);clear t I f T4;go_wp2_with fail
 refine (take_at R Q k s _ J (by omega) hs [fa] aW ll _ rfl 1 1 rfl (by omega) _ rfl).mono ?_;rintro e w4 ⟨rfl,u,a1⟩;have B:w.grownBy w4 (some Q):=World.grownBy.trans (aH A _) u;have n:=Hd (aP u K.o (V.o _ _ _ K.o J));have X:=Hd (aP u m.o (V.o _ _ _ m.o J));have a6:=ext_size s k (aA aW s k) (cQ aW s k (by omega));have C:aW s[k]=true:=by unfold aW;rw[HC.o];rfl
 have Y:k<aA aW s k:=by rw[←fN aW s k hk C];exact eG _ _ _
 have Z:=cQ aW s k (by omega);have ad:=xA s k (aA aW s k) Y Z HC.o;generalize hE:aA aW s k=d at *;generalize hX:s.extract k d=tx at *;have HE:=Hd hE;have HX:=Hd hX;have bc:tx.size≤16384:=by omega
 have a7:=Hd ad;clear a6 C ad;clear hE hX u A K m;have g:Hid (w1.heap.size≠R∧w1.heap.size≠Q):=by
  obtain⟨_,_,_,_,_,_,_,bd,bk⟩:=H.cells
  show w1.heap.size≠R∧w1.heap.size≠Q
  omega
 obtain⟨c0,c1,c2,f0,f1,f2⟩:=cells3 n.o;have HG:Hid (w.grownBy ((w4.setCell ⟨w1.heap.size,0,none⟩ (int .u8 2)).setCell ⟨w1.heap.size,1,none⟩ (.string tx)) (some Q)):=dz (dz B a.size _ _) a.size _ _;have L:=Hd (heap_set (heap_set n.o 0 (int .u8 2)) 1 (.string tx));have M:w1.heap.size≠w.heap.size:=by have:=(Ez.1 G.o).1;omega
 have a8:=Hd ((a1.set_far (T:=w1.heap.size) (i:=0) (int .u8 2) g.o.1 g.o.2).set_far (i:=1) (.string tx) g.o.1 g.o.2);have D:=Hd (aB (aB X.o M 0 (int .u8 2)) M 1 (.string tx));go_wp2_with fail
 generalize (w4.setCell ⟨w1.heap.size,0,none⟩ (int .u8 2)).setCell ⟨w1.heap.size,1,none⟩ (.string tx)=E at *;have ba:Rdr E R Q s d:=a8.o;have af:aM E:=ht.grown HG.o hQ;clear n c0 c1 c2 f0 f1 f2 B;obtain⟨c0,c1,c2,f0,f1,f2⟩:=cells3 L.o;have ak:=(Ez.1 L.o).1
 go_region_held3 (fun w'=>w'.cell? ⟨w1.heap.size,1,none⟩=some (.string tx))
  (first
   | assumption
   | (exact (World.cell?_alloc_lt E _ ⟨w1.heap.size,1,none⟩ ak).trans c1))
  (first
   | (go_at_call 141;refine (rW _ (af.below (EB _ _).drew)).mono ?_;rintro e w6 ⟨rfl,rfl⟩)
   | (go_at_call 140;refine (kZ _ _ tx _ (by exact n7 E _)).mono ?_;rintro e w6 ⟨rfl,rfl⟩))
 have v:Ft E (E.alloc (.cells (fU.map string).toArray 9)).drew:=((EB _ E).alloc (EA _) _).drew;generalize (E.alloc (.cells (fU.map string).toArray 9)).drew=w6 at *;have bb:=Hd (aa v L.o ak);have y:=Hd (aa v D.o (Ez.1 D.o).1);have N:=Hd (grown_below HG.o v);clear c0 c1 c2 f0 f1 f2 af HG;obtain⟨c0,c1,c2,f0,f1,f2⟩:=cells3 bb.o;obtain⟨d0,d1,d2,e0,e1,e2⟩:=cells3 y.o;have z:=Hd (fun W (x:Bool) (hx:decide (d-k≤24)=x)=>(jy tx W (by omega)).mono (R':=fun e w'=>e=.returned (.bool x)∧W=w') (fun e w' hh=>⟨by rw[hh.1,a7.o,hx],hh.2⟩));have b:Hid (al s k s[k]=(if jI tx.data.toList then 1 else 2,tx,if d-k≤24 then 0 else 201,d)):=by
  show al s k s[k]=_
  unfold al;rw[n9 HC.o,HE.o,HX.o]
 have O:=ba.keep v;have an:w.heap.size≠R∧w.heap.size≠Q:=by
  obtain⟨_,_,_,_,_,_,_,bl,bn⟩:=h.cells;omega
 have c:=Hd an;clear an
 cases hw:jI tx.data.toList
 ·cases l:decide (d-k≤24)
  ·have P:=Hd l;have S:Hid (al s k s[k]=(2,tx,201,d)):=by
    show al s k s[k]=_
    rw[b.o,hw,n8 (by simp),n8 (by simpa using l)]
   clear l hw b
   go_wp2_with (first
    | (go_at_call 142;refine (z.o _ _ P.o).mono ?_;rintro e w7 ⟨rfl,rfl⟩))
   exact jA w _ R Q s k _ _ 2 201 d 2 201 tx _ _ _ y.o (EA _) c.o.1 c.o.2 N.o O S.o rfl rfl _ rfl rfl
  ·have P:=Hd l;have S:Hid (al s k s[k]=(2,tx,0,d)):=by
    show al s k s[k]=_
    rw[b.o,hw,n8 (by simp),n9 (by simpa using l)]
   clear l hw b
   go_wp2_with (first
    | (go_at_call 142;refine (z.o _ _ P.o).mono ?_;rintro e w7 ⟨rfl,rfl⟩))
   exact jA w _ R Q s k _ _ 2 0 d 2 0 tx _ _ _ y.o (EA _) c.o.1 c.o.2 N.o O S.o rfl rfl _ rfl rfl
 ·have aq:=Hd (aB y.o M 0 (int .u8 1));have ar:=Hd (dz N.o a.size 0 (int .u8 1));have av:=Hd (O.set_far (T:=w1.heap.size) (i:=0) (int .u8 1) g.o.1 g.o.2)
  cases l:decide (d-k≤24)
  ·have P:=Hd l;have S:Hid (al s k s[k]=(1,tx,201,d)):=by
    show al s k s[k]=_
    rw[b.o,hw,n9 rfl,n8 (by simpa using l)]
   clear l hw b
   go_wp2_with (first
    | (go_at_call 142;refine (z.o _ _ P.o).mono ?_;rintro e w7 ⟨rfl,rfl⟩))
   exact jA w _ R Q s k _ _ 1 201 d 1 201 tx _ _ _ aq.o (EA _) c.o.1 c.o.2 ar.o av.o S.o rfl rfl _ rfl rfl
  ·have P:=Hd l;have S:Hid (al s k s[k]=(1,tx,0,d)):=by
    show al s k s[k]=_
    rw[b.o,hw,n9 rfl,n9 (by simpa using l)]
   clear l hw b
   go_wp2_with (first
    | (go_at_call 142;refine (z.o _ _ P.o).mono ?_;rintro e w7 ⟨rfl,rfl⟩))
   exact jA w _ R Q s k _ _ 1 0 d 1 0 tx _ _ _ aq.o (EA _) c.o.1 c.o.2 ar.o av.o S.o rfl rfl _ rfl rfl
structure TS (w:World) (R Q:Nat) (s:ByteArray) (k T2 T4 j:Nat) (kd:Int) (tx:ByteArray) (W:World):Prop where
 t2:W.heap[T2]?=some (.cells #[int .u8 0,string ⟨#[]⟩,int i64 0] 108 (0,0))
 t4:W.heap[T4]?=some (.cells #[int .u8 kd,.string tx,int i64 k] 108 (0,0))
 g:w.grownBy W (some Q)
 r:Rdr W R Q s j
 n2:w.heap.size≤T2
 n4:w.heap.size≤T4
 ne:T4≠T2
 r2:T2≠R∧T2≠Q
 r4:T4≠R∧T4≠Q
section
variable {w W W':World} {R Q k T2 T4 j:Nat} {s:ByteArray} {kd:Int} {tx:ByteArray}
theorem TS.below(h:TS w R Q s k T2 T4 j kd tx W)(a:Ft W W'):TS w R Q s k T2 T4 j kd tx W':=
 { h with t2:=aa a h.t2 (Ez.1 h.t2).1,t4:=aa a h.t4 (Ez.1 h.t4).1,g:=grown_below h.g a,r:=h.r.keep a }
theorem TS.grown{b:Nat}(h:TS w R Q s k T2 T4 j kd tx W)(a:W.grownBy W' (some Q))(c:Rdr W' R Q s b):TS w R Q s k T2 T4 b kd tx W':=
 { h with t2:=aP a h.t2 (by intro e;injection e with e;exact h.r2.2 e),t4:=aP a h.t4 (by intro e;injection e with e;exact h.r4.2 e),g:=World.grownBy.trans h.g a,r:=c }
theorem TS.kind(h:TS w R Q s k T2 T4 j kd tx W)(a:Int):TS w R Q s k T2 T4 j a tx (W.setCell ⟨T4,0,none⟩ (int .u8 a)):=
 { h with t2:=aB h.t2 h.ne _ _,t4:=heap_set h.t4 0 _,g:=dz h.g h.n4 _ _,r:=h.r.set_far _ h.r4.1 h.r4.2 }
theorem TS.text(h:TS w R Q s k T2 T4 j kd tx W)(a:ByteArray):TS w R Q s k T2 T4 j kd a (W.setCell ⟨T4,1,none⟩ (.string a)):=
 { h with t2:=aB h.t2 h.ne _ _,t4:=heap_set h.t4 1 _,g:=dz h.g h.n4 _ _,r:=h.r.set_far _ h.r4.1 h.r4.2 }
theorem TS.tab(h:TS w R Q s k T2 T4 j kd tx W)(a:aM w)(b:Q≠1):aM W:=a.grown h.g b
theorem TS.c4(h:TS w R Q s k T2 T4 j kd tx W):W.cell? ⟨T4,0,none⟩=some (int .u8 kd)∧W.cell? ⟨T4,1,none⟩=some (.string tx)∧W.cell? ⟨T4,2,none⟩=some (int i64 k)∧W.frozen? ⟨T4,0,none⟩=false∧W.frozen? ⟨T4,1,none⟩=false∧W.frozen? ⟨T4,2,none⟩=false:=cells3 h.t4
theorem TS.c2(h:TS w R Q s k T2 T4 j kd tx W):W.cell? ⟨T2,0,none⟩=some (int .u8 0)∧W.cell? ⟨T2,1,none⟩=some (string ⟨#[]⟩)∧W.cell? ⟨T2,2,none⟩=some (int i64 0)∧W.frozen? ⟨T2,0,none⟩=false∧W.frozen? ⟨T2,1,none⟩=false∧W.frozen? ⟨T2,2,none⟩=false:=cells3 h.t2
end
theorem TS.start{w w1:World}{R Q k:Nat}{s:ByteArray}(h:Rdr w R Q s k)(c:Below (w.alloc (.cells #[int .u8 0,string ⟨#[]⟩,int i64 0] 108)).heap.size (w.alloc (.cells #[int .u8 0,string ⟨#[]⟩,int i64 0] 108)) w1) :
  TS w R Q s k w.heap.size w1.heap.size k 0 ⟨#[]⟩ (w1.alloc (.cells #[int .u8 0,string ⟨#[]⟩,int i64 k] 108)):=by
 have d:Ft w (w.alloc (.cells #[int .u8 0,string ⟨#[]⟩,int i64 0] 108)):=(EB _ w).alloc (EA _) _;have T2:=n7 w (.cells #[int .u8 0,string ⟨#[]⟩,int i64 0] 108);have a:Ft w w1:=d.trans (c.mono d.size);have e:=aa c T2 (by simp);have f:=h.keep a;have b:Ft w1 (w1.alloc (.cells #[int .u8 0,string ⟨#[]⟩,int i64 k] 108)):=(EB _ w1).alloc (EA _) _;have i:=(Ez.1 e).1;obtain⟨_,_,_,_,_,_,_,l,m⟩:=h.cells;exact { t2:=aa b e i,t4:=n7 w1 _,g:=aH (a.trans (b.mono a.size)) _,r:=f.keep b,n2:=EA _,n4:=a.size,ne:=by omega,r2:=by omega,r4:=by omega }
theorem TS.fin{w W:World}{R Q k T2 T4:Nat}{s:ByteArray}{c:UInt8}{kd er d:Nat}{a b:Int}{tx:ByteArray}(h:TS w R Q s k T2 T4 d a tx W)(hF:al s k c=(kd,tx,er,d))(e:a=kd)(f:b=er)(tmps:Array Value)(i:tmps.getD 2 undef=.pointer (some ⟨T2,0,none⟩))(l:tmps.getD 3 undef=int i64 b) :
  bodyPost Tryz.prog Tryz.f99 (gG w R Q s k c) .ret ⟨tmps,[]⟩ (((W.setCell ⟨T2,0,none⟩ (int .u8 a)).setCell ⟨T2,1,none⟩ (.string tx)).setCell ⟨T2,2,none⟩ (int i64 k)):=
 jA w W R Q s k c T2 kd er d a b tx _ _ _ h.t2 h.n2 h.r2.1 h.r2.2 h.g h.r hF e f tmps i l
theorem yM(R Q k:Nat)(s:ByteArray)(w:World)(h:Rdr w R Q s k)(I:k<s.size)(x:s.size≤16384)
  (hc:isLow s[k]=false) (hq:(s[k]==63||s[k]==39)=true) :
  Calls Tryz.prog 99 #[.pointer (some ⟨R,0,none⟩)] w (gG w R Q s k s[k]):=by
 have N:=Hd hc;have O:=Hd hq;clear hc hq
 go_enter Tryz.func99,Tryz.ntmps99
 go_wp2_with fail
 refine (sU R Q k s _ (h.keep ((EB _ w).alloc (EA _) _)) (by omega) x).mono ?_;rintro e w1 ⟨rfl,P⟩;have S:=TS.start h P;go_wp2_with fail
 refine (fR R Q k s _ S.r I x [cO] false (by rw[←N.o];exact congrFun ji s[k]) _ rfl 1 1 rfl (by omega) _ (by simp)).mono ?_;rintro e w3 ⟨rfl,J⟩;have M:=S.below J;clear S J;generalize w1.heap.size=T4 at *;generalize w.heap.size=T2 at M ⊢;go_wp2_with fail
 refine (fR R Q k s _ M.r I x [⟨#[63,39]⟩] true (by rw[lF];exact O.o) _ rfl 1 1 rfl (by omega) _ rfl).mono ?_;rintro e w4 ⟨rfl,K⟩;have T:=M.below K;clear M K;obtain⟨z,A,c2,f0,f1,f2⟩:=T.c4;have c:=T.kind 3;go_wp2_with fail
 have hz:=Hd (show (w4.setCell ⟨T4,0,none⟩ (int .u8 3)).heap.size=w4.heap.size by simp);generalize w4.setCell ⟨T4,0,none⟩ (int .u8 3)=w5 at *;clear z A c2 f0 f1 f2 T
 cases d:s[k]==39
 ·refine (fR R Q k s _ c.r I x [⟨#[39]⟩] false (by rw[rx];exact d) _ rfl 1 1 rfl (by omega) _ hz.o).mono ?_;rintro e w6 ⟨rfl,i⟩;have g:=c.below i;have B:=Hd d;clear c i d;obtain⟨z,A,c2,f0,f1,f2⟩:=g.c4;obtain⟨U,V,X,Y,⟨p,Z⟩,_⟩:=g.r.cells;obtain⟨p',l⟩:=g.r.q;have C:=Hd l;clear l;go_wp2_with fail
  refine (jq Q k _ s _ C.o I x).mono ?_;rintro e w7 ⟨rfl,b,m⟩;have D:=g.grown b (g.r.grown b m);clear g b m z A c2 f0 f1 f2 U V X Y Z;go_wp2_with fail
  refine (take_at R Q (k+1) s _ D.r (by omega) x [fa] aW ll _ rfl 1 1 rfl (by omega) _ rfl).mono ?_;rintro e w8 ⟨rfl,n,t⟩;have L:=D.grown n t;clear D n t;have u:=cQ aW s (k+1) (by omega);have v:(s.extract (k+1) (aA aW s (k+1))).size≤16384:=by rw[ext_size s _ _ u];omega
  have a:Hid (al s k s[k]=(3,s.extract (k+1) (aA aW s (k+1)),if eA (s.extract (k+1) (aA aW s (k+1))).data.toList then 0 else 201,aA aW s (k+1))):=by
   show al s k s[k]=_
   unfold al;rw[n8 (by rw[N.o];simp),n9 O.o,n8 (by rw[B.o];simp)]
  generalize aA aW s (k+1)=E at *;generalize s.extract (k+1) E=tx at *;obtain⟨z,A,c2,f0,f1,f2⟩:=L.c4;have y:=L.text tx;obtain⟨d0,d1,d2,e0,e1,e2⟩:=y.c4;obtain⟨ad,af,ak,an,aq,ar⟩:=y.c2
  cases f:eA tx.data.toList
  ·have F:Hid (al s k s[k]=(3,tx,201,E)):=by
    show al s k s[k]=_
    rw[a.o,f];rfl
   have G:=Hd f;clear a f
   go_wp2_with (first
    | (go_at_call 142;refine (jy tx _ v).mono ?_;rintro e w9 ⟨rfl,rfl⟩;rw[G.o]))
   exact y.fin F.o rfl rfl _ rfl rfl
  ·have F:Hid (al s k s[k]=(3,tx,0,E)):=by
    show al s k s[k]=_
    rw[a.o,f];rfl
   have G:=Hd f;clear a f
   go_wp2_with (first
    | (go_at_call 142;refine (jy tx _ v).mono ?_;rintro e w9 ⟨rfl,rfl⟩;rw[G.o]))
   exact y.fin F.o rfl rfl _ rfl rfl
 ·refine (fR R Q k s _ c.r I x [⟨#[39]⟩] true (by rw[rx];exact d) _ rfl 1 1 rfl (by omega) _ hz.o).mono ?_;rintro e w6 ⟨rfl,i⟩;have H:=c.below i;have B:=Hd d;clear c i d;obtain⟨z,A,c2,f0,f1,f2⟩:=H.c4;have g:=H.kind 5;obtain⟨U,V,X,Y,⟨p,Z⟩,_⟩:=g.r.cells;obtain⟨p',l⟩:=g.r.q;have C:=Hd l;clear l;go_wp2_with fail
  generalize w6.setCell ⟨T4,0,none⟩ (int .u8 5)=av at *;refine (jq Q k _ s _ C.o I x).mono ?_;rintro e w7 ⟨rfl,b,m⟩;have D:=g.grown b (g.r.grown b m);clear g H b m z A c2 f0 f1 f2 U V X Y Z;go_wp2_with fail
  refine (take_at R Q (k+1) s _ D.r (by omega) x [fa] aW ll _ rfl 1 1 rfl (by omega) _ rfl).mono ?_;rintro e w8 ⟨rfl,n,t⟩;have L:=D.grown n t;clear D n t;have u:=cQ aW s (k+1) (by omega);have v:(s.extract (k+1) (aA aW s (k+1))).size≤16384:=by rw[ext_size s _ _ u];omega
  have a:Hid (al s k s[k]=(5,s.extract (k+1) (aA aW s (k+1)),if eA (s.extract (k+1) (aA aW s (k+1))).data.toList then 0 else 201,aA aW s (k+1))):=by
   show al s k s[k]=_
   unfold al;rw[n8 (by rw[N.o];simp),n9 O.o,n9 B.o]
  generalize aA aW s (k+1)=E at *;generalize s.extract (k+1) E=tx at *;obtain⟨z,A,c2,f0,f1,f2⟩:=L.c4;have y:=L.text tx;obtain⟨d0,d1,d2,e0,e1,e2⟩:=y.c4;obtain⟨ad,af,ak,an,aq,ar⟩:=y.c2
  cases f:eA tx.data.toList
  ·have F:Hid (al s k s[k]=(5,tx,201,E)):=by
    show al s k s[k]=_
    rw[a.o,f];rfl
   have G:=Hd f;clear a f
   go_wp2_with (first
    | (go_at_call 142;refine (jy tx _ v).mono ?_;rintro e w9 ⟨rfl,rfl⟩;rw[G.o]))
   exact y.fin F.o rfl rfl _ rfl rfl
  ·have F:Hid (al s k s[k]=(5,tx,0,E)):=by
    show al s k s[k]=_
    rw[a.o,f];rfl
   have G:=Hd f;clear a f
   go_wp2_with (first
    | (go_at_call 142;refine (jy tx _ v).mono ?_;rintro e w9 ⟨rfl,rfl⟩;rw[G.o]))
   exact y.fin F.o rfl rfl _ rfl rfl
theorem DD(R Q k:Nat)(s:ByteArray)(w:World)(h:Rdr w R Q s k)(o:k≤s.size)(i:s.size≤16384)(a:List ByteArray)(p:UInt8→Bool)(l:(fun c=>a.any (hasB · c))=p)(x:Bool)(f:(s.data.toList.drop k).head?.any p=x)(arr:Array Value)(b:arr=(a.map string).toArray)(n cap:Nat)(m:a.length=n)(g:n≤100)
  (B:Nat) (hB:w.heap.size=B) :
  Calls Tryz.prog 134 #[.pointer (some ⟨R,0,none⟩),slice (some ⟨B,0,none⟩) n cap] (w.alloc (.cells arr 9)) fun e w'=>e=.returned (.bool x)∧Ft w w':=by
 subst hB
 by_cases d:k<s.size
 ·refine fR R Q k s w h d i a x ?_ arr b n cap m g _ rfl;rw[←f,drop_cons s k d,List.head?_cons,Option.any_some,←l]
 ·rw[drop_end s k (by omega)]at f;have:x=false:=by rw[←f];rfl
  subst this;exact pH R Q k s w h (by omega) i arr _
theorem An(R Q k:Nat)(s:ByteArray)(w:World)(h:Rdr w R Q s k)(J:k<s.size)(d:s.size≤16384)
  (hc:isLow s[k]=false) (hq:(s[k]==63||s[k]==39)=false) (hd:bU s[k]=true) :
  Calls Tryz.prog 99 #[.pointer (some ⟨R,0,none⟩)] w (gG w R Q s k s[k]):=by
 have HC:=Hd hc;have HQ:=Hd hq;have HD:=Hd hd;clear hc hq hd
 go_enter Tryz.func99,Tryz.ntmps99
 go_wp2_with fail
 refine (sU R Q k s _ (h.keep ((EB _ w).alloc (EA _) _)) (by omega) d).mono ?_;rintro e w1 ⟨rfl,K⟩;have L:=TS.start h K;go_wp2_with fail
 refine (fR R Q k s _ L.r J d [cO] false (by rw[←HC.o];exact congrFun ji s[k]) _ rfl 1 1 rfl (by omega) _ (by simp)).mono ?_;rintro e w3 ⟨rfl,i⟩;have E:=L.below i;clear L i;generalize w1.heap.size=T4 at *;generalize w.heap.size=T2 at E ⊢;go_wp2_with fail
 refine (fR R Q k s _ E.r J d [⟨#[63,39]⟩] false (by rw[lF];exact HQ.o) _ rfl 1 1 rfl (by omega) _ rfl).mono ?_;rintro e w4 ⟨rfl,l⟩;have M:=E.below l;clear E l;go_wp2_with fail
 refine (fR R Q k s _ M.r J d [i3] true (by rw[←HD.o];exact congrFun lK s[k]) _ rfl 1 1 rfl (by omega) _ rfl).mono ?_;rintro e w5 ⟨rfl,m⟩;have N:=M.below m;clear M m;go_wp2_with fail
 refine (take_at R Q k s _ N.r (by omega) d [i3] bU lK _ rfl 1 1 rfl (by omega) _ rfl).mono ?_;rintro e O ⟨rfl,n,p⟩;have P:=N.grown n p;clear N n p;have b:=cQ bU s k (by omega);have S:(s.extract k (aA bU s k)).size≤16384:=by rw[ext_size s _ _ b];omega
 have a:Hid (al s k s[k]=(4,s.extract k (aA bU s k),if (number (s.extract k (aA bU s k)).data.toList).isSome&&!((s.data.toList.drop (aA bU s k)).head?.any aW) then 0 else 201,aA bU s k)):=by
  show al s k s[k]=_
  unfold al;rw[n8 (by rw[HC.o];simp),n8 (by rw[HQ.o];simp),n9 HD.o]
 generalize aA bU s k=f at *;generalize s.extract k f=tx at *;obtain⟨c0,c1,c2,f0,f1,f2⟩:=P.c4;have c:=P.kind 4;have T:=c.text tx;obtain⟨U,V,X,Y,Z,ad⟩:=c.c4;obtain⟨d0,d1,d2,F,G,H⟩:=T.c4;have hz:=Hd (show ((O.setCell ⟨T4,0,none⟩ (int .u8 4)).setCell ⟨T4,1,none⟩ (.string tx)).heap.size=O.heap.size by simp);go_wp2_with fail
 generalize (O.setCell ⟨T4,0,none⟩ (int .u8 4)).setCell ⟨T4,1,none⟩ (.string tx)=w9 at *;clear c0 c1 c2 f0 f1 f2 U V X Y Z ad P c;refine (pQ tx _ S).mono ?_;rintro e wa ⟨rfl,q⟩;have g:=T.below q;clear T q d0 d1 d2 F G H;obtain⟨d0,d1,d2,F,G,H⟩:=g.c4;obtain⟨t,u,x,y,z,A⟩:=g.c2;generalize ak:number tx.data.toList=nu at *
 cases nu with
 | none =>
  have B:Hid (al s k s[k]=(4,tx,201,f)):=by
   show al s k s[k]=_
   rw[a.o];rfl
  clear a;go_wp2_with fail
  exact g.fin B.o rfl rfl _ rfl rfl
 | some v =>
  generalize C:(s.data.toList.drop f).head?.any aW=on at *;have af:=Hd C;have hv:(Option.getD (some v) 0)=v:=rfl;clear C;go_wp2_with fail
  refine (DD R Q f s _ g.r b d [fa] aW ll on af.o _ rfl 1 1 rfl (by omega) _ rfl).mono ?_;rintro e wb ⟨rfl,D⟩;have I:=g.below D;clear g D d0 d1 d2 F G H t u x y z A;obtain⟨d0,d1,d2,F,G,H⟩:=I.c4;obtain⟨t,u,x,y,z,A⟩:=I.c2
  cases on
  ·have B:Hid (al s k s[k]=(4,tx,0,f)):=by
    show al s k s[k]=_
    rw[a.o];rfl
   clear a;go_wp2_with fail
   exact I.fin B.o rfl rfl _ rfl rfl
  ·have B:Hid (al s k s[k]=(4,tx,201,f)):=by
    show al s k s[k]=_
    rw[a.o];rfl
   clear a;go_wp2_with fail
   exact I.fin B.o rfl rfl _ rfl rfl
def ib(s:ByteArray) (k:Nat) (g:ByteArray):Bool:=Lib.hasPrefix (s.data.toList.drop k) g.data.toList
theorem zf(p:ByteArray→Bool)(l:List ByteArray)(i:Nat)(g:ByteArray)(a:l[i]?=some g):(l.drop i).find? p=if p g then some g else (l.drop (i+1)).find? p:=by
 obtain⟨b,rfl⟩:=EP.1 a;rw[List.drop_eq_getElem_cons b,List.find?_cons]
 cases p l[i]<;>rfl
theorem mT(s:ByteArray)(k:Nat)(g:ByteArray)(c:k≤s.size)(h:ib s k g=true):k+g.size≤s.size:=by
 have a:g.data.toList.isPrefixOf (s.data.toList.drop k)=true:=h;have b:=(List.isPrefixOf_iff_prefix.1 a).length_le;simp at b;have d:g.data.size=g.size:=rfl;have e:s.data.size=s.size:=rfl;omega
theorem yk(R Q k:Nat)(s:ByteArray)(w:World)(h:Rdr w R Q s k)(O:k<s.size)(z:s.size≤16384)(ht:aM w)(P:Q≠1)
  (S:isLow s[k]=false) (C:(s[k]==63||s[k]==39)=false) (T:bU s[k]=false) :
  Calls Tryz.prog 99 #[.pointer (some ⟨R,0,none⟩)] w (gG w R Q s k s[k]):=by
 have HC:=Hd S;have HQ:=Hd C;have HD:=Hd T;have d:Hid (al s k s[k]=match ei.find? (ib s k) with|some g=>(6,g,0,k+g.size)|none=>(0,⟨#[]⟩,200,k)):=by
  show al s k s[k]=_
  unfold al;rw[n8 (by rw[S];simp),n8 (by rw[C];simp),n8 (by rw[T];simp)];rfl
 clear S C T
 go_enter Tryz.func99,Tryz.ntmps99
 go_wp2_with fail
 refine (sU R Q k s _ (h.keep ((EB _ w).alloc (EA _) _)) (by omega) z).mono ?_;rintro e w1 ⟨rfl,U⟩;have V:=TS.start h U;go_wp2_with fail
 refine (fR R Q k s _ V.r O z [cO] false (by rw[←HC.o];exact congrFun ji s[k]) _ rfl 1 1 rfl (by omega) _ (by simp)).mono ?_;rintro e w3 ⟨rfl,D⟩;have N:=V.below D;clear V D;generalize w1.heap.size=T4 at *;generalize w.heap.size=T2 at N ⊢;go_wp2_with fail
 refine (fR R Q k s _ N.r O z [⟨#[63,39]⟩] false (by rw[lF];exact HQ.o) _ rfl 1 1 rfl (by omega) _ rfl).mono ?_;rintro e w4 ⟨rfl,E⟩;have X:=N.below E;clear N E;go_wp2_with fail
 refine (fR R Q k s _ X.r O z [i3] false (by rw[←HD.o];exact congrFun lK s[k]) _ rfl 1 1 rfl (by omega) _ rfl).mono ?_;rintro e F ⟨rfl,G⟩;have Y:=X.below G;clear X G;go_wp2_with fail
 refine (uI _ (Y.tab ht P)).mono ?_;rintro e w6 ⟨rfl,rfl⟩;have hB:=Hd (n7 F (.cells (ei.map string).toArray 9));have Z:=Y.below ((EB _ F).alloc (EA _) (.cells (ei.map string).toArray 9));generalize F.alloc (.cells (ei.map string).toArray 9)=w6 at *;have bb:some F.heap.size≠some Q:=by
  obtain⟨p,C⟩:=Z.r.q;intro e;injection e with e
  exact jM hB.o C (by decide) e
 generalize F.heap.size=B at *;clear Y;go_wp2_with fail
 go_loopw [14,8] (fun i _ wr=>∃m:Nat,m≤17∧i=int i64 m∧TS w R Q s k T2 T4 k 0 ⟨#[]⟩ wr∧wr.heap[B]?=some (.cells (ei.map string).toArray 9 (0,0))∧(ei.drop m).find? (ib s k)=ei.find? (ib s k)) (fun i _ _=>17-(intOf i).toNat)
 case atStart=>exact⟨0,by omega,rfl,Z,hB.o,rfl⟩
 case round =>
  obtain⟨m,hm,rfl,A,H,c⟩:=hrel;have l:=Hd c;have n:=Hd H;clear c H Z hB
  by_cases I:m<17
  ·obtain⟨g,hg⟩:∃g,ei[m]?=some g:=⟨ei[m]'I,EE I⟩;have ad:wr.cell? ⟨B,m,none⟩=some (.string g):=by rw[Fq _ _ _ _ _ _ n.o];simp[hg]
   have af:=Hd hg;clear hg;go_wp2_with fail
   refine (s8 R Q k s _ A.r (by omega) z).mono ?_;rintro e w7 ⟨⟨t,rfl,J,ak⟩,u⟩;have S7:=A.below u;have an:=Hd (aa u n.o (Ez.1 n.o).1);have aq:=Hd J;clear J ak A ad;have K:=Hd (zf (ib s k) ei m g af.o);have HP:=Hd (fun (W:World) (x:Bool) (hx:ib s k g=x)=>(Tryz.strings_HasPrefix t g W).mono (R':=fun e w'=>e=.returned (.bool x)∧W=w') (fun e w' hh=>⟨by rw[hh.1,aq.o];exact oT (fun b=>Ending.returned (.bool b)) hx,hh.2.symm⟩))
   cases a:ib s k g
   ·have f:=Hd a;clear a u
    go_wp2_with (first
     | (go_at_call 145;refine (HP.o _ _ f.o).mono ?_;rintro e w8 ⟨rfl,rfl⟩))
    refine⟨⟨m+1,by omega,by go_num,S7,an.o,?_⟩,by simp[intOf];omega⟩;rw[←l.o,K.o,f.o];rfl
   ·have hle:=mT s k g (by omega) a;have HF:Hid (al s k s[k]=(6,g,0,k+g.size)):=by
     show al s k s[k]=_
     rw[d.o,←l.o,K.o,a];rfl
    have f:=Hd a;clear a d
    go_wp2_with (first
     | (go_at_call 145;refine (HP.o _ _ f.o).mono ?_;rintro e w8 ⟨rfl,rfl⟩))
    go_loopw [24] (fun i wi=>∃q:Nat,q≤g.size∧i=int i64 q∧TS w R Q s k T2 T4 (k+q) 0 ⟨#[]⟩ wi) (fun i _=>g.size-(intOf i).toNat)
    case atStart=>exact⟨0,EM _,rfl,S7⟩
    case round =>
     obtain⟨q,bc,rfl,v⟩:=hrel
     by_cases bd:q<g.size
     ·obtain⟨r0,r1,q0,q1,⟨p,q2⟩,_⟩:=v.r.cells;obtain⟨p',L⟩:=v.r.q;have ar:=Hd L;clear L;go_wp2_with fail
      refine (jq Q (k+q) _ s _ ar.o (by omega) z).mono ?_;rintro e w9 ⟨rfl,y,M⟩;have S9:=v.grown y (v.r.grown y M);clear v y M r0 r1 q0 q1 q2;go_wp2_with fail
      exact⟨⟨q+1,by omega,by go_num,S9⟩,by simp[intOf];omega⟩
     ·obtain rfl:q=g.size:=by omega
      obtain⟨c0,c1,c2,f0,f1,f2⟩:=v.c4;have Sa:=v.kind 6;obtain⟨bk,bl,bn,bq,br,bt⟩:=Sa.c4;have Sb:=Sa.text g;obtain⟨d0,d1,d2,e0,e1,e2⟩:=Sb.c4;obtain⟨av,a1,a6,a7,a8,ba⟩:=Sb.c2;go_wp2_with fail
      exact Sb.fin HF.o rfl rfl _ rfl rfl
  ·obtain rfl:m=17:=by omega
   have HF:Hid (al s k s[k]=(0,⟨#[]⟩,200,k)):=by
    show al s k s[k]=_
    rw[d.o,←l.o];rfl
   clear d;obtain⟨d0,d1,d2,e0,e1,e2⟩:=A.c4;obtain⟨av,a1,a6,a7,a8,ba⟩:=A.c2;go_wp2_with fail
   exact A.fin HF.o rfl rfl _ rfl rfl
theorem zV(R Q k:Nat)(s:ByteArray)(w:World)(h:Rdr w R Q s k)(b:k<s.size)(c:s.size≤16384)(f:aM w)(a:Q≠1) :
  Calls Tryz.prog 99 #[.pointer (some ⟨R,0,none⟩)] w (gG w R Q s k s[k]):=by
 cases d:isLow s[k]
 ·cases e:s[k]==63||s[k]==39
  ·cases g:bU s[k]
   ·exact yk R Q k s w h b c f a d e g
   ·exact An R Q k s w h b c d e g
  ·exact yM R Q k s w h b c d e
 ·exact yN R Q k s w h b c f a d
attribute [local go_sem] Oper.semAt_some
abbrev Tok:=Nat×ByteArray×Nat
def toks:Nat→ByteArray→Nat→List Tok×Option (Nat×Nat)
 | 0,_,_=>([],none)
 | f+1,s,k =>
  if h:skip s k<s.size then
   if (al s (skip s k) s[skip s k]).2.2.1=0 then
    (((al s (skip s k) s[skip s k]).1,(al s (skip s k) s[skip s k]).2.1,skip s k)::(toks f s (al s (skip s k) s[skip s k]).2.2.2).1,(toks f s (al s (skip s k) s[skip s k]).2.2.2).2)
   else ([],some ((al s (skip s k) s[skip s k]).2.2.1,skip s k))
  else ([],none)
theorem AY(g:ByteArray)(h:g∈ei):0<g.size:=by
 have:ei.all (fun g=>decide (0<g.size))=true:=by kernel_rfl
 simpa using Fe.1 this g h
theorem eN(s:ByteArray)(k:Nat)(f:k<s.size)(a:(al s k s[k]).2.2.1=0):k<(al s k s[k]).2.2.2∧(al s k s[k]).2.2.2≤s.size:=by
 unfold al at a ⊢
 by_cases b:isLow s[k]=true
 ·rw[n9 b];have c:aW s[k]=true:=by unfold aW;rw[b];rfl
  have:=eG aW s (k+1);rw[fN aW s k f c]at this;exact⟨this,cQ _ _ _ (by omega)⟩
 ·rw[n8 b]at a ⊢
  by_cases h:(s[k]==63||s[k]==39)=true
  ·rw[n9 h];have:=eG aW s (k+1);exact⟨this,cQ _ _ _ (by omega)⟩
  ·rw[n8 h]at a ⊢
   by_cases d:bU s[k]=true
   ·rw[n9 d];have:=eG bU s (k+1);rw[fN bU s k f d]at this;exact⟨this,cQ _ _ _ (by omega)⟩
   ·rw[n8 d]at a ⊢
    cases e:ei.find? (fun g=>Lib.hasPrefix (s.data.toList.drop k) g.data.toList) with
    | none=>rw[e]at a;simp at a
    | some g =>
     have l:=AY g (List.mem_of_find?_eq_some e);have i:=mT s k g (by omega) (List.find?_some e);exact⟨by show k<k+g.size;omega,i⟩
theorem zF(s:ByteArray):∀(n f g k:Nat),s.size-k<n→s.size-k<f→s.size-k<g→toks f s k=toks g s k:=by
 intro n
 induction n with
 | zero=>intro f g k h;omega
 | succ n c =>
  intro f g k i l m;obtain⟨f,rfl⟩:∃d,f=d+1:=⟨f-1,by omega⟩;obtain⟨g,rfl⟩:∃e,g=e+1:=⟨g-1,by omega⟩;unfold toks
  by_cases a:skip s k<s.size
  ·rw[dif_pos a,dif_pos a]
   by_cases b:(al s (skip s k) s[skip s k]).2.2.1=0
   ·rw[n9 b,n9 b];have o:=eN s (skip s k) a b;have p:=jS s _ k (EA _);rw[c f g _ (by omega) (by omega) (by omega)]
   ·rw[n8 b,n8 b]
  ·rw[dif_neg a,dif_neg a]
theorem oS(s:ByteArray):∀(f k:Nat),k≤s.size→(toks f s k).1.length+k≤s.size:=by
 intro f
 induction f with
 | zero=>intro k a;simpa [toks]using a
 | succ f c =>
  intro k a;unfold toks
  by_cases h:skip s k<s.size
  ·rw[dif_pos h]
   by_cases b:(al s (skip s k) s[skip s k]).2.2.1=0
   ·rw[n9 b];have d:=eN s (skip s k) h b;have e:=jS s _ k (EA _);have g:=c _ d.2;simp only[Fb];omega
   ·rw[n8 b];simpa using a
  ·rw[dif_neg h];simpa using a
def aE(s:ByteArray) (k:Nat):List Tok×Option (Nat×Nat):=toks (s.size+1) s k
theorem dr(s:ByteArray)(k:Nat)(h:¬skip s k<s.size):aE s k=([],none):=by unfold aE toks;rw[dif_neg h]
theorem eM(s:ByteArray)(k:Nat)(h:skip s k<s.size)(a:(al s (skip s k) s[skip s k]).2.2.1≠0):aE s k=([],some ((al s (skip s k) s[skip s k]).2.2.1,skip s k)):=by unfold aE toks;rw[dif_pos h,n8 a]
theorem eF(s:ByteArray)(k:Nat)(h:skip s k<s.size)(a:(al s (skip s k) s[skip s k]).2.2.1=0) :
  aE s k=(((al s (skip s k) s[skip s k]).1,(al s (skip s k) s[skip s k]).2.1,skip s k)::(aE s (al s (skip s k) s[skip s k]).2.2.2).1,(aE s (al s (skip s k) s[skip s k]).2.2.2).2):=by
 have b:=eN s (skip s k) h a
 conv=>lhs;unfold aE toks
 rw[dif_pos h,n9 a];unfold aE;rw[zF s (s.size+1) s.size (s.size+1) _ (by omega) (by omega) (by omega)]
theorem mr(s:ByteArray)(k:Nat):skip s (skip s k)=skip s k:=by
 by_cases h:skip s k<s.size
 ·obtain⟨a,b⟩:=De s _ k (EA _) h;exact iC s _ h a b
 ·exact eu s _ (by omega)
theorem ik(s:ByteArray)(k:Nat):aE s (skip s k)=aE s k:=by
 have e:=mr s k
 by_cases h:skip s k<s.size
 ·by_cases a:(al s (skip s k) s[skip s k]).2.2.1=0
  ·rw[eF s k h a,eF s (skip s k) (by rw[e];exact h) (by simp only[e];exact a)];simp only[e]
  ·rw[eM s k h a,eM s (skip s k) (by rw[e];exact h) (by simp only[e];exact a)];simp only[e]
 ·rw[dr s k h,dr s (skip s k) (by rw[e];exact h)]
open Go.Shelf
attribute [local go_sem] Oper.semAt_some
def DO(s:ByteArray) (J:List Tok→World→Prop) (a:Nat→Nat→World→Prop) (e:Ending) (W:World):Prop:=
 (∃v,e=.returned v)∧(((aE s 0).2=none∧J (aE s 0).1 W)∨∃er pl,(aE s 0).2=some (er,pl)∧a er pl W)
def AB(R Q:Nat) (s:ByteArray) (k:Nat) (t:Nat×ByteArray×Nat×Nat) (pre:List Tok) (J:List Tok→World→Prop) (a:Nat→Nat→World→Prop) (W:World) (e:Ending) (W':World):Prop:=
 (t.2.2.1=0∧e=.returned (.bool true)∧J (pre++[(t.1,t.2.1,k)]) W'∧∀j,Rdr W R Q s j→Rdr W' R Q s j)∨(t.2.2.1≠0∧e=.returned (.bool false)∧a t.2.2.1 k W')
theorem all1_in(n l Bx R Q:Nat)(s:ByteArray)(X:s.size≤16384)(hQ:Q≠1)(J:List Tok→World→Prop)(Jx:Nat→Nat→World→Prop)
  (hJ:∀pre W W',J pre W→W.grownBy W' (some Q)→J pre W')
  (B:∀pre W,J pre W→aM W∧W.cell? ⟨Bx,0,none⟩=some (.pointer (some ⟨R,0,none⟩)))
  (hY:∀pre k W,(hk:k<s.size)→pre.length≤s.size→J pre W→YieldAt Fence.wide (n-1) Tryz.prog l #[.agg #[int .u8 (al s k s[k]).1,.string (al s k s[k]).2.1,int i64 k],int i64 (al s k s[k]).2.2.1] W (AB R Q s k (al s k s[k]) pre J Jx W))
  (W:World) (hr:Rdr W R Q s 0) (h0:J [] W) :
  CallsIn Fence.wide n Tryz.prog 96 #[.func (.yield l) #[] #[],.pointer (some ⟨Bx,0,none⟩)] W (DO s J Jx):=by
 have Y:=Hd hJ;have c:=Hd B;have HY:=Hd hY;clear hJ B hY;refine callsIn_of_wp Tryz.func96 rfl trivial ?_ rfl;simp only[Tryz.ntmps96,List.size_toArray,Fb,List.length_nil,Nat.reduceAdd,Nat.reduceSub,Array.replicate_succ,Array.replicate_zero,List.push_toArray,List.append_toArray,List.nil_append,List.cons_append];obtain⟨m,a⟩:=c.o _ _ h0
 gi_wp2_with fail
 refine⟨trivial,(fun h=>by cases h),callsIn_wide.2 ((ri R Q 0 s W hr (EM _) X).mono ?_)⟩;rintro e w1 ⟨rfl,C,D⟩;have E:=Y.o _ _ _ h0 C;clear m a
 gi_wp2_with fail
 gi_loopw [5,20] (fun _ _ wr=>∃pre k,k≤s.size∧skip s k=k∧Rdr wr R Q s k∧J pre wr∧pre++(aE s k).1=(aE s 0).1∧(aE s k).2=(aE s 0).2) (fun _ _ wr=>s.size-pw wr Q)
 case atStart=>exact⟨[],skip s 0,wU _ _ _ (EA _) (EM _),mr _ _,D,E,by rw[ik];rfl,by rw[ik]⟩
 case round =>
  obtain⟨pre,k,hk,F,r,G,H,I⟩:=hrel;have d:=Hd F;have u:=Hd H;have v:=Hd I;clear F H I h0 hr D E C;obtain⟨m,a⟩:=c.o _ _ G;obtain⟨r0,r1,q0,q1,⟨p,q2⟩,f1,f2,ad,af⟩:=r.cells
  gi_wp2_with fail
  refine⟨trivial,(fun h=>by cases h),callsIn_wide.2 ((s4 Q k s wr q0 q1 hk X).mono ?_)⟩;rintro e w2 ⟨rfl,nd,rfl⟩;have K:Ft wr (wr.drewN nd):=below_drewN (EB _ _) nd;have ak:=r.keep K;have x:=Y.o _ _ _ G (aH K _);generalize wr.drewN nd=w2 at *;clear m a r0 r1 q0 q1 q2 f1 f2 ad af;obtain⟨m,a⟩:=c.o _ _ x
  by_cases f:k<s.size
  ·gi_wp2_with fail
   refine⟨trivial,(fun h=>by cases h),callsIn_wide.2 ((zV R Q k s w2 ak f X m hQ).mono ?_)⟩;rintro e w3 ⟨rfl,an,L⟩;have M:=Y.o _ _ _ x an;clear m a;obtain⟨m,a⟩:=c.o _ _ M;have N:pre.length≤s.size:=by
    have h1:=oS s (s.size+1) 0 (EM _);have h2:=oT List.length u.o;simp only[EO]at h2;have h3:(aE s 0).1.length+0≤s.size:=h1;omega
   have hY:=HY.o pre k w3 f N M;clear N;generalize hT:al s k s[k]=t at *;obtain⟨kd,tx,er,y⟩:=t;dsimp only at hY L ⊢;have HT:=Hd hT;clear hT;obtain⟨fn,tmps,assign,body,hy,hR⟩:=hY;have O:skip s k<s.size:=by rw[d.o];exact f
   have hE:al s (skip s k) s[skip s k]=(kd,tx,er,y):=by simp only[d.o];exact HT.o
   have Z:=Hd hE;clear hE
   gi_wp2_with fail
   refine⟨(fun h=>by cases h),hR.mono ?_⟩;rintro e w4 (⟨b,rfl,P,g⟩|⟨b,rfl,aq⟩)
   ·have ar:=g _ L;have z:=Hd b;clear b hy m a g;obtain⟨m,a⟩:=c.o _ _ P;have S:=eN s k f (by rw[HT.o];exact z.o);rw[HT.o]at S;obtain⟨a6,T⟩:k<y∧y≤s.size:=S
    gi_wp2_with fail
    refine⟨trivial,(fun h=>by cases h),callsIn_wide.2 ((ri R Q y s w4 ar T X).mono ?_)⟩;rintro e w5 ⟨rfl,av,U⟩;have a1:=Y.o _ _ _ P av;have hle:=wU s _ y (EA _) T;have a7:=jS s _ y (EA _);clear m a;have A:=eF s k O (by rw[Z.o];exact z.o);rw[Z.o]at A;have V:=Hd A;clear A
    gi_wp2_with fail
    refine⟨⟨pre++[(kd,tx,k)],skip s y,hle,mr _ _,U,a1,?_,?_⟩,?_⟩
    ·rw[ik,←u.o,V.o];simp[d.o]
    ·rw[ik,←v.o,V.o]
    ·rw[U.pos,r.pos];omega
   ·have i:=eM s k O (by rw[Z.o];exact b);rw[Z.o]at i;have HB:=Hd i;have z:=Hd b;clear i b hy
    gi_wp2_with fail
    refine bodyPost_ret (results_none rfl _ _ _) rfl ?_;refine⟨⟨_,rfl⟩,.inr ⟨er,k,?_,aq⟩⟩;rw[←v.o,HB.o];simp only[d.o]
  ·have hend:=dr s k (by rw[d.o];exact f);have q:=Hd hend;clear hend
   gi_wp2_with fail
   go_end0
   refine⟨⟨_,rfl⟩,.inl ⟨?_,?_⟩⟩
   ·rw[←v.o,q.o]
   ·rw[←u.o,q.o]
    simpa using x
