/- Parts of one proof, joined; conditions stand in each theorem. -/
import Derived.Test.YtmpekinjoeibbaaGreatDoorMA
import Derived.Deep.RegionHeld3
import Derived.Deep.RegionWith
import Derived.Handy
import Derived.RangeFuncNested
import Derived.RangeFuncBound
import Derived.RangeFuncCalls
import Derived.RangeFuncLeaves
import Derived.Shelf.Abstract
import Derived.Shelf.RegionOpen
import Derived.OwnWalkIn
import Derived.TacticsInMore
import Derived.LoopNIn
import Derived.LoopIn
open Go renaming World→p7,Value→r3,undef→tT,Calls→r9
open Go.Ending renaming returned→tF
open Go.Value renaming tuple→wF,agg→s3,int→I,string→p9,pointer→tv,bool→ur
open Go.IntKind renaming u8→J,i64→Y
open Option renaming some→A,none→V
open Go.Obj renaming cells→p8
open Go.Proofs.Tryz renaming prog→r6
open Bool renaming true→r5,false→r7
namespace Go.Proofs.YtmpekinjoeibbaaGreatDoor
set_option maxHeartbeats 1000000
open Go.RowKit
theorem jN:(fun c=>[dj].any (hasB · c))=isLow:=by
 funext c
 show (hasB dj c||false)=_
 rw[lu,Bool.or_false]
theorem l8:(fun c=>[jD].any (hasB · c))=bQ:=by
 funext c
 show (hasB jD c||false)=_
 rw[yP,Bool.or_false]
theorem lH:(fun c=>[fD].any (hasB · c))=aZ:=by
 funext c
 show (hasB fD c||false)=_
 rw[uH,Bool.or_false]
theorem l5(c:UInt8):[(⟨#[63,39]⟩:ByteArray)].any (hasB · c)=(c==63||c==39):=by
 show ((([63,39]:List UInt8).contains c)||false)=_
 simp only[List.contains_cons,List.contains_nil,Bool.or_false]
theorem rS(c:UInt8):[(⟨#[39]⟩:ByteArray)].any (hasB · c)=(c==39):=by
 show ((([39]:List UInt8).contains c)||false)=_
 simp only[List.contains_cons,List.contains_nil,Bool.or_false]
def an(s:ByteArray) (k:Nat) (c:UInt8):Nat×ByteArray×Nat×Nat:=
 if isLow c then (if j8 (s.extract k (aB aZ s k)).data.toList then 1 else 2,s.extract k (aB aZ s k),if aB aZ s k-k≤24 then 0 else 201,aB aZ s k)
 else if c==63||c==39 then (if c==39 then 5 else 3,s.extract (k+1) (aB aZ s (k+1)),if eR (s.extract (k+1) (aB aZ s (k+1))).data.toList then 0 else 201,aB aZ s (k+1))
 else if bQ c then (4,s.extract k (aB bQ s k),if (number (s.extract k (aB bQ s k)).data.toList).isSome&&!((s.data.toList.drop (aB bQ s k)).head?.any aZ) then 0 else 201,aB bQ s k)
 else match eG.find? (fun g=>Lib.hasPrefix (s.data.toList.drop k) g.data.toList) with
  | some g=>(6,g,0,k+g.size)
  | none=>(0,⟨#[]⟩,200,k)
def ir(w:p7) (R Q:Nat) (s:ByteArray) (k:Nat) (c:UInt8) (e:Ending) (w':p7):Prop:=
 e=tF (wF #[s3 #[I J (an s k c).1,p9 (an s k c).2.1,I Y k],I Y (an s k c).2.2.1])∧w.grownBy w' (A Q)∧Rdr w' R Q s (an s k c).2.2.2
theorem yh{w:p7}{R Q:Nat}{s:ByteArray}{k:Nat}{c:UInt8}{w':p7}(kd:Nat)(tx:ByteArray)(er a:Nat)(h:an s k c=(kd,tx,er,a))(b:w.grownBy w' (A Q))(d:Rdr w' R Q s a) :
  ir w R Q s k c (tF (wF #[s3 #[I J kd,p9 tx,I Y k],I Y er])) w':=by
 unfold ir;rw[h];exact⟨Z,b,d⟩
theorem jX(w e:p7)(R Q:Nat)(s:ByteArray)(k:Nat)(c:UInt8)(T kd er h:Nat)(f g:Int)(tx:ByteArray)(a0 b0 c0:r3)(t:e.heap[T]?=A (p8 #[a0,b0,c0] 89 (0,0)))(a:w.heap.size≤T)(b:T≠R)(d:T≠Q)
  (u:w.grownBy e (A Q)) (x:Rdr e R Q s h) (hF:an s k c=(kd,tx,er,h)) (l:f=kd) (m:g=er) (tmps:Array r3) (y:tmps.getD 2 tT=tv (A ⟨T,0,V⟩)) (z:tmps.getD 3 tT=I Y g) :
  bodyPost r6 Tryz.f95 (ir w R Q s k c) .ret ⟨tmps,[]⟩ (((e.setCell ⟨T,0,V⟩ (I J f)).setCell ⟨T,1,V⟩ (p9 tx)).setCell ⟨T,2,V⟩ (I Y k)):=by
 subst l m;have n:(((e.setCell ⟨T,0,V⟩ (I J kd)).setCell ⟨T,1,V⟩ (p9 tx)).setCell ⟨T,2,V⟩ (I Y k)).heap[T]?=A (p8 #[I J kd,p9 tx,I Y k] 89 (0,0)):=
  heap_set (heap_set (heap_set t 0 _) 1 _) 2 _
 have o:=dK (dK (dK u a 0 (I J kd)) a 1 (p9 tx)) a 2 (I Y k);have p:=((x.b (i:=0) (I J kd) b d).b (i:=1) (p9 tx) b d).b (i:=2) (I Y k) b d;generalize ((e.setCell ⟨T,0,V⟩ (I J kd)).setCell ⟨T,1,V⟩ (p9 tx)).setCell ⟨T,2,V⟩ (I Y k)=B at *;obtain⟨c0,c1,c2,_⟩:=cells3 n;refine bodyPost_ret (v:=wF #[s3 #[I J kd,p9 tx,I Y k],I Y er]) ?_ Z (yh kd tx er h hF o p);have q:tmps[2]?.getD tT=tv (A ⟨T,0,V⟩):=by simpa using y
 have r:tmps[3]?.getD tT=I Y er:=by simpa using z
 simp[results,Tryz.results95,go_sem,q,r,c0,c1,c2]
theorem ext_list(s:ByteArray)(a b:Nat)(h:a<b)(c:b≤s.size):(s.extract a b).data.toList=(s[a]'(by omega))::(s.extract (a+1) b).data.toList:=by
 have e:∀x y,(s.extract x y).data.toList=(s.data.toList.drop x).take (y-x):=by intro x y;rw[ByteArray.data_extract,Array.toList_extract]
 rw[e,e,drop_cons s a (by omega),show b-a=(b-(a+1))+1 from by omega,Fg]
theorem ext_size(s:ByteArray)(a b:Nat)(c:b≤s.size):(s.extract a b).size=b-a:=by rw[ByteArray.size_extract];omega
theorem yg(s:ByteArray)(a b:Nat)(h:a<b)(c:b≤s.size)(e:isLow s[a]=r5):eR (s.extract a b).data.toList=decide (b-a≤24):=by
 have d:(s.extract a b).data.toList.length=b-a:=by rw[Fz];exact ext_size s a b c
 rw[ext_list s a b h c]at d ⊢;simp only[eR,e,Bool.and_true,d]
theorem zj(R Q k:Nat)(s:ByteArray)(w:p7)(h:Rdr w R Q s k)(hk:k<s.size)(hs:s.size≤16384)(ht:aM w)(hQ:Q≠1)
  (hc:isLow s[k]=r5) :
  r9 r6 95 #[tv (A ⟨R,0,V⟩)] w (ir w R Q s k s[k]):=by
 have ad:∀(W:p7) (T:Nat) (cs:Array r3),W.heap[T]?=A (p8 cs 89 (0,0))→Rdr W R Q s k→A T≠A Q:=fun W T cs hT hr e=>by
  obtain⟨p,hq⟩:=hr.q;injection e with e
  exact iz hT hq (by decide) e
 have af:=Hd ad;clear ad;have HC:=Hd hc
 go_enter Tryz.func95,Tryz.ntmps95
 go_wp2_with fail
 have r:FS w (w.alloc (p8 #[I J 0,p9 ⟨#[]⟩,I Y 0] 89)):=(EU _ w).alloc (ET _) _;have T2:=ot w (p8 #[I J 0,p9 ⟨#[]⟩,I Y 0] 89);refine (tP R Q k s _ (h.t r) (by omega) hs).mono ?_;rintro e w1 ⟨rfl,G⟩;have a:FS w w1:=r.trans (G.mono r.size);have H:=Hd (ag G T2 (by simp));have K:=h.t a;clear T2 G r;have t:FS w1 (w1.alloc (p8 #[I J 0,p9 ⟨#[]⟩,I Y k] 89)):=(EU _ w1).alloc (ET _) _;have T4:=Hd (ot w1 (p8 #[I J 0,p9 ⟨#[]⟩,I Y k] 89));go_wp2_with fail
 refine (gv R Q k s _ (K.t t) hk hs [dj] r5 (by rw[←HC.o];exact congrFun jN s[k]) _ Z 1 1 Z (by omega) _ (by simp)).mono ?_;rintro e w3 ⟨rfl,L⟩;have f:FS w1 w3:=t.trans (L.mono t.size);have B:FS w w3:=a.trans (f.mono a.size);have M:=K.t f;obtain⟨N,m⟩:=zz2 (ag L T4.o (by simp)) (ag f H.o (ES.1 H.o).1);clear t L f T4;go_wp2_with fail
 refine (take_at R Q k s _ M (by omega) hs [fD] aZ lH _ Z 1 1 Z (by omega) _ Z).mono ?_;rintro e w4 ⟨rfl,u,bc⟩;have C:w.grownBy w4 (A Q):=o1 (aL B _) u;obtain⟨n,ak⟩:=zz2 (aJ u N.o (af.o _ _ _ N.o M)) (aJ u m.o (af.o _ _ _ m.o M));have bd:=ext_size s k (aB aZ s k) (dl aZ s k (by omega));have D:aZ s[k]=true:=by unfold aZ;rw[HC.o];rfl
 have aq:k<aB aZ s k:=by rw[←gn aZ s k hk D];exact fa _ _ _
 have ar:=dl aZ s k (by omega);have av:=yg s k (aB aZ s k) aq ar HC.o;generalize hE:aB aZ s k=d at *;generalize hX:s.extract k d=tx at *;obtain⟨HE,HX⟩:=zz2 hE hX;have br:tx.size≤16384:=by omega
 have bk:=Hd av;clear bd D av;clear hE hX u B N m;have g:Hid (w1.heap.size≠R∧w1.heap.size≠Q):=by
  obtain⟨_,_,_,_,_,_,_,bt,bB⟩:=K.h
  show w1.heap.size≠R∧w1.heap.size≠Q
  omega
 obtain⟨c0,c1,c2,f0,f1,f2⟩:=cells3 n.o;have HG:Hid (w.grownBy ((w4.setCell ⟨w1.heap.size,0,V⟩ (I J 2)).setCell ⟨w1.heap.size,1,V⟩ (p9 tx)) (A Q)):=dK (dK C a.size _ _) a.size _ _;have P:=Hd (heap_set (heap_set n.o 0 (I J 2)) 1 (p9 tx));have S:w1.heap.size≠w.heap.size:=by have:=(ES.1 H.o).1;omega
 obtain⟨bl,E⟩:=zz2 ((bc.b (T:=w1.heap.size) (i:=0) (I J 2) g.o.1 g.o.2).b (i:=1) (p9 tx) g.o.1 g.o.2) (aH (aH ak.o S 0 (I J 2)) S 1 (p9 tx));go_wp2_with fail
 generalize (w4.setCell ⟨w1.heap.size,0,V⟩ (I J 2)).setCell ⟨w1.heap.size,1,V⟩ (p9 tx)=F at *;have bn:Rdr F R Q s d:=bl.o;have a1:aM F:=ht.N HG.o hQ;clear n c0 c1 c2 f0 f1 f2 C;obtain⟨c0,c1,c2,f0,f1,f2⟩:=cells3 P.o;have a6:=(ES.1 P.o).1
 go_region_held3 (fun w'=>w'.cell? ⟨w1.heap.size,1,V⟩=A (p9 tx))
  (first
   | assumption
   | (exact (World.cell?_alloc_lt F _ ⟨w1.heap.size,1,V⟩ a6).trans c1))
  (first
   | (go_at_call 168;refine (sA _ (a1.C (EU _ _).drew)).mono ?_;rintro e w6 ⟨rfl,rfl⟩)
   | (go_at_call 167;refine (lB _ _ tx _ (by exact ot F _)).mono ?_;rintro e w6 ⟨rfl,rfl⟩))
 have v:FS F (F.alloc (p8 (gx.map p9).toArray 9)).drew:=((EU _ F).alloc (ET _) _).drew;generalize (F.alloc (p8 (gx.map p9).toArray 9)).drew=w6 at *;obtain⟨bq,y,U⟩:=zz3 (ag v P.o a6) (ag v E.o (ES.1 E.o).1) (grown_below HG.o v);clear c0 c1 c2 f0 f1 f2 a1 HG;obtain⟨c0,c1,c2,f0,f1,f2⟩:=cells3 bq.o;obtain⟨d0,d1,d2,e0,e1,e2⟩:=cells3 y.o;have z:=Hd (fun W (x:Bool) (hx:decide (d-k≤24)=x)=>(jW tx W (by omega)).mono (R':=fun e w'=>e=tF (ur x)∧W=w') (fun e w' hh=>⟨by rw[hh.1,bk.o,hx],hh.2⟩));have b:Hid (an s k s[k]=(if j8 tx.data.toList then 1 else 2,tx,if d-k≤24 then 0 else 201,d)):=by
  show an s k s[k]=_
  unfold an;rw[oA HC.o,HE.o,HX.o]
 have X:=bn.t v;have a7:w.heap.size≠R∧w.heap.size≠Q:=by
  obtain⟨_,_,_,_,_,_,_,bR,b1⟩:=h.h;omega
 have c:=Hd a7;clear a7
 cases hw:j8 tx.data.toList
 ·cases l:decide (d-k≤24)
  ·have HN:=Hd l;have HF:Hid (an s k s[k]=(2,tx,201,d)):=by
    show an s k s[k]=_
    rw[b.o,hw,ox (by simp),ox (by simpa using l)]
   clear l hw b
   go_wp2_with (first
    | (go_at_call 169;refine (z.o _ _ HN.o).mono ?_;rintro e w7 ⟨rfl,rfl⟩))
   exact jX w _ R Q s k _ _ 2 201 d 2 201 tx _ _ _ y.o (ET _) c.o.1 c.o.2 U.o X HF.o Z Z _ Z Z
  ·have HN:=Hd l;have HF:Hid (an s k s[k]=(2,tx,0,d)):=by
    show an s k s[k]=_
    rw[b.o,hw,ox (by simp),oA (by simpa using l)]
   clear l hw b
   go_wp2_with (first
    | (go_at_call 169;refine (z.o _ _ HN.o).mono ?_;rintro e w7 ⟨rfl,rfl⟩))
   exact jX w _ R Q s k _ _ 2 0 d 2 0 tx _ _ _ y.o (ET _) c.o.1 c.o.2 U.o X HF.o Z Z _ Z Z
 ·obtain⟨a8,ba,bb⟩:=zz3 (aH y.o S 0 (I J 1)) (dK U.o a.size 0 (I J 1)) (X.b (T:=w1.heap.size) (i:=0) (I J 1) g.o.1 g.o.2)
  cases l:decide (d-k≤24)
  ·have HN:=Hd l;have HF:Hid (an s k s[k]=(1,tx,201,d)):=by
    show an s k s[k]=_
    rw[b.o,hw,oA Z,ox (by simpa using l)]
   clear l hw b
   go_wp2_with (first
    | (go_at_call 169;refine (z.o _ _ HN.o).mono ?_;rintro e w7 ⟨rfl,rfl⟩))
   exact jX w _ R Q s k _ _ 1 201 d 1 201 tx _ _ _ a8.o (ET _) c.o.1 c.o.2 ba.o bb.o HF.o Z Z _ Z Z
  ·have HN:=Hd l;have HF:Hid (an s k s[k]=(1,tx,0,d)):=by
    show an s k s[k]=_
    rw[b.o,hw,oA Z,oA (by simpa using l)]
   clear l hw b
   go_wp2_with (first
    | (go_at_call 169;refine (z.o _ _ HN.o).mono ?_;rintro e w7 ⟨rfl,rfl⟩))
   exact jX w _ R Q s k _ _ 1 0 d 1 0 tx _ _ _ a8.o (ET _) c.o.1 c.o.2 ba.o bb.o HF.o Z Z _ Z Z
structure TS (w:p7) (R Q:Nat) (s:ByteArray) (k T2 T4 j:Nat) (kd:Int) (tx:ByteArray) (W:p7):Prop where
 t2:W.heap[T2]?=A (p8 #[I J 0,p9 ⟨#[]⟩,I Y 0] 89 (0,0))
 t4:W.heap[T4]?=A (p8 #[I J kd,p9 tx,I Y k] 89 (0,0))
 g:w.grownBy W (A Q)
 r:Rdr W R Q s j
 n2:w.heap.size≤T2
 n4:w.heap.size≤T4
 ne:T4≠T2
 r2:T2≠R∧T2≠Q
 r4:T4≠R∧T4≠Q
section
variable {w W W':p7} {R Q k T2 T4 j:Nat} {s:ByteArray} {kd:Int} {tx:ByteArray}
theorem TS.C(h:TS w R Q s k T2 T4 j kd tx W)(a:FS W W'):TS w R Q s k T2 T4 j kd tx W':=
 { h with t2:=ag a h.t2 (ES.1 h.t2).1,t4:=ag a h.t4 (ES.1 h.t4).1,g:=grown_below h.g a,r:=h.r.t a }
theorem TS.N{b:Nat}(h:TS w R Q s k T2 T4 j kd tx W)(a:W.grownBy W' (A Q))(c:Rdr W' R Q s b):TS w R Q s k T2 T4 b kd tx W':=
 { h with t2:=aJ a h.t2 (by intro e;injection e with e;exact h.r2.2 e),t4:=aJ a h.t4 (by intro e;injection e with e;exact h.r4.2 e),g:=o1 h.g a,r:=c }
theorem TS.b(h:TS w R Q s k T2 T4 j kd tx W)(a:Int):TS w R Q s k T2 T4 j a tx (W.setCell ⟨T4,0,V⟩ (I J a)):=
 { h with t2:=aH h.t2 h.ne _ _,t4:=heap_set h.t4 0 _,g:=dK h.g h.n4 _ _,r:=h.r.b _ h.r4.1 h.r4.2 }
theorem TS.h(h:TS w R Q s k T2 T4 j kd tx W)(a:ByteArray):TS w R Q s k T2 T4 j kd a (W.setCell ⟨T4,1,V⟩ (p9 a)):=
 { h with t2:=aH h.t2 h.ne _ _,t4:=heap_set h.t4 1 _,g:=dK h.g h.n4 _ _,r:=h.r.b _ h.r4.1 h.r4.2 }
theorem TS.tab(h:TS w R Q s k T2 T4 j kd tx W)(a:aM w)(b:Q≠1):aM W:=a.N h.g b
theorem TS.c4(h:TS w R Q s k T2 T4 j kd tx W):W.cell? ⟨T4,0,V⟩=A (I J kd)∧W.cell? ⟨T4,1,V⟩=A (p9 tx)∧W.cell? ⟨T4,2,V⟩=A (I Y k)∧W.frozen? ⟨T4,0,V⟩=r7∧W.frozen? ⟨T4,1,V⟩=r7∧W.frozen? ⟨T4,2,V⟩=false:=cells3 h.t4
theorem TS.c2(h:TS w R Q s k T2 T4 j kd tx W):W.cell? ⟨T2,0,V⟩=A (I J 0)∧W.cell? ⟨T2,1,V⟩=A (p9 ⟨#[]⟩)∧W.cell? ⟨T2,2,V⟩=A (I Y 0)∧W.frozen? ⟨T2,0,V⟩=r7∧W.frozen? ⟨T2,1,V⟩=r7∧W.frozen? ⟨T2,2,V⟩=false:=cells3 h.t2
end
theorem TS.start{w w1:p7}{R Q k:Nat}{s:ByteArray}(h:Rdr w R Q s k)(c:Below (w.alloc (p8 #[I J 0,p9 ⟨#[]⟩,I Y 0] 89)).heap.size (w.alloc (p8 #[I J 0,p9 ⟨#[]⟩,I Y 0] 89)) w1) :
  TS w R Q s k w.heap.size w1.heap.size k 0 ⟨#[]⟩ (w1.alloc (p8 #[I J 0,p9 ⟨#[]⟩,I Y k] 89)):=by
 have d:FS w (w.alloc (p8 #[I J 0,p9 ⟨#[]⟩,I Y 0] 89)):=(EU _ w).alloc (ET _) _;have T2:=ot w (p8 #[I J 0,p9 ⟨#[]⟩,I Y 0] 89);have a:FS w w1:=d.trans (c.mono d.size);have e:=ag c T2 (by simp);have f:=h.t a;have b:FS w1 (w1.alloc (p8 #[I J 0,p9 ⟨#[]⟩,I Y k] 89)):=(EU _ w1).alloc (ET _) _;have i:=(ES.1 e).1;obtain⟨_,_,_,_,_,_,_,l,m⟩:=h.h;exact { t2:=ag b e i,t4:=ot w1 _,g:=aL (a.trans (b.mono a.size)) _,r:=f.t b,n2:=ET _,n4:=a.size,ne:=by omega,r2:=by omega,r4:=by omega }
theorem TS.fin{w W:p7}{R Q k T2 T4:Nat}{s:ByteArray}{c:UInt8}{kd er d:Nat}{a b:Int}{tx:ByteArray}(h:TS w R Q s k T2 T4 d a tx W)(hF:an s k c=(kd,tx,er,d))(e:a=kd)(f:b=er)(tmps:Array r3)(i:tmps.getD 2 tT=tv (A ⟨T2,0,V⟩))(l:tmps.getD 3 tT=I Y b) :
  bodyPost r6 Tryz.f95 (ir w R Q s k c) .ret ⟨tmps,[]⟩ (((W.setCell ⟨T2,0,V⟩ (I J a)).setCell ⟨T2,1,V⟩ (p9 tx)).setCell ⟨T2,2,V⟩ (I Y k)):=
 jX w W R Q s k c T2 kd er d a b tx _ _ _ h.t2 h.n2 h.r2.1 h.r2.2 h.g h.r hF e f tmps i l
theorem zi(R Q k:Nat)(s:ByteArray)(w:p7)(h:Rdr w R Q s k)(H:k<s.size)(x:s.size≤16384)
  (hc:isLow s[k]=r7) (hq:(s[k]==63||s[k]==39)=r5) :
  r9 r6 95 #[tv (A ⟨R,0,V⟩)] w (ir w R Q s k s[k]):=by
 obtain⟨P,S⟩:=zz2 hc hq;clear hc hq
 go_enter Tryz.func95,Tryz.ntmps95
 go_wp2_with fail
 refine (tP R Q k s _ (h.t ((EU _ w).alloc (ET _) _)) (by omega) x).mono ?_;rintro e w1 ⟨rfl,T⟩;have U:=TS.start h T;go_wp2_with fail
 refine (gv R Q k s _ U.r H x [dj] r7 (by rw[←P.o];exact congrFun jN s[k]) _ Z 1 1 Z (by omega) _ (by simp)).mono ?_;rintro e w3 ⟨rfl,K⟩;have N:=U.C K;clear U K;generalize w1.heap.size=T4 at *;generalize w.heap.size=T2 at N ⊢;go_wp2_with fail
 refine (gv R Q k s _ N.r H x [⟨#[63,39]⟩] r5 (by rw[l5];exact S.o) _ Z 1 1 Z (by omega) _ Z).mono ?_;rintro e w4 ⟨rfl,L⟩;have X:=N.C L;clear N L;obtain⟨c0,c1,c2,f0,f1,f2⟩:=X.c4;have c:=X.b 3;go_wp2_with fail
 have hz:=Hd (show (w4.setCell ⟨T4,0,V⟩ (I J 3)).heap.size=w4.heap.size by simp);generalize w4.setCell ⟨T4,0,V⟩ (I J 3)=w5 at *;clear c0 c1 c2 f0 f1 f2 X
 cases d:s[k]==39
 ·refine (gv R Q k s _ c.r H x [⟨#[39]⟩] r7 (by rw[rS];exact d) _ Z 1 1 Z (by omega) _ hz.o).mono ?_;rintro e w6 ⟨rfl,i⟩;have g:=c.C i;have z:=Hd d;clear c i d;obtain⟨c0,c1,c2,f0,f1,f2⟩:=g.c4;obtain⟨r0,r1,q0,q1,⟨p,q2⟩,_⟩:=g.r.h;obtain⟨p',l⟩:=g.r.q;have B:=Hd l;clear l;go_wp2_with fail
  refine (jS Q k _ s _ B.o H x).mono ?_;rintro e w7 ⟨rfl,b,m⟩;have C:=g.N b (g.r.N b m);clear g b m c0 c1 c2 f0 f1 f2 r0 r1 q0 q1 q2;go_wp2_with fail
  refine (take_at R Q (k+1) s _ C.r (by omega) x [fD] aZ lH _ Z 1 1 Z (by omega) _ Z).mono ?_;rintro e w8 ⟨rfl,n,t⟩;have M:=C.N n t;clear C n t;have u:=dl aZ s (k+1) (by omega);have v:(s.extract (k+1) (aB aZ s (k+1))).size≤16384:=by rw[ext_size s _ _ u];omega
  have a:Hid (an s k s[k]=(3,s.extract (k+1) (aB aZ s (k+1)),if eR (s.extract (k+1) (aB aZ s (k+1))).data.toList then 0 else 201,aB aZ s (k+1))):=by
   show an s k s[k]=_
   unfold an;rw[ox (by rw[P.o];simp),oA S.o,ox (by rw[z.o];simp)]
  generalize aB aZ s (k+1)=D at *;generalize s.extract (k+1) D=tx at *;obtain⟨c0,c1,c2,f0,f1,f2⟩:=M.c4;have y:=M.h tx;obtain⟨d0,d1,d2,e0,e1,e2⟩:=y.c4;obtain⟨ad,af,ak,aq,ar,av⟩:=y.c2
  cases f:eR tx.data.toList
  ·have E:Hid (an s k s[k]=(3,tx,201,D)):=by
    show an s k s[k]=_
    rw[a.o,f];rfl
   have F:=Hd f;clear a f
   go_wp2_with (first
    | (go_at_call 169;refine (jW tx _ v).mono ?_;rintro e w9 ⟨rfl,rfl⟩;rw[F.o]))
   exact y.fin E.o Z Z _ Z Z
  ·have E:Hid (an s k s[k]=(3,tx,0,D)):=by
    show an s k s[k]=_
    rw[a.o,f];rfl
   have F:=Hd f;clear a f
   go_wp2_with (first
    | (go_at_call 169;refine (jW tx _ v).mono ?_;rintro e w9 ⟨rfl,rfl⟩;rw[F.o]))
   exact y.fin E.o Z Z _ Z Z
 ·refine (gv R Q k s _ c.r H x [⟨#[39]⟩] r5 (by rw[rS];exact d) _ Z 1 1 Z (by omega) _ hz.o).mono ?_;rintro e w6 ⟨rfl,i⟩;have G:=c.C i;have z:=Hd d;clear c i d;obtain⟨c0,c1,c2,f0,f1,f2⟩:=G.c4;have g:=G.b 5;obtain⟨r0,r1,q0,q1,⟨p,q2⟩,_⟩:=g.r.h;obtain⟨p',l⟩:=g.r.q;have B:=Hd l;clear l;go_wp2_with fail
  generalize w6.setCell ⟨T4,0,V⟩ (I J 5)=a1 at *;refine (jS Q k _ s _ B.o H x).mono ?_;rintro e w7 ⟨rfl,b,m⟩;have C:=g.N b (g.r.N b m);clear g G b m c0 c1 c2 f0 f1 f2 r0 r1 q0 q1 q2;go_wp2_with fail
  refine (take_at R Q (k+1) s _ C.r (by omega) x [fD] aZ lH _ Z 1 1 Z (by omega) _ Z).mono ?_;rintro e w8 ⟨rfl,n,t⟩;have M:=C.N n t;clear C n t;have u:=dl aZ s (k+1) (by omega);have v:(s.extract (k+1) (aB aZ s (k+1))).size≤16384:=by rw[ext_size s _ _ u];omega
  have a:Hid (an s k s[k]=(5,s.extract (k+1) (aB aZ s (k+1)),if eR (s.extract (k+1) (aB aZ s (k+1))).data.toList then 0 else 201,aB aZ s (k+1))):=by
   show an s k s[k]=_
   unfold an;rw[ox (by rw[P.o];simp),oA S.o,oA z.o]
  generalize aB aZ s (k+1)=D at *;generalize s.extract (k+1) D=tx at *;obtain⟨c0,c1,c2,f0,f1,f2⟩:=M.c4;have y:=M.h tx;obtain⟨d0,d1,d2,e0,e1,e2⟩:=y.c4;obtain⟨ad,af,ak,aq,ar,av⟩:=y.c2
  cases f:eR tx.data.toList
  ·have E:Hid (an s k s[k]=(5,tx,201,D)):=by
    show an s k s[k]=_
    rw[a.o,f];rfl
   have F:=Hd f;clear a f
   go_wp2_with (first
    | (go_at_call 169;refine (jW tx _ v).mono ?_;rintro e w9 ⟨rfl,rfl⟩;rw[F.o]))
   exact y.fin E.o Z Z _ Z Z
  ·have E:Hid (an s k s[k]=(5,tx,0,D)):=by
    show an s k s[k]=_
    rw[a.o,f];rfl
   have F:=Hd f;clear a f
   go_wp2_with (first
    | (go_at_call 169;refine (jW tx _ v).mono ?_;rintro e w9 ⟨rfl,rfl⟩;rw[F.o]))
   exact y.fin E.o Z Z _ Z Z
theorem D7(R Q k:Nat)(s:ByteArray)(w:p7)(h:Rdr w R Q s k)(o:k≤s.size)(i:s.size≤16384)(a:List ByteArray)(p:UInt8→Bool)(l:(fun c=>a.any (hasB · c))=p)(x:Bool)(f:(s.data.toList.drop k).head?.any p=x)(arr:Array r3)(b:arr=(a.map p9).toArray)(n cap:Nat)(m:a.length=n)(g:n≤100)
  (B:Nat) (hB:w.heap.size=B) :
  r9 r6 161 #[tv (A ⟨R,0,V⟩),Value.slice (A ⟨B,0,V⟩) n cap] (w.alloc (p8 arr 9)) fun e w'=>e=tF (ur x)∧FS w w':=by
 subst hB
 by_cases d:k<s.size
 ·refine gv R Q k s w h d i a x ?_ arr b n cap m g _ Z;rw[←f,drop_cons s k d,List.head?_cons,Option.any_some,←l]
 ·rw[drop_end s k (by omega)]at f;have:x=false:=by rw[←f];rfl
  subst this;exact qm R Q k s w h (by omega) i arr _
theorem AB(R Q k:Nat)(s:ByteArray)(w:p7)(h:Rdr w R Q s k)(M:k<s.size)(d:s.size≤16384)
  (hc:isLow s[k]=r7) (hq:(s[k]==63||s[k]==39)=r7) (hd:bQ s[k]=r5) :
  r9 r6 95 #[tv (A ⟨R,0,V⟩)] w (ir w R Q s k s[k]):=by
 obtain⟨HC,HQ,HD⟩:=zz3 hc hq hd;clear hc hq hd
 go_enter Tryz.func95,Tryz.ntmps95
 go_wp2_with fail
 refine (tP R Q k s _ (h.t ((EU _ w).alloc (ET _) _)) (by omega) d).mono ?_;rintro e w1 ⟨rfl,N⟩;have P:=TS.start h N;go_wp2_with fail
 refine (gv R Q k s _ P.r M d [dj] r7 (by rw[←HC.o];exact congrFun jN s[k]) _ Z 1 1 Z (by omega) _ (by simp)).mono ?_;rintro e w3 ⟨rfl,i⟩;have F:=P.C i;clear P i;generalize w1.heap.size=T4 at *;generalize w.heap.size=T2 at F ⊢;go_wp2_with fail
 refine (gv R Q k s _ F.r M d [⟨#[63,39]⟩] r7 (by rw[l5];exact HQ.o) _ Z 1 1 Z (by omega) _ Z).mono ?_;rintro e w4 ⟨rfl,l⟩;have S:=F.C l;clear F l;go_wp2_with fail
 refine (gv R Q k s _ S.r M d [jD] r5 (by rw[←HD.o];exact congrFun l8 s[k]) _ Z 1 1 Z (by omega) _ Z).mono ?_;rintro e w5 ⟨rfl,m⟩;have T:=S.C m;clear S m;go_wp2_with fail
 refine (take_at R Q k s _ T.r (by omega) d [jD] bQ l8 _ Z 1 1 Z (by omega) _ Z).mono ?_;rintro e U ⟨rfl,n,p⟩;have X:=T.N n p;clear T n p;have b:=dl bQ s k (by omega);have ad:(s.extract k (aB bQ s k)).size≤16384:=by rw[ext_size s _ _ b];omega
 have a:Hid (an s k s[k]=(4,s.extract k (aB bQ s k),if (number (s.extract k (aB bQ s k)).data.toList).isSome&&!((s.data.toList.drop (aB bQ s k)).head?.any aZ) then 0 else 201,aB bQ s k)):=by
  show an s k s[k]=_
  unfold an;rw[ox (by rw[HC.o];simp),ox (by rw[HQ.o];simp),oA HD.o]
 generalize aB bQ s k=f at *;generalize s.extract k f=tx at *;obtain⟨c0,c1,c2,f0,f1,f2⟩:=X.c4;have c:=X.b 4;have S9:=c.h tx;obtain⟨af,ak,aq,ar,av,a1⟩:=c.c4;obtain⟨d0,d1,d2,G,H,K⟩:=S9.c4;have hz:=Hd (show ((U.setCell ⟨T4,0,V⟩ (I J 4)).setCell ⟨T4,1,V⟩ (p9 tx)).heap.size=U.heap.size by simp);go_wp2_with fail
 generalize (U.setCell ⟨T4,0,V⟩ (I J 4)).setCell ⟨T4,1,V⟩ (p9 tx)=w9 at *;clear c0 c1 c2 f0 f1 f2 af ak aq ar av a1 X c;refine (qw tx _ ad).mono ?_;rintro e wa ⟨rfl,q⟩;have g:=S9.C q;clear S9 q d0 d1 d2 G H K;obtain⟨d0,d1,d2,G,H,K⟩:=g.c4;obtain⟨t,u,x,y,z,B⟩:=g.c2;generalize a7:number tx.data.toList=nu at *
 cases nu with
 | none =>
  have C:Hid (an s k s[k]=(4,tx,201,f)):=by
   show an s k s[k]=_
   rw[a.o];rfl
  clear a;go_wp2_with fail
  exact g.fin C.o Z Z _ Z Z
 | some v =>
  generalize D:(s.data.toList.drop f).head?.any aZ=on at *;have a6:=Hd D;have hv:(Option.getD (A v) 0)=v:=rfl;clear D;go_wp2_with fail
  refine (D7 R Q f s _ g.r b d [fD] aZ lH on a6.o _ Z 1 1 Z (by omega) _ Z).mono ?_;rintro e wb ⟨rfl,E⟩;have L:=g.C E;clear g E d0 d1 d2 G H K t u x y z B;obtain⟨d0,d1,d2,G,H,K⟩:=L.c4;obtain⟨t,u,x,y,z,B⟩:=L.c2
  cases on
  ·have C:Hid (an s k s[k]=(4,tx,0,f)):=by
    show an s k s[k]=_
    rw[a.o];rfl
   clear a;go_wp2_with fail
   exact L.fin C.o Z Z _ Z Z
  ·have C:Hid (an s k s[k]=(4,tx,201,f)):=by
    show an s k s[k]=_
    rw[a.o];rfl
   clear a;go_wp2_with fail
   exact L.fin C.o Z Z _ Z Z
def iS(s:ByteArray) (k:Nat) (g:ByteArray):Bool:=Lib.hasPrefix (s.data.toList.drop k) g.data.toList
theorem zy(p:ByteArray→Bool)(l:List ByteArray)(i:Nat)(g:ByteArray)(a:l[i]?=A g):(l.drop i).find? p=if p g then A g else (l.drop (i+1)).find? p:=by
 obtain⟨b,rfl⟩:=Fo.1 a;rw[List.drop_eq_getElem_cons b,List.find?_cons]
 cases p l[i]<;>rfl
theorem nz(s:ByteArray)(k:Nat)(g:ByteArray)(c:k≤s.size)(h:iS s k g=r5):k+g.size≤s.size:=by
 have a:g.data.toList.isPrefixOf (s.data.toList.drop k)=true:=h;have b:=(List.isPrefixOf_iff_prefix.1 a).length_le;simp at b;have d:g.data.size=g.size:=rfl;have e:s.data.size=s.size:=rfl;omega
theorem yK(R Q k:Nat)(s:ByteArray)(w:p7)(h:Rdr w R Q s k)(U:k<s.size)(z:s.size≤16384)(ht:aM w)(X:Q≠1)
  (hc:isLow s[k]=r7) (D:(s[k]==63||s[k]==39)=r7) (hd:bQ s[k]=r7) :
  r9 r6 95 #[tv (A ⟨R,0,V⟩)] w (ir w R Q s k s[k]):=by
 obtain⟨HC,HQ,HD⟩:=zz3 hc D hd;have d:Hid (an s k s[k]=match eG.find? (iS s k) with|some g=>(6,g,0,k+g.size)|none=>(0,⟨#[]⟩,200,k)):=by
  show an s k s[k]=_
  unfold an;rw[ox (by rw[hc];simp),ox (by rw[D];simp),ox (by rw[hd];simp)];rfl
 clear hc D hd
 go_enter Tryz.func95,Tryz.ntmps95
 go_wp2_with fail
 refine (tP R Q k s _ (h.t ((EU _ w).alloc (ET _) _)) (by omega) z).mono ?_;rintro e w1 ⟨rfl,ad⟩;have S1:=TS.start h ad;go_wp2_with fail
 refine (gv R Q k s _ S1.r U z [dj] r7 (by rw[←HC.o];exact congrFun jN s[k]) _ Z 1 1 Z (by omega) _ (by simp)).mono ?_;rintro e w3 ⟨rfl,E⟩;have T:=S1.C E;clear S1 E;generalize w1.heap.size=T4 at *;generalize w.heap.size=T2 at T ⊢;go_wp2_with fail
 refine (gv R Q k s _ T.r U z [⟨#[63,39]⟩] r7 (by rw[l5];exact HQ.o) _ Z 1 1 Z (by omega) _ Z).mono ?_;rintro e w4 ⟨rfl,F⟩;have S4:=T.C F;clear T F;go_wp2_with fail
 refine (gv R Q k s _ S4.r U z [jD] r7 (by rw[←HD.o];exact congrFun l8 s[k]) _ Z 1 1 Z (by omega) _ Z).mono ?_;rintro e G ⟨rfl,H⟩;have S5:=S4.C H;clear S4 H;go_wp2_with fail
 refine (vp _ (S5.tab ht X)).mono ?_;rintro e w6 ⟨rfl,rfl⟩;have hB:=Hd (ot G (p8 (eG.map p9).toArray 9));have S6:=S5.C ((EU _ G).alloc (ET _) (p8 (eG.map p9).toArray 9));generalize G.alloc (p8 (eG.map p9).toArray 9)=w6 at *;have bd:A G.heap.size≠A Q:=by
  obtain⟨p,D⟩:=S6.r.q;intro e;injection e with e
  exact iz hB.o D (by decide) e
 generalize G.heap.size=B at *;clear S5;go_wp2_with fail
 go_loopw [14,8] (fun i _ wr=>∃m:Nat,m≤17∧i=I Y m∧TS w R Q s k T2 T4 k 0 ⟨#[]⟩ wr∧wr.heap[B]?=A (p8 (eG.map p9).toArray 9 (0,0))∧(eG.drop m).find? (iS s k)=eG.find? (iS s k)) (fun i _ _=>17-(intOf i).toNat)
 case atStart=>exact⟨0,by omega,Z,S6,hB.o,Z⟩
 case round =>
  obtain⟨m,hm,rfl,C,K,c⟩:=hrel;obtain⟨l,n⟩:=zz2 c K;clear c K S6 hB
  by_cases L:m<17
  ·obtain⟨g,hg⟩:∃g,eG[m]?=A g:=⟨eG[m]'L,EX L⟩;have af:wr.cell? ⟨B,m,V⟩=A (p9 g):=by rw[FR _ _ _ _ _ _ n.o];simp[hg]
   have ak:=Hd hg;clear hg;go_wp2_with fail
   refine (uc R Q k s _ C.r (by omega) z).mono ?_;rintro e w7 ⟨⟨t,rfl,M,aq⟩,u⟩;have S7:=C.C u;obtain⟨ar,av⟩:=zz2 (ag u n.o (ES.1 n.o).1) M;clear M aq C af;have N:=Hd (zy (iS s k) eG m g ak.o);have HP:=Hd (fun (W:p7) (x:Bool) (hx:iS s k g=x)=>(Tryz.strings_HasPrefix t g W).mono (R':=fun e w'=>e=tF (ur x)∧W=w') (fun e w' hh=>⟨by rw[hh.1,av.o];exact o9 (fun b=>tF (ur b)) hx,hh.2.symm⟩))
   cases a:iS s k g
   ·have f:=Hd a;clear a u
    go_wp2_with (first
     | (go_at_call 172;refine (HP.o _ _ f.o).mono ?_;rintro e w8 ⟨rfl,rfl⟩))
    refine⟨⟨m+1,by omega,by go_num,S7,ar.o,?_⟩,by simp[intOf];omega⟩;rw[←l.o,N.o,f.o];rfl
   ·have hle:=nz s k g (by omega) a;have HF:Hid (an s k s[k]=(6,g,0,k+g.size)):=by
     show an s k s[k]=_
     rw[d.o,←l.o,N.o,a];rfl
    have f:=Hd a;clear a d
    go_wp2_with (first
     | (go_at_call 172;refine (HP.o _ _ f.o).mono ?_;rintro e w8 ⟨rfl,rfl⟩))
    go_loopw [24] (fun i wi=>∃q:Nat,q≤g.size∧i=I Y q∧TS w R Q s k T2 T4 (k+q) 0 ⟨#[]⟩ wi) (fun i _=>g.size-(intOf i).toNat)
    case atStart=>exact⟨0,Fi _,Z,S7⟩
    case round =>
     obtain⟨q,bk,rfl,v⟩:=hrel
     by_cases bl:q<g.size
     ·obtain⟨r0,r1,q0,q1,⟨p,q2⟩,_⟩:=v.r.h;obtain⟨p',P⟩:=v.r.q;have a1:=Hd P;clear P;go_wp2_with fail
      refine (jS Q (k+q) _ s _ a1.o (by omega) z).mono ?_;rintro e w9 ⟨rfl,y,S⟩;have S9:=v.N y (v.r.N y S);clear v y S r0 r1 q0 q1 q2;go_wp2_with fail
      exact⟨⟨q+1,by omega,by go_num,S9⟩,by simp[intOf];omega⟩
     ·obtain rfl:q=g.size:=by omega
      obtain⟨c0,c1,c2,f0,f1,f2⟩:=v.c4;have Sa:=v.b 6;obtain⟨bn,bq,br,bt,bB,bR⟩:=Sa.c4;have Sb:=Sa.h g;obtain⟨d0,d1,d2,e0,e1,e2⟩:=Sb.c4;obtain⟨a6,a7,a8,ba,bb,bc⟩:=Sb.c2;go_wp2_with fail
      exact Sb.fin HF.o Z Z _ Z Z
  ·obtain rfl:m=17:=by omega
   have HF:Hid (an s k s[k]=(0,⟨#[]⟩,200,k)):=by
    show an s k s[k]=_
    rw[d.o,←l.o];rfl
   clear d;obtain⟨d0,d1,d2,e0,e1,e2⟩:=C.c4;obtain⟨a6,a7,a8,ba,bb,bc⟩:=C.c2;go_wp2_with fail
   exact C.fin HF.o Z Z _ Z Z
theorem Aj(R Q k:Nat)(s:ByteArray)(w:p7)(h:Rdr w R Q s k)(b:k<s.size)(c:s.size≤16384)(f:aM w)(a:Q≠1) :
  r9 r6 95 #[tv (A ⟨R,0,V⟩)] w (ir w R Q s k s[k]):=by
 cases d:isLow s[k]
 ·cases e:s[k]==63||s[k]==39
  ·cases g:bQ s[k]
   ·exact yK R Q k s w h b c f a d e g
   ·exact AB R Q k s w h b c d e g
  ·exact zi R Q k s w h b c d e
 ·exact zj R Q k s w h b c f a d
attribute [local go_sem] Oper.semAt_some
abbrev Tok:=Nat×ByteArray×Nat
def toks:Nat→ByteArray→Nat→List Tok×Option (Nat×Nat)
 | 0,_,_=>([],V)
 | f+1,s,k =>
  if h:skip s k<s.size then
   if (an s (skip s k) s[skip s k]).2.2.1=0 then
    (((an s (skip s k) s[skip s k]).1,(an s (skip s k) s[skip s k]).2.1,skip s k)::(toks f s (an s (skip s k) s[skip s k]).2.2.2).1,(toks f s (an s (skip s k) s[skip s k]).2.2.2).2)
   else ([],A ((an s (skip s k) s[skip s k]).2.2.1,skip s k))
  else ([],V)
theorem Bh(g:ByteArray)(h:g∈eG):0<g.size:=by
 have:eG.all (fun g=>decide (0<g.size))=true:=by kernel_rfl
 simpa using FG.1 this g h
theorem fj(s:ByteArray)(k:Nat)(f:k<s.size)(a:(an s k s[k]).2.2.1=0):k<(an s k s[k]).2.2.2∧(an s k s[k]).2.2.2≤s.size:=by
 unfold an at a ⊢
 by_cases b:isLow s[k]=r5
 ·rw[oA b];have c:aZ s[k]=true:=by unfold aZ;rw[b];rfl
  have:=fa aZ s (k+1);rw[gn aZ s k f c]at this;exact⟨this,dl _ _ _ (by omega)⟩
 ·rw[ox b]at a ⊢
  by_cases h:(s[k]==63||s[k]==39)=r5
  ·rw[oA h];have:=fa aZ s (k+1);exact⟨this,dl _ _ _ (by omega)⟩
  ·rw[ox h]at a ⊢
   by_cases d:bQ s[k]=r5
   ·rw[oA d];have:=fa bQ s (k+1);rw[gn bQ s k f d]at this;exact⟨this,dl _ _ _ (by omega)⟩
   ·rw[ox d]at a ⊢
    cases e:eG.find? (fun g=>Lib.hasPrefix (s.data.toList.drop k) g.data.toList) with
    | none=>rw[e]at a;simp at a
    | some g =>
     have l:=Bh g (List.mem_of_find?_eq_some e);have i:=nz s k g (by omega) (List.find?_some e);exact⟨by show k<k+g.size;omega,i⟩
theorem zV(s:ByteArray):∀(n f g k:Nat),s.size-k<n→s.size-k<f→s.size-k<g→toks f s k=toks g s k:=by
 intro n
 induction n with
 | zero=>intro f g k h;omega
 | succ n c =>
  intro f g k i l m;obtain⟨f,rfl⟩:∃d,f=d+1:=⟨f-1,by omega⟩;obtain⟨g,rfl⟩:∃e,g=e+1:=⟨g-1,by omega⟩;unfold toks
  by_cases a:skip s k<s.size
  ·rw[dif_pos a,dif_pos a]
   by_cases b:(an s (skip s k) s[skip s k]).2.2.1=0
   ·rw[oA b,oA b];have o:=fj s (skip s k) a b;have p:=kl s _ k (ET _);rw[c f g _ (by omega) (by omega) (by omega)]
   ·rw[ox b,ox b]
  ·rw[dif_neg a,dif_neg a]
theorem pw(s:ByteArray):∀(f k:Nat),k≤s.size→(toks f s k).1.length+k≤s.size:=by
 intro f
 induction f with
 | zero=>intro k a;simpa [toks]using a
 | succ f c =>
  intro k a;unfold toks
  by_cases h:skip s k<s.size
  ·rw[dif_pos h]
   by_cases b:(an s (skip s k) s[skip s k]).2.2.1=0
   ·rw[oA b];have d:=fj s (skip s k) h b;have e:=kl s _ k (ET _);have g:=c _ d.2;simp only[FC];omega
   ·rw[ox b];simpa using a
  ·rw[dif_neg h];simpa using a
def aG(s:ByteArray) (k:Nat):List Tok×Option (Nat×Nat):=toks (s.size+1) s k
theorem dE(s:ByteArray)(k:Nat)(h:¬skip s k<s.size):aG s k=([],V):=by unfold aG toks;rw[dif_neg h]
theorem fi(s:ByteArray)(k:Nat)(h:skip s k<s.size)(a:(an s (skip s k) s[skip s k]).2.2.1≠0):aG s k=([],A ((an s (skip s k) s[skip s k]).2.2.1,skip s k)):=by unfold aG toks;rw[dif_pos h,ox a]
theorem eZ(s:ByteArray)(k:Nat)(h:skip s k<s.size)(a:(an s (skip s k) s[skip s k]).2.2.1=0) :
  aG s k=(((an s (skip s k) s[skip s k]).1,(an s (skip s k) s[skip s k]).2.1,skip s k)::(aG s (an s (skip s k) s[skip s k]).2.2.2).1,(aG s (an s (skip s k) s[skip s k]).2.2.2).2):=by
 have b:=fj s (skip s k) h a
 conv=>lhs;unfold aG toks
 rw[dif_pos h,oA a];unfold aG;rw[zV s (s.size+1) s.size (s.size+1) _ (by omega) (by omega) (by omega)]
theorem mI(s:ByteArray)(k:Nat):skip s (skip s k)=skip s k:=by
 by_cases h:skip s k<s.size
 ·obtain⟨a,b⟩:=Dz s _ k (ET _) h;exact jf s _ h a b
 ·exact eM s _ (by omega)
theorem iY(s:ByteArray)(k:Nat):aG s (skip s k)=aG s k:=by
 have e:=mI s k
 by_cases h:skip s k<s.size
 ·by_cases a:(an s (skip s k) s[skip s k]).2.2.1=0
  ·rw[eZ s k h a,eZ s (skip s k) (by rw[e];exact h) (by simp only[e];exact a)];simp only[e]
  ·rw[fi s k h a,fi s (skip s k) (by rw[e];exact h) (by simp only[e];exact a)];simp only[e]
 ·rw[dE s k h,dE s (skip s k) (by rw[e];exact h)]
open Go.Shelf
attribute [local go_sem] Oper.semAt_some
def Ef(s:ByteArray) (a:List Tok→p7→Prop) (b:Nat→Nat→p7→Prop) (e:Ending) (W:p7):Prop:=
 (∃v,e=tF v)∧(((aG s 0).2=V∧a (aG s 0).1 W)∨∃er pl,(aG s 0).2=A (er,pl)∧b er pl W)
def AT(R Q:Nat) (s:ByteArray) (k:Nat) (t:Nat×ByteArray×Nat×Nat) (pre:List Tok) (a:List Tok→p7→Prop) (b:Nat→Nat→p7→Prop) (W:p7) (e:Ending) (W':p7):Prop:=
 (t.2.2.1=0∧e=tF (ur r5)∧a (pre++[(t.1,t.2.1,k)]) W'∧∀j,Rdr W R Q s j→Rdr W' R Q s j)∨(t.2.2.1≠0∧e=tF (ur r7)∧b t.2.2.1 k W')
theorem all1_in(n l Bx R Q:Nat)(s:ByteArray)(hs:s.size≤16384)(hQ:Q≠1)(q:List Tok→p7→Prop)(Jx:Nat→Nat→p7→Prop)
  (hJ:∀pre W W',q pre W→W.grownBy W' (A Q)→q pre W')
  (D:∀pre W,q pre W→aM W∧W.cell? ⟨Bx,0,V⟩=A (tv (A ⟨R,0,V⟩)))
  (hY:∀pre k W,(hk:k<s.size)→pre.length≤s.size→q pre W→YieldAt Fence.wide (n-1) r6 l #[s3 #[I J (an s k s[k]).1,p9 (an s k s[k]).2.1,I Y k],I Y (an s k s[k]).2.2.1] W (AT R Q s k (an s k s[k]) pre q Jx W))
  (W:p7) (hr:Rdr W R Q s 0) (h0:q [] W) :
  CallsIn Fence.wide n r6 92 #[Value.func (.yield l) #[] #[],tv (A ⟨Bx,0,V⟩)] W (Ef s q Jx):=by
 obtain⟨HJ,c,HY⟩:=zz3 hJ D hY;clear hJ D hY;refine callsIn_of_wp Tryz.func92 Z trivial ?_ Z;simp only[Tryz.ntmps92,List.size_toArray,FC,List.length_nil,Nat.reduceAdd,Nat.reduceSub,Array.replicate_succ,Array.replicate_zero,List.push_toArray,List.append_toArray,List.nil_append,List.cons_append];obtain⟨m,a⟩:=c.o _ _ h0
 gi_wp2_with fail
 refine⟨trivial,(fun h=>by cases h),callsIn_wide.2 ((rM R Q 0 s W hr (Fi _) hs).mono ?_)⟩;rintro e w1 ⟨rfl,E,F⟩;have G:=HJ.o _ _ _ h0 E;clear m a
 gi_wp2_with fail
 gi_loopw [5,20] (fun _ _ wr=>∃pre k,k≤s.size∧skip s k=k∧Rdr wr R Q s k∧q pre wr∧pre++(aG s k).1=(aG s 0).1∧(aG s k).2=(aG s 0).2) (fun _ _ wr=>s.size-pY wr Q)
 case atStart=>exact⟨[],skip s 0,xw _ _ _ (ET _) (Fi _),mI _ _,F,G,by rw[iY];rfl,by rw[iY]⟩
 case round =>
  obtain⟨pre,k,hk,H,u,K,L,M⟩:=hrel;obtain⟨d,v,x⟩:=zz3 H L M;clear H L M h0 hr F G E;obtain⟨m,a⟩:=c.o _ _ K;obtain⟨r0,r1,q0,q1,⟨p,q2⟩,f1,f2,ar,av⟩:=u.h
  gi_wp2_with fail
  refine⟨trivial,(fun h=>by cases h),callsIn_wide.2 ((tZ Q k s wr q0 q1 hk hs).mono ?_)⟩;rintro e w2 ⟨rfl,nd,rfl⟩;have N:FS wr (wr.drewN nd):=below_drewN (EU _ _) nd;have a1:=u.t N;have y:=HJ.o _ _ _ K (aL N _);generalize wr.drewN nd=w2 at *;clear m a r0 r1 q0 q1 q2 f1 f2 ar av;obtain⟨m,a⟩:=c.o _ _ y
  by_cases f:k<s.size
  ·gi_wp2_with fail
   refine⟨trivial,(fun h=>by cases h),callsIn_wide.2 ((Aj R Q k s w2 a1 f hs m hQ).mono ?_)⟩;rintro e w3 ⟨rfl,a6,P⟩;have S:=HJ.o _ _ _ y a6;clear m a;obtain⟨m,a⟩:=c.o _ _ S;have T:pre.length≤s.size:=by
    have h1:=pw s (s.size+1) 0 (Fi _);have h2:=o9 List.length v.o;simp only[Fl]at h2;have h3:(aG s 0).1.length+0≤s.size:=h1;omega
   have hY:=HY.o pre k w3 f T S;clear T;generalize hT:an s k s[k]=t at *;obtain⟨kd,tx,er,z⟩:=t;dsimp only at hY P ⊢;have HT:=Hd hT;clear hT;obtain⟨fn,tmps,assign,body,hy,hR⟩:=hY;have U:skip s k<s.size:=by rw[d.o];exact f
   have hE:an s (skip s k) s[skip s k]=(kd,tx,er,z):=by simp only[d.o];exact HT.o
   have HE:=Hd hE;clear hE
   gi_wp2_with fail
   refine⟨(fun h=>by cases h),hR.mono ?_⟩;rintro e w4 (⟨b,rfl,X,g⟩|⟨b,rfl,a7⟩)
   ·have a8:=g _ P;have B:=Hd b;clear b hy m a g;obtain⟨m,a⟩:=c.o _ _ X;have ad:=fj s k f (by rw[HT.o];exact B.o);rw[HT.o]at ad;obtain⟨bc,af⟩:k<z∧z≤s.size:=ad
    gi_wp2_with fail
    refine⟨trivial,(fun h=>by cases h),callsIn_wide.2 ((rM R Q z s w4 a8 af hs).mono ?_)⟩;rintro e w5 ⟨rfl,ba,ak⟩;have bb:=HJ.o _ _ _ X ba;have hle:=xw s _ z (ET _) af;have bd:=kl s _ z (ET _);clear m a;have C:=eZ s k U (by rw[HE.o];exact B.o);rw[HE.o]at C;have aq:=Hd C;clear C
    gi_wp2_with fail
    refine⟨⟨pre++[(kd,tx,k)],skip s z,hle,mI _ _,ak,bb,?_,?_⟩,?_⟩
    ·rw[iY,←v.o,aq.o];simp[d.o]
    ·rw[iY,←x.o,aq.o]
    ·rw[ak.pos,u.pos];omega
   ·have i:=fi s k U (by rw[HE.o];exact b);rw[HE.o]at i;obtain⟨HB,B⟩:=zz2 i b;clear i b hy
    gi_wp2_with fail
    refine bodyPost_ret (results_none Z _ _ _) Z ?_;refine⟨⟨_,Z⟩,Or.inr ⟨er,k,?_,a7⟩⟩;rw[←x.o,HB.o];simp only[d.o]
  ·have hend:=dE s k (by rw[d.o];exact f);have r:=Hd hend;clear hend
   gi_wp2_with fail
   go_end0
   refine⟨⟨_,Z⟩,Or.inl ⟨?_,?_⟩⟩
   ·rw[←x.o,r.o]
   ·rw[←v.o,r.o]
    simpa using y
