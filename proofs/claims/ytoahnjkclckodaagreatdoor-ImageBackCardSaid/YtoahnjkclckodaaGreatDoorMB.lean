/- Parts of one proof, joined; conditions stand in each theorem. -/
import Derived.Test.YtoahnjkclckodaaGreatDoorMA
import Derived.Deep.RegionHeld3
import Derived.Deep.RegionWith
import Derived.Handy
import Derived.RangeFuncNested
import Derived.RangeFuncBound
import Derived.RangeFuncCalls
import Derived.RangeFuncLeaves
import Derived.Shelf.Abstract
import Derived.Shelf.RegionOpen
import Derived.OwnWalkIn
import Derived.TacticsInMore
import Derived.LoopNIn
import Derived.LoopIn
open Go renaming World→J,Value→tS,undef→xk,Calls→vv
open Go.Ending renaming returned→wg
open Go.Value renaming tuple→y9,agg→wP,int→I,string→r9,pointer→vo,bool→xt
open Go.IntKind renaming u8→r8,i64→U
open Option renaming some→A,none→Y
open Go.Obj renaming cells→r7
open Go.Proofs.Tryz renaming prog→va
open Bool renaming true→tT,false→ur
namespace Go.Proofs.YtoahnjkclckodaaGreatDoor
set_option maxHeartbeats 1000000
open Go.RowKit
theorem ku:(fun c=>[dy].any (hasB · c))=isLow:=by
 funext c
 show (hasB dy c||false)=_
 rw[mM,Bool.or_false]
theorem oD:(fun c=>[ke].any (hasB · c))=bY:=by
 funext c
 show (hasB ke c||false)=_
 rw[BY,Bool.or_false]
theorem nM:(fun c=>[f9].any (hasB · c))=a8:=by
 funext c
 show (hasB f9 c||false)=_
 rw[yb,Bool.or_false]
theorem ox(c:UInt8):[(⟨#[63,39]⟩:ByteArray)].any (hasB · c)=(c==63||c==39):=by
 show ((([63,39]:List UInt8).contains c)||false)=_
 simp only[List.contains_cons,List.contains_nil,Bool.or_false]
theorem uZ(c:UInt8):[(⟨#[39]⟩:ByteArray)].any (hasB · c)=(c==39):=by
 show ((([39]:List UInt8).contains c)||false)=_
 simp only[List.contains_cons,List.contains_nil,Bool.or_false]
def ag(s:ByteArray) (k:Nat) (c:UInt8):Nat×ByteArray×Nat×Nat:=
 if isLow c then (if jK (s.extract k (an a8 s k)).data.toList then 1 else 2,s.extract k (an a8 s k),if an a8 s k-k≤24 then 0 else 201,an a8 s k)
 else if c==63||c==39 then (if c==39 then 5 else 3,s.extract (k+1) (an a8 s (k+1)),if fk (s.extract (k+1) (an a8 s (k+1))).data.toList then 0 else 201,an a8 s (k+1))
 else if bY c then (4,s.extract k (an bY s k),if (number (s.extract k (an bY s k)).data.toList).isSome&&!((s.data.toList.drop (an bY s k)).head?.any a8) then 0 else 201,an bY s k)
 else match eT.find? (fun g=>Lib.hasPrefix (s.data.toList.drop k) g.data.toList) with
  | some g=>(6,g,0,k+g.size)
  | none=>(0,⟨#[]⟩,200,k)
def iS(w:J) (R Q:Nat) (s:ByteArray) (k:Nat) (c:UInt8) (e:Ending) (w':J):Prop:=
 e=wg (y9 #[wP #[I r8 (ag s k c).1,r9 (ag s k c).2.1,I U k],I U (ag s k c).2.2.1])∧w.grownBy w' (A Q)∧Rdr w' R Q s (ag s k c).2.2.2
theorem Bb{w:J}{R Q:Nat}{s:ByteArray}{k:Nat}{c:UInt8}{w':J}(kd:Nat)(tx:ByteArray)(er a:Nat)(h:ag s k c=(kd,tx,er,a))(b:w.grownBy w' (A Q))(d:Rdr w' R Q s a) :
  iS w R Q s k c (wg (y9 #[wP #[I r8 kd,r9 tx,I U k],I U er])) w':=by
 unfold iS;rw[h];exact⟨Z,b,d⟩
theorem kL(w e:J)(R Q:Nat)(s:ByteArray)(k:Nat)(c:UInt8)(T kd er h:Nat)(f g:Int)(tx:ByteArray)(a0 u l:tS)(x:e.heap[T]?=A (r7 #[a0,u,l] 192 (0,0)))(a:w.heap.size≤T)(b:T≠R)(d:T≠Q)
  (y:w.grownBy e (A Q)) (z:Rdr e R Q s h) (hF:ag s k c=(kd,tx,er,h)) (m:f=kd) (n:g=er) (tmps:Array tS) (B:tmps.getD 2 xk=vo (A ⟨T,0,Y⟩)) (C:tmps.getD 3 xk=I U g) :
  bodyPost va Tryz.f140 (iS w R Q s k c) .ret ⟨tmps,[]⟩ (((e.setCell ⟨T,0,Y⟩ (I r8 f)).setCell ⟨T,1,Y⟩ (r9 tx)).setCell ⟨T,2,Y⟩ (I U k)):=by
 subst m n;have o:(((e.setCell ⟨T,0,Y⟩ (I r8 kd)).setCell ⟨T,1,Y⟩ (r9 tx)).setCell ⟨T,2,Y⟩ (I U k)).heap[T]?=A (r7 #[I r8 kd,r9 tx,I U k] 192 (0,0)):=
  heap_set (heap_set (heap_set x 0 _) 1 _) 2 _
 have p:=bz (bz (bz y a 0 (I r8 kd)) a 1 (r9 tx)) a 2 (I U k);have q:=((z.h (i:=0) (I r8 kd) b d).h (i:=1) (r9 tx) b d).h (i:=2) (I U k) b d;generalize ((e.setCell ⟨T,0,Y⟩ (I r8 kd)).setCell ⟨T,1,Y⟩ (r9 tx)).setCell ⟨T,2,Y⟩ (I U k)=E at *;obtain⟨l,D,c2,_⟩:=cells3 o;refine bodyPost_ret (v:=y9 #[wP #[I r8 kd,r9 tx,I U k],I U er]) ?_ Z (Bb kd tx er h hF p q);have r:tmps[2]?.getD xk=vo (A ⟨T,0,Y⟩):=by simpa using B
 have t:tmps[3]?.getD xk=I U er:=by simpa using C
 simp[results,Tryz.results140,go_sem,r,t,l,D,c2]
theorem ext_list(s:ByteArray)(a b:Nat)(h:a<b)(c:b≤s.size):(s.extract a b).data.toList=(s[a]'(by omega))::(s.extract (a+1) b).data.toList:=by
 have e:∀x y,(s.extract x y).data.toList=(s.data.toList.drop x).take (y-x):=by intro x y;rw[ByteArray.data_extract,Array.toList_extract]
 rw[e,e,drop_cons s a (by omega),show b-a=(b-(a+1))+1 from by omega,JY]
theorem ext_size(s:ByteArray)(a b:Nat)(c:b≤s.size):(s.extract a b).size=b-a:=by rw[ByteArray.size_extract];omega
theorem Ba(s:ByteArray)(a b:Nat)(h:a<b)(c:b≤s.size)(e:isLow s[a]=tT):fk (s.extract a b).data.toList=decide (b-a≤24):=by
 have d:(s.extract a b).data.toList.length=b-a:=by rw[Kc];exact ext_size s a b c
 rw[ext_list s a b h c]at d ⊢;simp only[fk,e,Bool.and_true,d]
theorem Cr(R Q k:Nat)(s:ByteArray)(w:J)(h:Rdr w R Q s k)(hk:k<s.size)(hs:s.size≤16384)(ht:aI w)(hQ:Q≠3)
  (hc:isLow s[k]=tT) :
  vv va 140 #[vo (A ⟨R,0,Y⟩)] w (iS w R Q s k s[k]):=by
 have ad:∀(W:J) (T:Nat) (cs:Array tS),W.heap[T]?=A (r7 cs 192 (0,0))→Rdr W R Q s k→A T≠A Q:=fun W T cs hT hr e=>by
  obtain⟨p,hq⟩:=hr.q;injection e with e
  exact ll hT hq (by decide) e
 have af:=Hd ad;clear ad;have HC:=Hd hc
 go_enter Tryz.func140,Tryz.ntmps140
 go_wp2_with fail
 have r:Kr w (w.alloc (r7 #[I r8 0,r9 ⟨#[]⟩,I U 0] 192)):=(JO _ w).alloc (JM _) _;have T2:=oc w (r7 #[I r8 0,r9 ⟨#[]⟩,I U 0] 192);refine (wV R Q k s _ (h.K r) (by omega) hs).mono ?_;rintro e w1 ⟨rfl,G⟩;have a:Kr w w1:=r.trans (G.mono r.size);have H:=Hd (aa G T2 (by simp));have K:=h.K a;clear T2 G r;have t:Kr w1 (w1.alloc (r7 #[I r8 0,r9 ⟨#[]⟩,I U k] 192)):=(JO _ w1).alloc (JM _) _;have T4:=Hd (oc w1 (r7 #[I r8 0,r9 ⟨#[]⟩,I U k] 192));go_wp2_with fail
 refine (hZ R Q k s _ (K.K t) hk hs [dy] tT (by rw[←HC.o];exact congrFun ku s[k]) _ Z 1 1 Z (by omega) _ (by simp)).mono ?_;rintro e w3 ⟨rfl,L⟩;have f:Kr w1 w3:=t.trans (L.mono t.size);have B:Kr w w3:=a.trans (f.mono a.size);have M:=K.K f;obtain⟨N,m⟩:=zz2 (aa L T4.o (by simp)) (aa f H.o (JL.1 H.o).1);clear t L f T4;go_wp2_with fail
 refine (take_at R Q k s _ M (by omega) hs [f9] a8 nM _ Z 1 1 Z (by omega) _ Z).mono ?_;rintro e w4 ⟨rfl,u,bm⟩;have C:w.grownBy w4 (A Q):=o5 (aF B _) u;obtain⟨n,aq⟩:=zz2 (ap u N.o (af.o _ _ _ N.o M)) (ap u m.o (af.o _ _ _ m.o M));have bn:=ext_size s k (an a8 s k) (dB a8 s k (by omega));have D:a8 s[k]=true:=by unfold a8;rw[HC.o];rfl
 have ar:k<an a8 s k:=by rw[←gR a8 s k hk D];exact fA _ _ _
 have a1:=dB a8 s k (by omega);have a6:=Ba s k (an a8 s k) ar a1 HC.o;generalize hE:an a8 s k=d at *;generalize hX:s.extract k d=tx at *;obtain⟨HE,HX⟩:=zz2 hE hX;have b0:tx.size≤16384:=by omega
 have bq:=Hd a6;clear bn D a6;clear hE hX u B N m;have g:Hid (w1.heap.size≠R∧w1.heap.size≠Q):=by
  obtain⟨_,_,_,_,_,_,_,b1,b2⟩:=K.z
  show w1.heap.size≠R∧w1.heap.size≠Q
  omega
 obtain⟨c0,c1,c2,f0,f1,f2⟩:=cells3 n.o;have HG:Hid (w.grownBy ((w4.setCell ⟨w1.heap.size,0,Y⟩ (I r8 2)).setCell ⟨w1.heap.size,1,Y⟩ (r9 tx)) (A Q)):=bz (bz C a.size _ _) a.size _ _;have P:=Hd (heap_set (heap_set n.o 0 (I r8 2)) 1 (r9 tx));have S:w1.heap.size≠w.heap.size:=by have:=(JL.1 H.o).1;omega
 obtain⟨bt,E⟩:=zz2 ((bm.h (T:=w1.heap.size) (i:=0) (I r8 2) g.o.1 g.o.2).h (i:=1) (r9 tx) g.o.1 g.o.2) (az (az aq.o S 0 (I r8 2)) S 1 (r9 tx));go_wp2_with fail
 generalize (w4.setCell ⟨w1.heap.size,0,Y⟩ (I r8 2)).setCell ⟨w1.heap.size,1,Y⟩ (r9 tx)=F at *;have bB:Rdr F R Q s d:=bt.o;have ba:aI F:=ht.u HG.o hQ;clear n c0 c1 c2 f0 f1 f2 C;obtain⟨c0,c1,c2,f0,f1,f2⟩:=cells3 P.o;have bb:=(JL.1 P.o).1
 go_region_held3 (fun w'=>w'.cell? ⟨w1.heap.size,1,Y⟩=A (r9 tx))
  (first
   | assumption
   | (exact (World.cell?_alloc_lt F _ ⟨w1.heap.size,1,Y⟩ bb).trans c1))
  (first
   | (go_at_call 171;refine (vS _ (ba.C (JO _ _).drew)).mono ?_;rintro e w6 ⟨rfl,rfl⟩)
   | (go_at_call 170;refine (np _ _ tx _ (by exact oc F _)).mono ?_;rintro e w6 ⟨rfl,rfl⟩))
 have v:Kr F (F.alloc (r7 (ia.map r9).toArray 9)).drew:=((JO _ F).alloc (JM _) _).drew;generalize (F.alloc (r7 (ia.map r9).toArray 9)).drew=w6 at *;obtain⟨bR,y,V⟩:=zz3 (aa v P.o bb) (aa v E.o (JL.1 E.o).1) (grown_below HG.o v);clear c0 c1 c2 f0 f1 f2 ba HG;obtain⟨c0,c1,c2,f0,f1,f2⟩:=cells3 bR.o;obtain⟨d0,d1,d2,e0,e1,e2⟩:=cells3 y.o;have z:=Hd (fun W (x:Bool) (hx:decide (d-k≤24)=x)=>(kK tx W (by omega)).mono (R':=fun e w'=>e=wg (xt x)∧W=w') (fun e w' hh=>⟨by rw[hh.1,bq.o,hx],hh.2⟩));have b:Hid (ag s k s[k]=(if jK tx.data.toList then 1 else 2,tx,if d-k≤24 then 0 else 201,d)):=by
  show ag s k s[k]=_
  unfold ag;rw[oj HC.o,HE.o,HX.o]
 have X:=bB.K v;have bd:w.heap.size≠R∧w.heap.size≠Q:=by
  obtain⟨_,_,_,_,_,_,_,b3,b4⟩:=h.z;omega
 have c:=Hd bd;clear bd
 cases hw:jK tx.data.toList
 ·cases l:decide (d-k≤24)
  ·have HN:=Hd l;have HF:Hid (ag s k s[k]=(2,tx,201,d)):=by
    show ag s k s[k]=_
    rw[b.o,hw,oe (by simp),oe (by simpa using l)]
   clear l hw b
   go_wp2_with (first
    | (go_at_call 172;refine (z.o _ _ HN.o).mono ?_;rintro e w7 ⟨rfl,rfl⟩))
   exact kL w _ R Q s k _ _ 2 201 d 2 201 tx _ _ _ y.o (JM _) c.o.1 c.o.2 V.o X HF.o Z Z _ Z Z
  ·have HN:=Hd l;have HF:Hid (ag s k s[k]=(2,tx,0,d)):=by
    show ag s k s[k]=_
    rw[b.o,hw,oe (by simp),oj (by simpa using l)]
   clear l hw b
   go_wp2_with (first
    | (go_at_call 172;refine (z.o _ _ HN.o).mono ?_;rintro e w7 ⟨rfl,rfl⟩))
   exact kL w _ R Q s k _ _ 2 0 d 2 0 tx _ _ _ y.o (JM _) c.o.1 c.o.2 V.o X HF.o Z Z _ Z Z
 ·obtain⟨bg,bk,bl⟩:=zz3 (az y.o S 0 (I r8 1)) (bz V.o a.size 0 (I r8 1)) (X.h (T:=w1.heap.size) (i:=0) (I r8 1) g.o.1 g.o.2)
  cases l:decide (d-k≤24)
  ·have HN:=Hd l;have HF:Hid (ag s k s[k]=(1,tx,201,d)):=by
    show ag s k s[k]=_
    rw[b.o,hw,oj Z,oe (by simpa using l)]
   clear l hw b
   go_wp2_with (first
    | (go_at_call 172;refine (z.o _ _ HN.o).mono ?_;rintro e w7 ⟨rfl,rfl⟩))
   exact kL w _ R Q s k _ _ 1 201 d 1 201 tx _ _ _ bg.o (JM _) c.o.1 c.o.2 bk.o bl.o HF.o Z Z _ Z Z
  ·have HN:=Hd l;have HF:Hid (ag s k s[k]=(1,tx,0,d)):=by
    show ag s k s[k]=_
    rw[b.o,hw,oj Z,oj (by simpa using l)]
   clear l hw b
   go_wp2_with (first
    | (go_at_call 172;refine (z.o _ _ HN.o).mono ?_;rintro e w7 ⟨rfl,rfl⟩))
   exact kL w _ R Q s k _ _ 1 0 d 1 0 tx _ _ _ bg.o (JM _) c.o.1 c.o.2 bk.o bl.o HF.o Z Z _ Z Z
structure TS (w:J) (R Q:Nat) (s:ByteArray) (k T2 T4 j:Nat) (kd:Int) (tx:ByteArray) (W:J):Prop where
 t2:W.heap[T2]?=A (r7 #[I r8 0,r9 ⟨#[]⟩,I U 0] 192 (0,0))
 t4:W.heap[T4]?=A (r7 #[I r8 kd,r9 tx,I U k] 192 (0,0))
 g:w.grownBy W (A Q)
 r:Rdr W R Q s j
 n2:w.heap.size≤T2
 n4:w.heap.size≤T4
 ne:T4≠T2
 r2:T2≠R∧T2≠Q
 r4:T4≠R∧T4≠Q
section
variable {w W W':J} {R Q k T2 T4 j:Nat} {s:ByteArray} {kd:Int} {tx:ByteArray}
theorem TS.C(h:TS w R Q s k T2 T4 j kd tx W)(a:Kr W W'):TS w R Q s k T2 T4 j kd tx W':=
 { h with t2:=aa a h.t2 (JL.1 h.t2).1,t4:=aa a h.t4 (JL.1 h.t4).1,g:=grown_below h.g a,r:=h.r.K a }
theorem TS.u{b:Nat}(h:TS w R Q s k T2 T4 j kd tx W)(a:W.grownBy W' (A Q))(c:Rdr W' R Q s b):TS w R Q s k T2 T4 b kd tx W':=
 { h with t2:=ap a h.t2 (by intro e;injection e with e;exact h.r2.2 e),t4:=ap a h.t4 (by intro e;injection e with e;exact h.r4.2 e),g:=o5 h.g a,r:=c }
theorem TS.q(h:TS w R Q s k T2 T4 j kd tx W)(a:Int):TS w R Q s k T2 T4 j a tx (W.setCell ⟨T4,0,Y⟩ (I r8 a)):=
 { h with t2:=az h.t2 h.ne _ _,t4:=heap_set h.t4 0 _,g:=bz h.g h.n4 _ _,r:=h.r.h _ h.r4.1 h.r4.2 }
theorem TS.h(h:TS w R Q s k T2 T4 j kd tx W)(a:ByteArray):TS w R Q s k T2 T4 j kd a (W.setCell ⟨T4,1,Y⟩ (r9 a)):=
 { h with t2:=az h.t2 h.ne _ _,t4:=heap_set h.t4 1 _,g:=bz h.g h.n4 _ _,r:=h.r.h _ h.r4.1 h.r4.2 }
theorem TS.tab(h:TS w R Q s k T2 T4 j kd tx W)(a:aI w)(b:Q≠3):aI W:=a.u h.g b
theorem TS.c4(h:TS w R Q s k T2 T4 j kd tx W):W.cell? ⟨T4,0,Y⟩=A (I r8 kd)∧W.cell? ⟨T4,1,Y⟩=A (r9 tx)∧W.cell? ⟨T4,2,Y⟩=A (I U k)∧W.frozen? ⟨T4,0,Y⟩=ur∧W.frozen? ⟨T4,1,Y⟩=ur∧W.frozen? ⟨T4,2,Y⟩=false:=cells3 h.t4
theorem TS.c2(h:TS w R Q s k T2 T4 j kd tx W):W.cell? ⟨T2,0,Y⟩=A (I r8 0)∧W.cell? ⟨T2,1,Y⟩=A (r9 ⟨#[]⟩)∧W.cell? ⟨T2,2,Y⟩=A (I U 0)∧W.frozen? ⟨T2,0,Y⟩=ur∧W.frozen? ⟨T2,1,Y⟩=ur∧W.frozen? ⟨T2,2,Y⟩=false:=cells3 h.t2
end
theorem TS.start{w w1:J}{R Q k:Nat}{s:ByteArray}(h:Rdr w R Q s k)(c:Below (w.alloc (r7 #[I r8 0,r9 ⟨#[]⟩,I U 0] 192)).heap.size (w.alloc (r7 #[I r8 0,r9 ⟨#[]⟩,I U 0] 192)) w1) :
  TS w R Q s k w.heap.size w1.heap.size k 0 ⟨#[]⟩ (w1.alloc (r7 #[I r8 0,r9 ⟨#[]⟩,I U k] 192)):=by
 have d:Kr w (w.alloc (r7 #[I r8 0,r9 ⟨#[]⟩,I U 0] 192)):=(JO _ w).alloc (JM _) _;have T2:=oc w (r7 #[I r8 0,r9 ⟨#[]⟩,I U 0] 192);have a:Kr w w1:=d.trans (c.mono d.size);have e:=aa c T2 (by simp);have f:=h.K a;have b:Kr w1 (w1.alloc (r7 #[I r8 0,r9 ⟨#[]⟩,I U k] 192)):=(JO _ w1).alloc (JM _) _;have i:=(JL.1 e).1;obtain⟨_,_,_,_,_,_,_,l,m⟩:=h.z;exact { t2:=aa b e i,t4:=oc w1 _,g:=aF (a.trans (b.mono a.size)) _,r:=f.K b,n2:=JM _,n4:=a.size,ne:=by omega,r2:=by omega,r4:=by omega }
theorem TS.fin{w W:J}{R Q k T2 T4:Nat}{s:ByteArray}{c:UInt8}{kd er d:Nat}{a b:Int}{tx:ByteArray}(h:TS w R Q s k T2 T4 d a tx W)(hF:ag s k c=(kd,tx,er,d))(e:a=kd)(f:b=er)(tmps:Array tS)(i:tmps.getD 2 xk=vo (A ⟨T2,0,Y⟩))(l:tmps.getD 3 xk=I U b) :
  bodyPost va Tryz.f140 (iS w R Q s k c) .ret ⟨tmps,[]⟩ (((W.setCell ⟨T2,0,Y⟩ (I r8 a)).setCell ⟨T2,1,Y⟩ (r9 tx)).setCell ⟨T2,2,Y⟩ (I U k)):=
 kL w W R Q s k c T2 kd er d a b tx _ _ _ h.t2 h.n2 h.r2.1 h.r2.2 h.g h.r hF e f tmps i l
theorem Cq(R Q k:Nat)(s:ByteArray)(w:J)(h:Rdr w R Q s k)(L:k<s.size)(x:s.size≤16384)
  (hc:isLow s[k]=ur) (hq:(s[k]==63||s[k]==39)=tT) :
  vv va 140 #[vo (A ⟨R,0,Y⟩)] w (iS w R Q s k s[k]):=by
 obtain⟨T,V⟩:=zz2 hc hq;clear hc hq
 go_enter Tryz.func140,Tryz.ntmps140
 go_wp2_with fail
 refine (wV R Q k s _ (h.K ((JO _ w).alloc (JM _) _)) (by omega) x).mono ?_;rintro e w1 ⟨rfl,X⟩;have S1:=TS.start h X;go_wp2_with fail
 refine (hZ R Q k s _ S1.r L x [dy] ur (by rw[←T.o];exact congrFun ku s[k]) _ Z 1 1 Z (by omega) _ (by simp)).mono ?_;rintro e w3 ⟨rfl,M⟩;have S:=S1.C M;clear S1 M;generalize w1.heap.size=T4 at *;generalize w.heap.size=T2 at S ⊢;go_wp2_with fail
 refine (hZ R Q k s _ S.r L x [⟨#[63,39]⟩] tT (by rw[ox];exact V.o) _ Z 1 1 Z (by omega) _ Z).mono ?_;rintro e w4 ⟨rfl,N⟩;have S4:=S.C N;clear S N;obtain⟨z,B,c2,f0,f1,f2⟩:=S4.c4;have c:=S4.q 3;go_wp2_with fail
 have hz:=Hd (show (w4.setCell ⟨T4,0,Y⟩ (I r8 3)).heap.size=w4.heap.size by simp);generalize w4.setCell ⟨T4,0,Y⟩ (I r8 3)=w5 at *;clear z B c2 f0 f1 f2 S4
 cases d:s[k]==39
 ·refine (hZ R Q k s _ c.r L x [⟨#[39]⟩] ur (by rw[uZ];exact d) _ Z 1 1 Z (by omega) _ hz.o).mono ?_;rintro e w6 ⟨rfl,i⟩;have g:=c.C i;have C:=Hd d;clear c i d;obtain⟨z,B,c2,f0,f1,f2⟩:=g.c4;obtain⟨r0,r1,q0,q1,⟨p,q2⟩,_⟩:=g.r.z;obtain⟨p',l⟩:=g.r.q;have D:=Hd l;clear l;go_wp2_with fail
  refine (kC Q k _ s _ D.o L x).mono ?_;rintro e w7 ⟨rfl,b,m⟩;have E:=g.u b (g.r.u b m);clear g b m z B c2 f0 f1 f2 r0 r1 q0 q1 q2;go_wp2_with fail
  refine (take_at R Q (k+1) s _ E.r (by omega) x [f9] a8 nM _ Z 1 1 Z (by omega) _ Z).mono ?_;rintro e w8 ⟨rfl,n,t⟩;have P:=E.u n t;clear E n t;have u:=dB a8 s (k+1) (by omega);have v:(s.extract (k+1) (an a8 s (k+1))).size≤16384:=by rw[ext_size s _ _ u];omega
  have a:Hid (ag s k s[k]=(3,s.extract (k+1) (an a8 s (k+1)),if fk (s.extract (k+1) (an a8 s (k+1))).data.toList then 0 else 201,an a8 s (k+1))):=by
   show ag s k s[k]=_
   unfold ag;rw[oe (by rw[T.o];simp),oj V.o,oe (by rw[C.o];simp)]
  generalize an a8 s (k+1)=F at *;generalize s.extract (k+1) F=tx at *;obtain⟨z,B,c2,f0,f1,f2⟩:=P.c4;have y:=P.h tx;obtain⟨d0,d1,d2,e0,e1,e2⟩:=y.c4;obtain⟨ad,af,aq,ar,a1,a6⟩:=y.c2
  cases f:fk tx.data.toList
  ·have G:Hid (ag s k s[k]=(3,tx,201,F)):=by
    show ag s k s[k]=_
    rw[a.o,f];rfl
   have H:=Hd f;clear a f
   go_wp2_with (first
    | (go_at_call 172;refine (kK tx _ v).mono ?_;rintro e w9 ⟨rfl,rfl⟩;rw[H.o]))
   exact y.fin G.o Z Z _ Z Z
  ·have G:Hid (ag s k s[k]=(3,tx,0,F)):=by
    show ag s k s[k]=_
    rw[a.o,f];rfl
   have H:=Hd f;clear a f
   go_wp2_with (first
    | (go_at_call 172;refine (kK tx _ v).mono ?_;rintro e w9 ⟨rfl,rfl⟩;rw[H.o]))
   exact y.fin G.o Z Z _ Z Z
 ·refine (hZ R Q k s _ c.r L x [⟨#[39]⟩] tT (by rw[uZ];exact d) _ Z 1 1 Z (by omega) _ hz.o).mono ?_;rintro e w6 ⟨rfl,i⟩;have K:=c.C i;have C:=Hd d;clear c i d;obtain⟨z,B,c2,f0,f1,f2⟩:=K.c4;have g:=K.q 5;obtain⟨r0,r1,q0,q1,⟨p,q2⟩,_⟩:=g.r.z;obtain⟨p',l⟩:=g.r.q;have D:=Hd l;clear l;go_wp2_with fail
  generalize w6.setCell ⟨T4,0,Y⟩ (I r8 5)=ba at *;refine (kC Q k _ s _ D.o L x).mono ?_;rintro e w7 ⟨rfl,b,m⟩;have E:=g.u b (g.r.u b m);clear g K b m z B c2 f0 f1 f2 r0 r1 q0 q1 q2;go_wp2_with fail
  refine (take_at R Q (k+1) s _ E.r (by omega) x [f9] a8 nM _ Z 1 1 Z (by omega) _ Z).mono ?_;rintro e w8 ⟨rfl,n,t⟩;have P:=E.u n t;clear E n t;have u:=dB a8 s (k+1) (by omega);have v:(s.extract (k+1) (an a8 s (k+1))).size≤16384:=by rw[ext_size s _ _ u];omega
  have a:Hid (ag s k s[k]=(5,s.extract (k+1) (an a8 s (k+1)),if fk (s.extract (k+1) (an a8 s (k+1))).data.toList then 0 else 201,an a8 s (k+1))):=by
   show ag s k s[k]=_
   unfold ag;rw[oe (by rw[T.o];simp),oj V.o,oj C.o]
  generalize an a8 s (k+1)=F at *;generalize s.extract (k+1) F=tx at *;obtain⟨z,B,c2,f0,f1,f2⟩:=P.c4;have y:=P.h tx;obtain⟨d0,d1,d2,e0,e1,e2⟩:=y.c4;obtain⟨ad,af,aq,ar,a1,a6⟩:=y.c2
  cases f:fk tx.data.toList
  ·have G:Hid (ag s k s[k]=(5,tx,201,F)):=by
    show ag s k s[k]=_
    rw[a.o,f];rfl
   have H:=Hd f;clear a f
   go_wp2_with (first
    | (go_at_call 172;refine (kK tx _ v).mono ?_;rintro e w9 ⟨rfl,rfl⟩;rw[H.o]))
   exact y.fin G.o Z Z _ Z Z
  ·have G:Hid (ag s k s[k]=(5,tx,0,F)):=by
    show ag s k s[k]=_
    rw[a.o,f];rfl
   have H:=Hd f;clear a f
   go_wp2_with (first
    | (go_at_call 172;refine (kK tx _ v).mono ?_;rintro e w9 ⟨rfl,rfl⟩;rw[H.o]))
   exact y.fin G.o Z Z _ Z Z
theorem IN(R Q k:Nat)(s:ByteArray)(w:J)(h:Rdr w R Q s k)(o:k≤s.size)(i:s.size≤16384)(a:List ByteArray)(p:UInt8→Bool)(l:(fun c=>a.any (hasB · c))=p)(x:Bool)(f:(s.data.toList.drop k).head?.any p=x)(arr:Array tS)(b:arr=(a.map r9).toArray)(n cap:Nat)(m:a.length=n)(g:n≤100)
  (B:Nat) (hB:w.heap.size=B) :
  vv va 164 #[vo (A ⟨R,0,Y⟩),Value.slice (A ⟨B,0,Y⟩) n cap] (w.alloc (r7 arr 9)) fun e w'=>e=wg (xt x)∧Kr w w':=by
 subst hB
 by_cases d:k<s.size
 ·refine hZ R Q k s w h d i a x ?_ arr b n cap m g _ Z;rw[←f,drop_cons s k d,List.head?_cons,Option.any_some,←l]
 ·rw[drop_end s k (by omega)]at f;have:x=false:=by rw[←f];rfl
  subst this;exact s7 R Q k s w h (by omega) i arr _
theorem Ek(R Q k:Nat)(s:ByteArray)(w:J)(h:Rdr w R Q s k)(M:k<s.size)(d:s.size≤16384)
  (hc:isLow s[k]=ur) (hq:(s[k]==63||s[k]==39)=ur) (hd:bY s[k]=tT) :
  vv va 140 #[vo (A ⟨R,0,Y⟩)] w (iS w R Q s k s[k]):=by
 obtain⟨HC,HQ,HD⟩:=zz3 hc hq hd;clear hc hq hd
 go_enter Tryz.func140,Tryz.ntmps140
 go_wp2_with fail
 refine (wV R Q k s _ (h.K ((JO _ w).alloc (JM _) _)) (by omega) d).mono ?_;rintro e w1 ⟨rfl,N⟩;have P:=TS.start h N;go_wp2_with fail
 refine (hZ R Q k s _ P.r M d [dy] ur (by rw[←HC.o];exact congrFun ku s[k]) _ Z 1 1 Z (by omega) _ (by simp)).mono ?_;rintro e w3 ⟨rfl,i⟩;have F:=P.C i;clear P i;generalize w1.heap.size=T4 at *;generalize w.heap.size=T2 at F ⊢;go_wp2_with fail
 refine (hZ R Q k s _ F.r M d [⟨#[63,39]⟩] ur (by rw[ox];exact HQ.o) _ Z 1 1 Z (by omega) _ Z).mono ?_;rintro e w4 ⟨rfl,l⟩;have S:=F.C l;clear F l;go_wp2_with fail
 refine (hZ R Q k s _ S.r M d [ke] tT (by rw[←HD.o];exact congrFun oD s[k]) _ Z 1 1 Z (by omega) _ Z).mono ?_;rintro e w5 ⟨rfl,m⟩;have T:=S.C m;clear S m;go_wp2_with fail
 refine (take_at R Q k s _ T.r (by omega) d [ke] bY oD _ Z 1 1 Z (by omega) _ Z).mono ?_;rintro e V ⟨rfl,n,p⟩;have X:=T.u n p;clear T n p;have b:=dB bY s k (by omega);have ad:(s.extract k (an bY s k)).size≤16384:=by rw[ext_size s _ _ b];omega
 have a:Hid (ag s k s[k]=(4,s.extract k (an bY s k),if (number (s.extract k (an bY s k)).data.toList).isSome&&!((s.data.toList.drop (an bY s k)).head?.any a8) then 0 else 201,an bY s k)):=by
  show ag s k s[k]=_
  unfold ag;rw[oe (by rw[HC.o];simp),oe (by rw[HQ.o];simp),oj HD.o]
 generalize an bY s k=f at *;generalize s.extract k f=tx at *;obtain⟨c0,c1,c2,f0,f1,f2⟩:=X.c4;have c:=X.q 4;have S9:=c.h tx;obtain⟨af,aq,ar,a1,a6,ba⟩:=c.c4;obtain⟨d0,d1,d2,G,H,K⟩:=S9.c4;have hz:=Hd (show ((V.setCell ⟨T4,0,Y⟩ (I r8 4)).setCell ⟨T4,1,Y⟩ (r9 tx)).heap.size=V.heap.size by simp);go_wp2_with fail
 generalize (V.setCell ⟨T4,0,Y⟩ (I r8 4)).setCell ⟨T4,1,Y⟩ (r9 tx)=w9 at *;clear c0 c1 c2 f0 f1 f2 af aq ar a1 a6 ba X c;refine (tq tx _ ad).mono ?_;rintro e wa ⟨rfl,q⟩;have g:=S9.C q;clear S9 q d0 d1 d2 G H K;obtain⟨d0,d1,d2,G,H,K⟩:=g.c4;obtain⟨t,u,x,y,z,B⟩:=g.c2;generalize bd:number tx.data.toList=nu at *
 cases nu with
 | none =>
  have C:Hid (ag s k s[k]=(4,tx,201,f)):=by
   show ag s k s[k]=_
   rw[a.o];rfl
  clear a;go_wp2_with fail
  exact g.fin C.o Z Z _ Z Z
 | some v =>
  generalize D:(s.data.toList.drop f).head?.any a8=on at *;have bb:=Hd D;have hv:(Option.getD (A v) 0)=v:=rfl;clear D;go_wp2_with fail
  refine (IN R Q f s _ g.r b d [f9] a8 nM on bb.o _ Z 1 1 Z (by omega) _ Z).mono ?_;rintro e wb ⟨rfl,E⟩;have L:=g.C E;clear g E d0 d1 d2 G H K t u x y z B;obtain⟨d0,d1,d2,G,H,K⟩:=L.c4;obtain⟨t,u,x,y,z,B⟩:=L.c2
  cases on
  ·have C:Hid (ag s k s[k]=(4,tx,0,f)):=by
    show ag s k s[k]=_
    rw[a.o];rfl
   clear a;go_wp2_with fail
   exact L.fin C.o Z Z _ Z Z
  ·have C:Hid (ag s k s[k]=(4,tx,201,f)):=by
    show ag s k s[k]=_
    rw[a.o];rfl
   clear a;go_wp2_with fail
   exact L.fin C.o Z Z _ Z Z
def jh(s:ByteArray) (k:Nat) (g:ByteArray):Bool:=Lib.hasPrefix (s.data.toList.drop k) g.data.toList
theorem CS(p:ByteArray→Bool)(l:List ByteArray)(i:Nat)(g:ByteArray)(a:l[i]?=A g):(l.drop i).find? p=if p g then A g else (l.drop (i+1)).find? p:=by
 obtain⟨hi,rfl⟩:=J3.1 a;rw[List.drop_eq_getElem_cons hi,List.find?_cons]
 cases p l[i]<;>rfl
theorem qm(s:ByteArray)(k:Nat)(g:ByteArray)(c:k≤s.size)(h:jh s k g=tT):k+g.size≤s.size:=by
 have a:g.data.toList.isPrefixOf (s.data.toList.drop k)=true:=h;have b:=(List.isPrefixOf_iff_prefix.1 a).length_le;simp at b;have d:g.data.size=g.size:=rfl;have e:s.data.size=s.size:=rfl;omega
theorem BQ(R Q k:Nat)(s:ByteArray)(w:J)(h:Rdr w R Q s k)(V:k<s.size)(z:s.size≤16384)(ht:aI w)(X:Q≠3)
  (hc:isLow s[k]=ur) (D:(s[k]==63||s[k]==39)=ur) (hd:bY s[k]=ur) :
  vv va 140 #[vo (A ⟨R,0,Y⟩)] w (iS w R Q s k s[k]):=by
 obtain⟨HC,HQ,HD⟩:=zz3 hc D hd;have d:Hid (ag s k s[k]=match eT.find? (jh s k) with|some g=>(6,g,0,k+g.size)|none=>(0,⟨#[]⟩,200,k)):=by
  show ag s k s[k]=_
  unfold ag;rw[oe (by rw[hc];simp),oe (by rw[D];simp),oe (by rw[hd];simp)];rfl
 clear hc D hd
 go_enter Tryz.func140,Tryz.ntmps140
 go_wp2_with fail
 refine (wV R Q k s _ (h.K ((JO _ w).alloc (JM _) _)) (by omega) z).mono ?_;rintro e w1 ⟨rfl,ad⟩;have S1:=TS.start h ad;go_wp2_with fail
 refine (hZ R Q k s _ S1.r V z [dy] ur (by rw[←HC.o];exact congrFun ku s[k]) _ Z 1 1 Z (by omega) _ (by simp)).mono ?_;rintro e w3 ⟨rfl,E⟩;have T:=S1.C E;clear S1 E;generalize w1.heap.size=T4 at *;generalize w.heap.size=T2 at T ⊢;go_wp2_with fail
 refine (hZ R Q k s _ T.r V z [⟨#[63,39]⟩] ur (by rw[ox];exact HQ.o) _ Z 1 1 Z (by omega) _ Z).mono ?_;rintro e w4 ⟨rfl,F⟩;have S4:=T.C F;clear T F;go_wp2_with fail
 refine (hZ R Q k s _ S4.r V z [ke] ur (by rw[←HD.o];exact congrFun oD s[k]) _ Z 1 1 Z (by omega) _ Z).mono ?_;rintro e G ⟨rfl,H⟩;have S5:=S4.C H;clear S4 H;go_wp2_with fail
 refine (yz _ (S5.tab ht X)).mono ?_;rintro e w6 ⟨rfl,rfl⟩;have hB:=Hd (oc G (r7 (eT.map r9).toArray 9));have S6:=S5.C ((JO _ G).alloc (JM _) (r7 (eT.map r9).toArray 9));generalize G.alloc (r7 (eT.map r9).toArray 9)=w6 at *;have bn:A G.heap.size≠A Q:=by
  obtain⟨p,D⟩:=S6.r.q;intro e;injection e with e
  exact ll hB.o D (by decide) e
 generalize G.heap.size=B at *;clear S5;go_wp2_with fail
 go_loopw [14,8] (fun i _ wr=>∃m:Nat,m≤17∧i=I U m∧TS w R Q s k T2 T4 k 0 ⟨#[]⟩ wr∧wr.heap[B]?=A (r7 (eT.map r9).toArray 9 (0,0))∧(eT.drop m).find? (jh s k)=eT.find? (jh s k)) (fun i _ _=>17-(intOf i).toNat)
 case atStart=>exact⟨0,by omega,Z,S6,hB.o,Z⟩
 case round =>
  obtain⟨m,hm,rfl,C,K,c⟩:=hrel;obtain⟨l,n⟩:=zz2 c K;clear c K S6 hB
  by_cases L:m<17
  ·obtain⟨g,hg⟩:∃g,eT[m]?=A g:=⟨eT[m]'L,JR L⟩;have af:wr.cell? ⟨B,m,Y⟩=A (r9 g):=by rw[Kq _ _ _ _ _ _ n.o];simp[hg]
   have aq:=Hd hg;clear hg;go_wp2_with fail
   refine (xp R Q k s _ C.r (by omega) z).mono ?_;rintro e w7 ⟨⟨t,rfl,M,ar⟩,u⟩;have S7:=C.C u;obtain⟨a1,a6⟩:=zz2 (aa u n.o (JL.1 n.o).1) M;clear M ar C af;have N:=Hd (CS (jh s k) eT m g aq.o);have HP:=Hd (fun (W:J) (x:Bool) (hx:jh s k g=x)=>(Tryz.strings_HasPrefix t g W).mono (R':=fun e w'=>e=wg (xt x)∧W=w') (fun e w' hh=>⟨by rw[hh.1,a6.o];exact o4 (fun b=>wg (xt b)) hx,hh.2.symm⟩))
   cases a:jh s k g
   ·have f:=Hd a;clear a u
    go_wp2_with (first
     | (go_at_call 175;refine (HP.o _ _ f.o).mono ?_;rintro e w8 ⟨rfl,rfl⟩))
    refine⟨⟨m+1,by omega,by go_num,S7,a1.o,?_⟩,by simp[intOf];omega⟩;rw[←l.o,N.o,f.o];rfl
   ·have hle:=qm s k g (by omega) a;have HF:Hid (ag s k s[k]=(6,g,0,k+g.size)):=by
     show ag s k s[k]=_
     rw[d.o,←l.o,N.o,a];rfl
    have f:=Hd a;clear a d
    go_wp2_with (first
     | (go_at_call 175;refine (HP.o _ _ f.o).mono ?_;rintro e w8 ⟨rfl,rfl⟩))
    go_loopw [24] (fun i wi=>∃q:Nat,q≤g.size∧i=I U q∧TS w R Q s k T2 T4 (k+q) 0 ⟨#[]⟩ wi) (fun i _=>g.size-(intOf i).toNat)
    case atStart=>exact⟨0,J0 _,Z,S7⟩
    case round =>
     obtain⟨q,bq,rfl,v⟩:=hrel
     by_cases bt:q<g.size
     ·obtain⟨r0,r1,q0,q1,⟨p,q2⟩,_⟩:=v.r.z;obtain⟨p',P⟩:=v.r.q;have ba:=Hd P;clear P;go_wp2_with fail
      refine (kC Q (k+q) _ s _ ba.o (by omega) z).mono ?_;rintro e w9 ⟨rfl,y,S⟩;have S9:=v.u y (v.r.u y S);clear v y S r0 r1 q0 q1 q2;go_wp2_with fail
      exact⟨⟨q+1,by omega,by go_num,S9⟩,by simp[intOf];omega⟩
     ·obtain rfl:q=g.size:=by omega
      obtain⟨c0,c1,c2,f0,f1,f2⟩:=v.c4;have Sa:=v.q 6;obtain⟨bB,bR,b0,b1,b2,b3⟩:=Sa.c4;have Sb:=Sa.h g;obtain⟨d0,d1,d2,e0,e1,e2⟩:=Sb.c4;obtain⟨bb,bd,bg,bk,bl,bm⟩:=Sb.c2;go_wp2_with fail
      exact Sb.fin HF.o Z Z _ Z Z
  ·obtain rfl:m=17:=by omega
   have HF:Hid (ag s k s[k]=(0,⟨#[]⟩,200,k)):=by
    show ag s k s[k]=_
    rw[d.o,←l.o];rfl
   clear d;obtain⟨d0,d1,d2,e0,e1,e2⟩:=C.c4;obtain⟨bb,bd,bg,bk,bl,bm⟩:=C.c2;go_wp2_with fail
   exact C.fin HF.o Z Z _ Z Z
theorem DL(R Q k:Nat)(s:ByteArray)(w:J)(h:Rdr w R Q s k)(b:k<s.size)(c:s.size≤16384)(f:aI w)(a:Q≠3) :
  vv va 140 #[vo (A ⟨R,0,Y⟩)] w (iS w R Q s k s[k]):=by
 cases d:isLow s[k]
 ·cases e:s[k]==63||s[k]==39
  ·cases g:bY s[k]
   ·exact BQ R Q k s w h b c f a d e g
   ·exact Ek R Q k s w h b c d e g
  ·exact Cq R Q k s w h b c d e
 ·exact Cr R Q k s w h b c f a d
attribute [local go_sem] Oper.semAt_some
abbrev Tok:=Nat×ByteArray×Nat
def toks:Nat→ByteArray→Nat→List Tok×Option (Nat×Nat)
 | 0,_,_=>([],Y)
 | f+1,s,k =>
  if h:skip s k<s.size then
   if (ag s (skip s k) s[skip s k]).2.2.1=0 then
    (((ag s (skip s k) s[skip s k]).1,(ag s (skip s k) s[skip s k]).2.1,skip s k)::(toks f s (ag s (skip s k) s[skip s k]).2.2.2).1,(toks f s (ag s (skip s k) s[skip s k]).2.2.2).2)
   else ([],A ((ag s (skip s k) s[skip s k]).2.2.1,skip s k))
  else ([],Y)
theorem EW(g:ByteArray)(h:g∈eT):0<g.size:=by
 have:eT.all (fun g=>decide (0<g.size))=true:=by kernel_rfl
 simpa using Kh.1 this g h
theorem fL(s:ByteArray)(k:Nat)(f:k<s.size)(a:(ag s k s[k]).2.2.1=0):k<(ag s k s[k]).2.2.2∧(ag s k s[k]).2.2.2≤s.size:=by
 unfold ag at a ⊢
 by_cases b:isLow s[k]=tT
 ·rw[oj b];have c:a8 s[k]=true:=by unfold a8;rw[b];rfl
  have:=fA a8 s (k+1);rw[gR a8 s k f c]at this;exact⟨this,dB _ _ _ (by omega)⟩
 ·rw[oe b]at a ⊢
  by_cases h:(s[k]==63||s[k]==39)=tT
  ·rw[oj h];have:=fA a8 s (k+1);exact⟨this,dB _ _ _ (by omega)⟩
  ·rw[oe h]at a ⊢
   by_cases d:bY s[k]=tT
   ·rw[oj d];have:=fA bY s (k+1);rw[gR bY s k f d]at this;exact⟨this,dB _ _ _ (by omega)⟩
   ·rw[oe d]at a ⊢
    cases e:eT.find? (fun g=>Lib.hasPrefix (s.data.toList.drop k) g.data.toList) with
    | none=>rw[e]at a;simp at a
    | some g =>
     have l:=EW g (List.mem_of_find?_eq_some e);have i:=qm s k g (by omega) (List.find?_some e);exact⟨by show k<k+g.size;omega,i⟩
theorem Dq(s:ByteArray):∀(n f g k:Nat),s.size-k<n→s.size-k<f→s.size-k<g→toks f s k=toks g s k:=by
 intro n
 induction n with
 | zero=>intro f g k h;omega
 | succ n c =>
  intro f g k i l m;obtain⟨f,rfl⟩:∃d,f=d+1:=⟨f-1,by omega⟩;obtain⟨g,rfl⟩:∃e,g=e+1:=⟨g-1,by omega⟩;unfold toks
  by_cases a:skip s k<s.size
  ·rw[dif_pos a,dif_pos a]
   by_cases b:(ag s (skip s k) s[skip s k]).2.2.1=0
   ·rw[oj b,oj b];have o:=fL s (skip s k) a b;have p:=lA s _ k (JM _);rw[c f g _ (by omega) (by omega) (by omega)]
   ·rw[oe b,oe b]
  ·rw[dif_neg a,dif_neg a]
theorem rR(s:ByteArray):∀(f k:Nat),k≤s.size→(toks f s k).1.length+k≤s.size:=by
 intro f
 induction f with
 | zero=>intro k a;simpa [toks]using a
 | succ f c =>
  intro k a;unfold toks
  by_cases h:skip s k<s.size
  ·rw[dif_pos h]
   by_cases b:(ag s (skip s k) s[skip s k]).2.2.1=0
   ·rw[oj b];have d:=fL s (skip s k) h b;have e:=lA s _ k (JM _);have g:=c _ d.2;simp only[Kf];omega
   ·rw[oe b];simpa using a
  ·rw[dif_neg h];simpa using a
def ay(s:ByteArray) (k:Nat):List Tok×Option (Nat×Nat):=toks (s.size+1) s k
theorem dP(s:ByteArray)(k:Nat)(h:¬skip s k<s.size):ay s k=([],Y):=by unfold ay toks;rw[dif_neg h]
theorem fJ(s:ByteArray)(k:Nat)(h:skip s k<s.size)(a:(ag s (skip s k) s[skip s k]).2.2.1≠0):ay s k=([],A ((ag s (skip s k) s[skip s k]).2.2.1,skip s k)):=by unfold ay toks;rw[dif_pos h,oe a]
theorem fy(s:ByteArray)(k:Nat)(h:skip s k<s.size)(a:(ag s (skip s k) s[skip s k]).2.2.1=0) :
  ay s k=(((ag s (skip s k) s[skip s k]).1,(ag s (skip s k) s[skip s k]).2.1,skip s k)::(ay s (ag s (skip s k) s[skip s k]).2.2.2).1,(ay s (ag s (skip s k) s[skip s k]).2.2.2).2):=by
 have b:=fL s (skip s k) h a
 conv=>lhs;unfold ay toks
 rw[dif_pos h,oj a];unfold ay;rw[Dq s (s.size+1) s.size (s.size+1) _ (by omega) (by omega) (by omega)]
theorem pG(s:ByteArray)(k:Nat):skip s (skip s k)=skip s k:=by
 by_cases h:skip s k<s.size
 ·obtain⟨a,b⟩:=Io s _ k (JM _) h;exact jG s _ h a b
 ·exact fg s _ (by omega)
theorem jp(s:ByteArray)(k:Nat):ay s (skip s k)=ay s k:=by
 have e:=pG s k
 by_cases h:skip s k<s.size
 ·by_cases a:(ag s (skip s k) s[skip s k]).2.2.1=0
  ·rw[fy s k h a,fy s (skip s k) (by rw[e];exact h) (by simp only[e];exact a)];simp only[e]
  ·rw[fJ s k h a,fJ s (skip s k) (by rw[e];exact h) (by simp only[e];exact a)];simp only[e]
 ·rw[dP s k h,dP s (skip s k) (by rw[e];exact h)]
open Go.Shelf
attribute [local go_sem] Oper.semAt_some
def IW(s:ByteArray) (a:List Tok→J→Prop) (b:Nat→Nat→J→Prop) (e:Ending) (W:J):Prop:=
 (∃v,e=wg v)∧(((ay s 0).2=Y∧a (ay s 0).1 W)∨∃er pl,(ay s 0).2=A (er,pl)∧b er pl W)
def Ez(R Q:Nat) (s:ByteArray) (k:Nat) (t:Nat×ByteArray×Nat×Nat) (pre:List Tok) (a:List Tok→J→Prop) (b:Nat→Nat→J→Prop) (W:J) (e:Ending) (W':J):Prop:=
 (t.2.2.1=0∧e=wg (xt tT)∧a (pre++[(t.1,t.2.1,k)]) W'∧∀j,Rdr W R Q s j→Rdr W' R Q s j)∨(t.2.2.1≠0∧e=wg (xt ur)∧b t.2.2.1 k W')
theorem all1_in(n l Bx R Q:Nat)(s:ByteArray)(hs:s.size≤16384)(hQ:Q≠3)(q:List Tok→J→Prop)(Jx:Nat→Nat→J→Prop)
  (hJ:∀pre W W',q pre W→W.grownBy W' (A Q)→q pre W')
  (D:∀pre W,q pre W→aI W∧W.cell? ⟨Bx,0,Y⟩=A (vo (A ⟨R,0,Y⟩)))
  (hY:∀pre k W,(hk:k<s.size)→pre.length≤s.size→q pre W→YieldAt Fence.wide (n-1) va l #[wP #[I r8 (ag s k s[k]).1,r9 (ag s k s[k]).2.1,I U k],I U (ag s k s[k]).2.2.1] W (Ez R Q s k (ag s k s[k]) pre q Jx W))
  (W:J) (hr:Rdr W R Q s 0) (h0:q [] W) :
  CallsIn Fence.wide n va 137 #[Value.func (.yield l) #[] #[],vo (A ⟨Bx,0,Y⟩)] W (IW s q Jx):=by
 obtain⟨HJ,c,HY⟩:=zz3 hJ D hY;clear hJ D hY;refine callsIn_of_wp Tryz.func137 Z trivial ?_ Z;simp only[Tryz.ntmps137,List.size_toArray,Kf,List.length_nil,Nat.reduceAdd,Nat.reduceSub,Array.replicate_succ,Array.replicate_zero,List.push_toArray,List.append_toArray,List.nil_append,List.cons_append];obtain⟨m,a⟩:=c.o _ _ h0
 gi_wp2_with fail
 refine⟨trivial,(fun h=>by cases h),callsIn_wide.2 ((uR R Q 0 s W hr (J0 _) hs).mono ?_)⟩;rintro e w1 ⟨rfl,E,F⟩;have G:=HJ.o _ _ _ h0 E;clear m a
 gi_wp2_with fail
 gi_loopw [5,20] (fun _ _ wr=>∃pre k,k≤s.size∧skip s k=k∧Rdr wr R Q s k∧q pre wr∧pre++(ay s k).1=(ay s 0).1∧(ay s k).2=(ay s 0).2) (fun _ _ wr=>s.size-sF wr Q)
 case atStart=>exact⟨[],skip s 0,Ar _ _ _ (JM _) (J0 _),pG _ _,F,G,by rw[jp];rfl,by rw[jp]⟩
 case round =>
  obtain⟨pre,k,hk,H,u,K,L,M⟩:=hrel;obtain⟨d,v,x⟩:=zz3 H L M;clear H L M h0 hr F G E;obtain⟨m,a⟩:=c.o _ _ K;obtain⟨r0,r1,q0,q1,⟨p,q2⟩,f1,f2,a1,a6⟩:=u.z
  gi_wp2_with fail
  refine⟨trivial,(fun h=>by cases h),callsIn_wide.2 ((xe Q k s wr q0 q1 hk hs).mono ?_)⟩;rintro e w2 ⟨rfl,nd,rfl⟩;have N:Kr wr (wr.drewN nd):=below_drewN (JO _ _) nd;have ba:=u.K N;have y:=HJ.o _ _ _ K (aF N _);generalize wr.drewN nd=w2 at *;clear m a r0 r1 q0 q1 q2 f1 f2 a1 a6;obtain⟨m,a⟩:=c.o _ _ y
  by_cases f:k<s.size
  ·gi_wp2_with fail
   refine⟨trivial,(fun h=>by cases h),callsIn_wide.2 ((DL R Q k s w2 ba f hs m hQ).mono ?_)⟩;rintro e w3 ⟨rfl,bb,P⟩;have S:=HJ.o _ _ _ y bb;clear m a;obtain⟨m,a⟩:=c.o _ _ S;have T:pre.length≤s.size:=by
    have h1:=rR s (s.size+1) 0 (J0 _);have h2:=o4 List.length v.o;simp only[J2]at h2;have h3:(ay s 0).1.length+0≤s.size:=h1;omega
   have hY:=HY.o pre k w3 f T S;clear T;generalize hT:ag s k s[k]=t at *;obtain⟨kd,tx,er,z⟩:=t;dsimp only at hY P ⊢;have HT:=Hd hT;clear hT;obtain⟨fn,tmps,assign,body,hy,hR⟩:=hY;have V:skip s k<s.size:=by rw[d.o];exact f
   have hE:ag s (skip s k) s[skip s k]=(kd,tx,er,z):=by simp only[d.o];exact HT.o
   have HE:=Hd hE;clear hE
   gi_wp2_with fail
   refine⟨(fun h=>by cases h),hR.mono ?_⟩;rintro e w4 (⟨b,rfl,X,g⟩|⟨b,rfl,bd⟩)
   ·have bg:=g _ P;have B:=Hd b;clear b hy m a g;obtain⟨m,a⟩:=c.o _ _ X;have ad:=fL s k f (by rw[HT.o];exact B.o);rw[HT.o]at ad;obtain⟨bm,af⟩:k<z∧z≤s.size:=ad
    gi_wp2_with fail
    refine⟨trivial,(fun h=>by cases h),callsIn_wide.2 ((uR R Q z s w4 bg af hs).mono ?_)⟩;rintro e w5 ⟨rfl,bk,aq⟩;have bl:=HJ.o _ _ _ X bk;have hle:=Ar s _ z (JM _) af;have bn:=lA s _ z (JM _);clear m a;have C:=fy s k V (by rw[HE.o];exact B.o);rw[HE.o]at C;have ar:=Hd C;clear C
    gi_wp2_with fail
    refine⟨⟨pre++[(kd,tx,k)],skip s z,hle,pG _ _,aq,bl,?_,?_⟩,?_⟩
    ·rw[jp,←v.o,ar.o];simp[d.o]
    ·rw[jp,←x.o,ar.o]
    ·rw[aq.pos,u.pos];omega
   ·have i:=fJ s k V (by rw[HE.o];exact b);rw[HE.o]at i;obtain⟨HB,B⟩:=zz2 i b;clear i b hy
    gi_wp2_with fail
    refine bodyPost_ret (results_none Z _ _ _) Z ?_;refine⟨⟨_,Z⟩,Or.inr ⟨er,k,?_,bd⟩⟩;rw[←x.o,HB.o];simp only[d.o]
  ·have hend:=dP s k (by rw[d.o];exact f);have r:=Hd hend;clear hend
   gi_wp2_with fail
   go_end0
   refine⟨⟨_,Z⟩,Or.inl ⟨?_,?_⟩⟩
   ·rw[←x.o,r.o]
   ·rw[←v.o,r.o]
    simpa using y
