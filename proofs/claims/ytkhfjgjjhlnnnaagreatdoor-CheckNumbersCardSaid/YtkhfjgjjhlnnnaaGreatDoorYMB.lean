/- Parts of one proof, joined; conditions stand in each theorem. -/
import Derived.Test.YtkhfjgjjhlnnnaaGreatDoorYMA
import Derived.Deep.RegionHeld3
import Derived.Deep.RegionWith
import Derived.Handy
import Derived.RangeFuncNested
import Derived.RangeFuncBound
import Derived.RangeFuncCalls
import Derived.RangeFuncLeaves
import Derived.Shelf.Abstract
import Derived.Shelf.RegionOpen
import Derived.OwnWalkIn
import Derived.TacticsInMore
import Derived.LoopNIn
import Derived.LoopIn
open Go renaming World→wD,Value→wF,undef→At,Calls→xL
open Go.Ending renaming returned→z8
open Go.Value renaming tuple→CA,agg→xS,int→I,string→J,pointer→xV,bool→AJ
open Go.IntKind renaming u8→O,i64→Z
open Option renaming some→Y,none→U
open Go.Obj renaming cells→wq
open Go.Proofs.Tryz renaming prog→xD
open Bool renaming true→wP,false→xj
namespace Go.Proofs.YtkhfjgjjhlnnnaaGreatDoor
set_option maxHeartbeats 1000000
open Go.RowKit
theorem jX:(fun c=>[dj].any (hasB · c))=isLow:=by
 funext c
 show (hasB dj c||false)=_
 rw[lM,Bool.or_false]
theorem mr:(fun c=>[jM].any (hasB · c))=bN:=by
 funext c
 show (hasB jM c||false)=_
 rw[yt,Bool.or_false]
theorem l5:(fun c=>[fY].any (hasB · c))=be:=by
 funext c
 show (hasB fY c||false)=_
 rw[uu,Bool.or_false]
theorem mo(c:UInt8):[(⟨#[63,39]⟩:ByteArray)].any (hasB · c)=(c==63||c==39):=by
 show ((([63,39]:List UInt8).contains c)||false)=_
 simp only[List.contains_cons,List.contains_nil,Bool.or_false]
theorem se(c:UInt8):[(⟨#[39]⟩:ByteArray)].any (hasB · c)=(c==39):=by
 show ((([39]:List UInt8).contains c)||false)=_
 simp only[List.contains_cons,List.contains_nil,Bool.or_false]
def aj(s:ByteArray) (k:Nat) (c:UInt8):Nat×ByteArray×Nat×Nat:=
 if isLow c then (if de (s.extract k (aA be s k)).data.toList then 1 else 2,s.extract k (aA be s k),if aA be s k-k≤24 then 0 else 201,aA be s k)
 else if c==63||c==39 then (if c==39 then 5 else 3,s.extract (k+1) (aA be s (k+1)),if eX (s.extract (k+1) (aA be s (k+1))).data.toList then 0 else 201,aA be s (k+1))
 else if bN c then (4,s.extract k (aA bN s k),if (number (s.extract k (aA bN s k)).data.toList).isSome&&!((s.data.toList.drop (aA bN s k)).head?.any be) then 0 else 201,aA bN s k)
 else match eK.find? (fun g=>Lib.hasPrefix (s.data.toList.drop k) g.data.toList) with
  | some g=>(6,g,0,k+g.size)
  | none=>(0,⟨#[]⟩,200,k)
def iH(w:wD) (R Q:Nat) (s:ByteArray) (k:Nat) (c:UInt8) (e:Ending) (w':wD):Prop:=
 e=z8 (CA #[xS #[I O (aj s k c).1,J (aj s k c).2.1,I Z k],I Z (aj s k c).2.2.1])∧w.grownBy w' (Y Q)∧Rdr w' R Q s (aj s k c).2.2.2
theorem xJ{w:wD}{R Q:Nat}{s:ByteArray}{k:Nat}{c:UInt8}{w':wD}(kd:Nat)(tx:ByteArray)(er a:Nat)(h:aj s k c=(kd,tx,er,a))(b:w.grownBy w' (Y Q))(d:Rdr w' R Q s a) :
  iH w R Q s k c (z8 (CA #[xS #[I O kd,J tx,I Z k],I Z er])) w':=by
 unfold iH;rw[h];exact⟨V,b,d⟩
theorem ke(w e:wD)(R Q:Nat)(s:ByteArray)(k:Nat)(c:UInt8)(T kd er h:Nat)(f g:Int)(tx:ByteArray)(a0 u l:wF)(x:e.heap[T]?=Y (wq #[a0,u,l] 122 (0,0)))(a:w.heap.size≤T)(b:T≠R)(d:T≠Q)
  (y:w.grownBy e (Y Q)) (z:Rdr e R Q s h) (hF:aj s k c=(kd,tx,er,h)) (m:f=kd) (n:g=er) (tmps:Array wF) (B:tmps.getD 2 At=xV (Y ⟨T,0,U⟩)) (C:tmps.getD 3 At=I Z g) :
  bodyPost xD Tryz.f158 (iH w R Q s k c) .ret ⟨tmps,[]⟩ (((e.setCell ⟨T,0,U⟩ (I O f)).setCell ⟨T,1,U⟩ (J tx)).setCell ⟨T,2,U⟩ (I Z k)):=by
 subst m n;have o:(((e.setCell ⟨T,0,U⟩ (I O kd)).setCell ⟨T,1,U⟩ (J tx)).setCell ⟨T,2,U⟩ (I Z k)).heap[T]?=Y (wq #[I O kd,J tx,I Z k] 122 (0,0)):=
  heap_set (heap_set (heap_set x 0 _) 1 _) 2 _
 have p:=dL (dL (dL y a 0 (I O kd)) a 1 (J tx)) a 2 (I Z k);have q:=((z.b (i:=0) (I O kd) b d).b (i:=1) (J tx) b d).b (i:=2) (I Z k) b d;generalize ((e.setCell ⟨T,0,U⟩ (I O kd)).setCell ⟨T,1,U⟩ (J tx)).setCell ⟨T,2,U⟩ (I Z k)=w9 at *;obtain⟨l,D,c2,_⟩:=cells3 o;refine bodyPost_ret (v:=CA #[xS #[I O kd,J tx,I Z k],I Z er]) ?_ V (xJ kd tx er h hF p q);have r:tmps[2]?.getD At=xV (Y ⟨T,0,U⟩):=by simpa using B
 have t:tmps[3]?.getD At=I Z er:=by simpa using C
 simp[results,Tryz.results158,go_sem,r,t,l,D,c2]
theorem ext_list(s:ByteArray)(a b:Nat)(h:a<b)(c:b≤s.size):(s.extract a b).data.toList=(s[a]'(by omega))::(s.extract (a+1) b).data.toList:=by
 have e:∀x y,(s.extract x y).data.toList=(s.data.toList.drop x).take (y-x):=by intro x y;rw[ByteArray.data_extract,Array.toList_extract]
 rw[e,e,drop_cons s a (by omega),show b-a=(b-(a+1))+1 from by omega,EY]
theorem ext_size(s:ByteArray)(a b:Nat)(c:b≤s.size):(s.extract a b).size=b-a:=by rw[ByteArray.size_extract];omega
theorem xI(s:ByteArray)(a b:Nat)(h:a<b)(c:b≤s.size)(e:isLow s[a]=wP):eX (s.extract a b).data.toList=decide (b-a≤24):=by
 have d:(s.extract a b).data.toList.length=b-a:=by rw[Fq];exact ext_size s a b c
 rw[ext_list s a b h c]at d ⊢;simp only[eX,e,Bool.and_true,d]
theorem yQ(R Q k:Nat)(s:ByteArray)(w:wD)(h:Rdr w R Q s k)(hk:k<s.size)(hs:s.size≤16384)(ht:aR w)(hQ:Q≠1)
  (hc:isLow s[k]=wP) :
  xL xD 158 #[xV (Y ⟨R,0,U⟩)] w (iH w R Q s k s[k]):=by
 have af:∀(W:wD) (T:Nat) (cs:Array wF),W.heap[T]?=Y (wq cs 122 (0,0))→Rdr W R Q s k→Y T≠Y Q:=fun W T cs hT hr e=>by
  obtain⟨p,hq⟩:=hr.q;injection e with e
  exact kA hT hq (by decide) e
 have ak:=Hd af;clear af;have HC:=Hd hc
 go_enter Tryz.func158,Tryz.ntmps158
 go_wp2_with fail
 have r:FK w (w.alloc (wq #[I O 0,J ⟨#[]⟩,I Z 0] 122)):=(EP _ w).alloc (EO _) _;have T2:=p9 w (wq #[I O 0,J ⟨#[]⟩,I Z 0] 122);refine (tH R Q k s _ (h.C r) (by omega) hs).mono ?_;rintro e w1 ⟨rfl,G⟩;have a:FK w w1:=r.trans (G.mono r.size);have H:=Hd (aa G T2 (by simp));have K:=h.C a;clear T2 G r;have t:FK w1 (w1.alloc (wq #[I O 0,J ⟨#[]⟩,I Z k] 122)):=(EP _ w1).alloc (EO _) _;have T4:=Hd (p9 w1 (wq #[I O 0,J ⟨#[]⟩,I Z k] 122));go_wp2_with fail
 refine (gR R Q k s _ (K.C t) hk hs [dj] wP (by rw[←HC.o];exact congrFun jX s[k]) _ V 1 1 V (by omega) _ (by simp)).mono ?_;rintro e w3 ⟨rfl,L⟩;have f:FK w1 w3:=t.trans (L.mono t.size);have B:FK w w3:=a.trans (f.mono a.size);have M:=K.C f;obtain⟨N,m⟩:=zz2 (aa L T4.o (by simp)) (aa f H.o (EN.1 H.o).1);clear t L f T4;go_wp2_with fail
 refine (take_at R Q k s _ M (by omega) hs [fY] be l5 _ V 1 1 V (by omega) _ V).mono ?_;rintro e w4 ⟨rfl,u,bk⟩;have C:w.grownBy w4 (Y Q):=sn (aP B _) u;obtain⟨n,al⟩:=zz2 (aV u N.o (ak.o _ _ _ N.o M)) (aV u m.o (ak.o _ _ _ m.o M));have bl:=ext_size s k (aA be s k) (dm be s k (by omega));have D:be s[k]=true:=by unfold be;rw[HC.o];rfl
 have aq:k<aA be s k:=by rw[←gG be s k hk D];exact fk _ _ _
 have ar:=dm be s k (by omega);have av:=xI s k (aA be s k) aq ar HC.o;generalize hE:aA be s k=d at *;generalize hX:s.extract k d=tx at *;obtain⟨HE,HX⟩:=zz2 hE hX;have bB:tx.size≤16384:=by omega
 have bn:=Hd av;clear bl D av;clear hE hX u B N m;have g:Hid (w1.heap.size≠R∧w1.heap.size≠Q):=by
  obtain⟨_,_,_,_,_,_,_,bR,b0⟩:=K.u
  show w1.heap.size≠R∧w1.heap.size≠Q
  omega
 obtain⟨c0,c1,c2,f0,f1,f2⟩:=cells3 n.o;have HG:Hid (w.grownBy ((w4.setCell ⟨w1.heap.size,0,U⟩ (I O 2)).setCell ⟨w1.heap.size,1,U⟩ (J tx)) (Y Q)):=dL (dL C a.size _ _) a.size _ _;have P:=Hd (heap_set (heap_set n.o 0 (I O 2)) 1 (J tx));have S:w1.heap.size≠w.heap.size:=by have:=(EN.1 H.o).1;omega
 obtain⟨bq,E⟩:=zz2 ((bk.b (T:=w1.heap.size) (i:=0) (I O 2) g.o.1 g.o.2).b (i:=1) (J tx) g.o.1 g.o.2) (aK (aK al.o S 0 (I O 2)) S 1 (J tx));go_wp2_with fail
 generalize (w4.setCell ⟨w1.heap.size,0,U⟩ (I O 2)).setCell ⟨w1.heap.size,1,U⟩ (J tx)=F at *;have br:Rdr F R Q s d:=bq.o;have a1:aR F:=ht.h HG.o hQ;clear n c0 c1 c2 f0 f1 f2 C;obtain⟨c0,c1,c2,f0,f1,f2⟩:=cells3 P.o;have a6:=(EN.1 P.o).1
 go_region_held3 (fun w'=>w'.cell? ⟨w1.heap.size,1,U⟩=Y (J tx))
  (first
   | assumption
   | (exact (World.cell?_alloc_lt F _ ⟨w1.heap.size,1,U⟩ a6).trans c1))
  (first
   | (go_at_call 214;refine (sY _ (a1.z (EP _ _).drew)).mono ?_;rintro e w6 ⟨rfl,rfl⟩)
   | (go_at_call 213;refine (lT _ _ tx _ (by exact p9 F _)).mono ?_;rintro e w6 ⟨rfl,rfl⟩))
 have v:FK F (F.alloc (wq (eY.map J).toArray 9)).drew:=((EP _ F).alloc (EO _) _).drew;generalize (F.alloc (wq (eY.map J).toArray 9)).drew=w6 at *;obtain⟨bt,y,X⟩:=zz3 (aa v P.o a6) (aa v E.o (EN.1 E.o).1) (grown_below HG.o v);clear c0 c1 c2 f0 f1 f2 a1 HG;obtain⟨c0,c1,c2,f0,f1,f2⟩:=cells3 bt.o;obtain⟨d0,d1,d2,e0,e1,e2⟩:=cells3 y.o;have z:=Hd (fun W (x:Bool) (hx:decide (d-k≤24)=x)=>(kb tx W (by omega)).mono (R':=fun e w'=>e=z8 (AJ x)∧W=w') (fun e w' hh=>⟨by rw[hh.1,bn.o,hx],hh.2⟩));have b:Hid (aj s k s[k]=(if de tx.data.toList then 1 else 2,tx,if d-k≤24 then 0 else 201,d)):=by
  show aj s k s[k]=_
  unfold aj;rw[rv HC.o,HE.o,HX.o]
 have ad:=br.C v;have ba:w.heap.size≠R∧w.heap.size≠Q:=by
  obtain⟨_,_,_,_,_,_,_,b1,b2⟩:=h.u;omega
 have c:=Hd ba;clear ba
 cases hw:de tx.data.toList
 ·cases l:decide (d-k≤24)
  ·have HN:=Hd l;have HF:Hid (aj s k s[k]=(2,tx,201,d)):=by
    show aj s k s[k]=_
    rw[b.o,hw,qv (by simp),qv (by simpa using l)]
   clear l hw b
   go_wp2_with (first
    | (go_at_call 230;refine (z.o _ _ HN.o).mono ?_;rintro e w7 ⟨rfl,rfl⟩))
   exact ke w _ R Q s k _ _ 2 201 d 2 201 tx _ _ _ y.o (EO _) c.o.1 c.o.2 X.o ad HF.o V V _ V V
  ·have HN:=Hd l;have HF:Hid (aj s k s[k]=(2,tx,0,d)):=by
    show aj s k s[k]=_
    rw[b.o,hw,qv (by simp),rv (by simpa using l)]
   clear l hw b
   go_wp2_with (first
    | (go_at_call 230;refine (z.o _ _ HN.o).mono ?_;rintro e w7 ⟨rfl,rfl⟩))
   exact ke w _ R Q s k _ _ 2 0 d 2 0 tx _ _ _ y.o (EO _) c.o.1 c.o.2 X.o ad HF.o V V _ V V
 ·obtain⟨bb,bc,bd⟩:=zz3 (aK y.o S 0 (I O 1)) (dL X.o a.size 0 (I O 1)) (ad.b (T:=w1.heap.size) (i:=0) (I O 1) g.o.1 g.o.2)
  cases l:decide (d-k≤24)
  ·have HN:=Hd l;have HF:Hid (aj s k s[k]=(1,tx,201,d)):=by
    show aj s k s[k]=_
    rw[b.o,hw,rv V,qv (by simpa using l)]
   clear l hw b
   go_wp2_with (first
    | (go_at_call 230;refine (z.o _ _ HN.o).mono ?_;rintro e w7 ⟨rfl,rfl⟩))
   exact ke w _ R Q s k _ _ 1 201 d 1 201 tx _ _ _ bb.o (EO _) c.o.1 c.o.2 bc.o bd.o HF.o V V _ V V
  ·have HN:=Hd l;have HF:Hid (aj s k s[k]=(1,tx,0,d)):=by
    show aj s k s[k]=_
    rw[b.o,hw,rv V,rv (by simpa using l)]
   clear l hw b
   go_wp2_with (first
    | (go_at_call 230;refine (z.o _ _ HN.o).mono ?_;rintro e w7 ⟨rfl,rfl⟩))
   exact ke w _ R Q s k _ _ 1 0 d 1 0 tx _ _ _ bb.o (EO _) c.o.1 c.o.2 bc.o bd.o HF.o V V _ V V
structure TS (w:wD) (R Q:Nat) (s:ByteArray) (k T2 T4 j:Nat) (kd:Int) (tx:ByteArray) (W:wD):Prop where
 t2:W.heap[T2]?=Y (wq #[I O 0,J ⟨#[]⟩,I Z 0] 122 (0,0))
 t4:W.heap[T4]?=Y (wq #[I O kd,J tx,I Z k] 122 (0,0))
 g:w.grownBy W (Y Q)
 r:Rdr W R Q s j
 n2:w.heap.size≤T2
 n4:w.heap.size≤T4
 ne:T4≠T2
 r2:T2≠R∧T2≠Q
 r4:T4≠R∧T4≠Q
section
variable {w W W':wD} {R Q k T2 T4 j:Nat} {s:ByteArray} {kd:Int} {tx:ByteArray}
theorem TS.z(h:TS w R Q s k T2 T4 j kd tx W)(a:FK W W'):TS w R Q s k T2 T4 j kd tx W':=
 { h with t2:=aa a h.t2 (EN.1 h.t2).1,t4:=aa a h.t4 (EN.1 h.t4).1,g:=grown_below h.g a,r:=h.r.C a }
theorem TS.h{b:Nat}(h:TS w R Q s k T2 T4 j kd tx W)(a:W.grownBy W' (Y Q))(c:Rdr W' R Q s b):TS w R Q s k T2 T4 b kd tx W':=
 { h with t2:=aV a h.t2 (by intro e;injection e with e;exact h.r2.2 e),t4:=aV a h.t4 (by intro e;injection e with e;exact h.r4.2 e),g:=sn h.g a,r:=c }
theorem TS.b(h:TS w R Q s k T2 T4 j kd tx W)(a:Int):TS w R Q s k T2 T4 j a tx (W.setCell ⟨T4,0,U⟩ (I O a)):=
 { h with t2:=aK h.t2 h.ne _ _,t4:=heap_set h.t4 0 _,g:=dL h.g h.n4 _ _,r:=h.r.b _ h.r4.1 h.r4.2 }
theorem TS.f(h:TS w R Q s k T2 T4 j kd tx W)(a:ByteArray):TS w R Q s k T2 T4 j kd a (W.setCell ⟨T4,1,U⟩ (J a)):=
 { h with t2:=aK h.t2 h.ne _ _,t4:=heap_set h.t4 1 _,g:=dL h.g h.n4 _ _,r:=h.r.b _ h.r4.1 h.r4.2 }
theorem TS.tab(h:TS w R Q s k T2 T4 j kd tx W)(a:aR w)(b:Q≠1):aR W:=a.h h.g b
theorem TS.c4(h:TS w R Q s k T2 T4 j kd tx W):W.cell? ⟨T4,0,U⟩=Y (I O kd)∧W.cell? ⟨T4,1,U⟩=Y (J tx)∧W.cell? ⟨T4,2,U⟩=Y (I Z k)∧W.frozen? ⟨T4,0,U⟩=xj∧W.frozen? ⟨T4,1,U⟩=xj∧W.frozen? ⟨T4,2,U⟩=false:=cells3 h.t4
theorem TS.c2(h:TS w R Q s k T2 T4 j kd tx W):W.cell? ⟨T2,0,U⟩=Y (I O 0)∧W.cell? ⟨T2,1,U⟩=Y (J ⟨#[]⟩)∧W.cell? ⟨T2,2,U⟩=Y (I Z 0)∧W.frozen? ⟨T2,0,U⟩=xj∧W.frozen? ⟨T2,1,U⟩=xj∧W.frozen? ⟨T2,2,U⟩=false:=cells3 h.t2
end
theorem TS.start{w w1:wD}{R Q k:Nat}{s:ByteArray}(h:Rdr w R Q s k)(c:Below (w.alloc (wq #[I O 0,J ⟨#[]⟩,I Z 0] 122)).heap.size (w.alloc (wq #[I O 0,J ⟨#[]⟩,I Z 0] 122)) w1) :
  TS w R Q s k w.heap.size w1.heap.size k 0 ⟨#[]⟩ (w1.alloc (wq #[I O 0,J ⟨#[]⟩,I Z k] 122)):=by
 have d:FK w (w.alloc (wq #[I O 0,J ⟨#[]⟩,I Z 0] 122)):=(EP _ w).alloc (EO _) _;have T2:=p9 w (wq #[I O 0,J ⟨#[]⟩,I Z 0] 122);have a:FK w w1:=d.trans (c.mono d.size);have e:=aa c T2 (by simp);have f:=h.C a;have b:FK w1 (w1.alloc (wq #[I O 0,J ⟨#[]⟩,I Z k] 122)):=(EP _ w1).alloc (EO _) _;have i:=(EN.1 e).1;obtain⟨_,_,_,_,_,_,_,l,m⟩:=h.u;exact { t2:=aa b e i,t4:=p9 w1 _,g:=aP (a.trans (b.mono a.size)) _,r:=f.C b,n2:=EO _,n4:=a.size,ne:=by omega,r2:=by omega,r4:=by omega }
theorem TS.fin{w W:wD}{R Q k T2 T4:Nat}{s:ByteArray}{c:UInt8}{kd er d:Nat}{a b:Int}{tx:ByteArray}(h:TS w R Q s k T2 T4 d a tx W)(hF:aj s k c=(kd,tx,er,d))(e:a=kd)(f:b=er)(tmps:Array wF)(i:tmps.getD 2 At=xV (Y ⟨T2,0,U⟩))(l:tmps.getD 3 At=I Z b) :
  bodyPost xD Tryz.f158 (iH w R Q s k c) .ret ⟨tmps,[]⟩ (((W.setCell ⟨T2,0,U⟩ (I O a)).setCell ⟨T2,1,U⟩ (J tx)).setCell ⟨T2,2,U⟩ (I Z k)):=
 ke w W R Q s k c T2 kd er d a b tx _ _ _ h.t2 h.n2 h.r2.1 h.r2.2 h.g h.r hF e f tmps i l
theorem yP(R Q k:Nat)(s:ByteArray)(w:wD)(h:Rdr w R Q s k)(L:k<s.size)(x:s.size≤16384)
  (hc:isLow s[k]=xj) (hq:(s[k]==63||s[k]==39)=wP) :
  xL xD 158 #[xV (Y ⟨R,0,U⟩)] w (iH w R Q s k s[k]):=by
 obtain⟨T,X⟩:=zz2 hc hq;clear hc hq
 go_enter Tryz.func158,Tryz.ntmps158
 go_wp2_with fail
 refine (tH R Q k s _ (h.C ((EP _ w).alloc (EO _) _)) (by omega) x).mono ?_;rintro e w1 ⟨rfl,ad⟩;have S1:=TS.start h ad;go_wp2_with fail
 refine (gR R Q k s _ S1.r L x [dj] xj (by rw[←T.o];exact congrFun jX s[k]) _ V 1 1 V (by omega) _ (by simp)).mono ?_;rintro e w3 ⟨rfl,M⟩;have S:=S1.z M;clear S1 M;generalize w1.heap.size=T4 at *;generalize w.heap.size=T2 at S ⊢;go_wp2_with fail
 refine (gR R Q k s _ S.r L x [⟨#[63,39]⟩] wP (by rw[mo];exact X.o) _ V 1 1 V (by omega) _ V).mono ?_;rintro e w4 ⟨rfl,N⟩;have S4:=S.z N;clear S N;obtain⟨z,B,c2,f0,f1,f2⟩:=S4.c4;have c:=S4.b 3;go_wp2_with fail
 have hz:=Hd (show (w4.setCell ⟨T4,0,U⟩ (I O 3)).heap.size=w4.heap.size by simp);generalize w4.setCell ⟨T4,0,U⟩ (I O 3)=w5 at *;clear z B c2 f0 f1 f2 S4
 cases d:s[k]==39
 ·refine (gR R Q k s _ c.r L x [⟨#[39]⟩] xj (by rw[se];exact d) _ V 1 1 V (by omega) _ hz.o).mono ?_;rintro e w6 ⟨rfl,i⟩;have g:=c.z i;have C:=Hd d;clear c i d;obtain⟨z,B,c2,f0,f1,f2⟩:=g.c4;obtain⟨r0,r1,q0,q1,⟨p,q2⟩,_⟩:=g.r.u;obtain⟨p',l⟩:=g.r.q;have D:=Hd l;clear l;go_wp2_with fail
  refine (j5 Q k _ s _ D.o L x).mono ?_;rintro e w7 ⟨rfl,b,m⟩;have E:=g.h b (g.r.h b m);clear g b m z B c2 f0 f1 f2 r0 r1 q0 q1 q2;go_wp2_with fail
  refine (take_at R Q (k+1) s _ E.r (by omega) x [fY] be l5 _ V 1 1 V (by omega) _ V).mono ?_;rintro e w8 ⟨rfl,n,t⟩;have P:=E.h n t;clear E n t;have u:=dm be s (k+1) (by omega);have v:(s.extract (k+1) (aA be s (k+1))).size≤16384:=by rw[ext_size s _ _ u];omega
  have a:Hid (aj s k s[k]=(3,s.extract (k+1) (aA be s (k+1)),if eX (s.extract (k+1) (aA be s (k+1))).data.toList then 0 else 201,aA be s (k+1))):=by
   show aj s k s[k]=_
   unfold aj;rw[qv (by rw[T.o];simp),rv X.o,qv (by rw[C.o];simp)]
  generalize aA be s (k+1)=F at *;generalize s.extract (k+1) F=tx at *;obtain⟨z,B,c2,f0,f1,f2⟩:=P.c4;have y:=P.f tx;obtain⟨d0,d1,d2,e0,e1,e2⟩:=y.c4;obtain⟨af,ak,al,aq,ar,av⟩:=y.c2
  cases f:eX tx.data.toList
  ·have G:Hid (aj s k s[k]=(3,tx,201,F)):=by
    show aj s k s[k]=_
    rw[a.o,f];rfl
   have H:=Hd f;clear a f
   go_wp2_with (first
    | (go_at_call 230;refine (kb tx _ v).mono ?_;rintro e w9 ⟨rfl,rfl⟩;rw[H.o]))
   exact y.fin G.o V V _ V V
  ·have G:Hid (aj s k s[k]=(3,tx,0,F)):=by
    show aj s k s[k]=_
    rw[a.o,f];rfl
   have H:=Hd f;clear a f
   go_wp2_with (first
    | (go_at_call 230;refine (kb tx _ v).mono ?_;rintro e w9 ⟨rfl,rfl⟩;rw[H.o]))
   exact y.fin G.o V V _ V V
 ·refine (gR R Q k s _ c.r L x [⟨#[39]⟩] wP (by rw[se];exact d) _ V 1 1 V (by omega) _ hz.o).mono ?_;rintro e w6 ⟨rfl,i⟩;have K:=c.z i;have C:=Hd d;clear c i d;obtain⟨z,B,c2,f0,f1,f2⟩:=K.c4;have g:=K.b 5;obtain⟨r0,r1,q0,q1,⟨p,q2⟩,_⟩:=g.r.u;obtain⟨p',l⟩:=g.r.q;have D:=Hd l;clear l;go_wp2_with fail
  generalize w6.setCell ⟨T4,0,U⟩ (I O 5)=a1 at *;refine (j5 Q k _ s _ D.o L x).mono ?_;rintro e w7 ⟨rfl,b,m⟩;have E:=g.h b (g.r.h b m);clear g K b m z B c2 f0 f1 f2 r0 r1 q0 q1 q2;go_wp2_with fail
  refine (take_at R Q (k+1) s _ E.r (by omega) x [fY] be l5 _ V 1 1 V (by omega) _ V).mono ?_;rintro e w8 ⟨rfl,n,t⟩;have P:=E.h n t;clear E n t;have u:=dm be s (k+1) (by omega);have v:(s.extract (k+1) (aA be s (k+1))).size≤16384:=by rw[ext_size s _ _ u];omega
  have a:Hid (aj s k s[k]=(5,s.extract (k+1) (aA be s (k+1)),if eX (s.extract (k+1) (aA be s (k+1))).data.toList then 0 else 201,aA be s (k+1))):=by
   show aj s k s[k]=_
   unfold aj;rw[qv (by rw[T.o];simp),rv X.o,rv C.o]
  generalize aA be s (k+1)=F at *;generalize s.extract (k+1) F=tx at *;obtain⟨z,B,c2,f0,f1,f2⟩:=P.c4;have y:=P.f tx;obtain⟨d0,d1,d2,e0,e1,e2⟩:=y.c4;obtain⟨af,ak,al,aq,ar,av⟩:=y.c2
  cases f:eX tx.data.toList
  ·have G:Hid (aj s k s[k]=(5,tx,201,F)):=by
    show aj s k s[k]=_
    rw[a.o,f];rfl
   have H:=Hd f;clear a f
   go_wp2_with (first
    | (go_at_call 230;refine (kb tx _ v).mono ?_;rintro e w9 ⟨rfl,rfl⟩;rw[H.o]))
   exact y.fin G.o V V _ V V
  ·have G:Hid (aj s k s[k]=(5,tx,0,F)):=by
    show aj s k s[k]=_
    rw[a.o,f];rfl
   have H:=Hd f;clear a f
   go_wp2_with (first
    | (go_at_call 230;refine (kb tx _ v).mono ?_;rintro e w9 ⟨rfl,rfl⟩;rw[H.o]))
   exact y.fin G.o V V _ V V
theorem D8(R Q k:Nat)(s:ByteArray)(w:wD)(h:Rdr w R Q s k)(o:k≤s.size)(i:s.size≤16384)(a:List ByteArray)(p:UInt8→Bool)(l:(fun c=>a.any (hasB · c))=p)(x:Bool)(f:(s.data.toList.drop k).head?.any p=x)(arr:Array wF)(b:arr=(a.map J).toArray)(n cap:Nat)(m:a.length=n)(g:n≤100)
  (B:Nat) (hB:w.heap.size=B) :
  xL xD 224 #[xV (Y ⟨R,0,U⟩),Value.slice (Y ⟨B,0,U⟩) n cap] (w.alloc (wq arr 9)) fun e w'=>e=z8 (AJ x)∧FK w w':=by
 subst hB
 by_cases d:k<s.size
 ·refine gR R Q k s w h d i a x ?_ arr b n cap m g _ V;rw[←f,drop_cons s k d,List.head?_cons,Option.any_some,←l]
 ·rw[drop_end s k (by omega)]at f;have:x=false:=by rw[←f];rfl
  subst this;exact qA R Q k s w h (by omega) i arr _
theorem Aw(R Q k:Nat)(s:ByteArray)(w:wD)(h:Rdr w R Q s k)(M:k<s.size)(d:s.size≤16384)
  (hc:isLow s[k]=xj) (hq:(s[k]==63||s[k]==39)=xj) (hd:bN s[k]=wP) :
  xL xD 158 #[xV (Y ⟨R,0,U⟩)] w (iH w R Q s k s[k]):=by
 obtain⟨HC,HQ,HD⟩:=zz3 hc hq hd;clear hc hq hd
 go_enter Tryz.func158,Tryz.ntmps158
 go_wp2_with fail
 refine (tH R Q k s _ (h.C ((EP _ w).alloc (EO _) _)) (by omega) d).mono ?_;rintro e w1 ⟨rfl,N⟩;have P:=TS.start h N;go_wp2_with fail
 refine (gR R Q k s _ P.r M d [dj] xj (by rw[←HC.o];exact congrFun jX s[k]) _ V 1 1 V (by omega) _ (by simp)).mono ?_;rintro e w3 ⟨rfl,i⟩;have F:=P.z i;clear P i;generalize w1.heap.size=T4 at *;generalize w.heap.size=T2 at F ⊢;go_wp2_with fail
 refine (gR R Q k s _ F.r M d [⟨#[63,39]⟩] xj (by rw[mo];exact HQ.o) _ V 1 1 V (by omega) _ V).mono ?_;rintro e w4 ⟨rfl,l⟩;have S:=F.z l;clear F l;go_wp2_with fail
 refine (gR R Q k s _ S.r M d [jM] wP (by rw[←HD.o];exact congrFun mr s[k]) _ V 1 1 V (by omega) _ V).mono ?_;rintro e w5 ⟨rfl,m⟩;have T:=S.z m;clear S m;go_wp2_with fail
 refine (take_at R Q k s _ T.r (by omega) d [jM] bN mr _ V 1 1 V (by omega) _ V).mono ?_;rintro e X ⟨rfl,n,p⟩;have S8:=T.h n p;clear T n p;have b:=dm bN s k (by omega);have ad:(s.extract k (aA bN s k)).size≤16384:=by rw[ext_size s _ _ b];omega
 have a:Hid (aj s k s[k]=(4,s.extract k (aA bN s k),if (number (s.extract k (aA bN s k)).data.toList).isSome&&!((s.data.toList.drop (aA bN s k)).head?.any be) then 0 else 201,aA bN s k)):=by
  show aj s k s[k]=_
  unfold aj;rw[qv (by rw[HC.o];simp),qv (by rw[HQ.o];simp),rv HD.o]
 generalize aA bN s k=f at *;generalize s.extract k f=tx at *;obtain⟨c0,c1,c2,f0,f1,f2⟩:=S8.c4;have c:=S8.b 4;have S9:=c.f tx;obtain⟨af,ak,al,aq,ar,av⟩:=c.c4;obtain⟨d0,d1,d2,G,H,K⟩:=S9.c4;have hz:=Hd (show ((X.setCell ⟨T4,0,U⟩ (I O 4)).setCell ⟨T4,1,U⟩ (J tx)).heap.size=X.heap.size by simp);go_wp2_with fail
 generalize (X.setCell ⟨T4,0,U⟩ (I O 4)).setCell ⟨T4,1,U⟩ (J tx)=w9 at *;clear c0 c1 c2 f0 f1 f2 af ak al aq ar av S8 c;refine (qL tx _ ad).mono ?_;rintro e wa ⟨rfl,q⟩;have g:=S9.z q;clear S9 q d0 d1 d2 G H K;obtain⟨d0,d1,d2,G,H,K⟩:=g.c4;obtain⟨t,u,x,y,z,B⟩:=g.c2;generalize a6:number tx.data.toList=nu at *
 cases nu with
 | none =>
  have C:Hid (aj s k s[k]=(4,tx,201,f)):=by
   show aj s k s[k]=_
   rw[a.o];rfl
  clear a;go_wp2_with fail
  exact g.fin C.o V V _ V V
 | some v =>
  generalize D:(s.data.toList.drop f).head?.any be=on at *;have a1:=Hd D;have hv:(Option.getD (Y v) 0)=v:=rfl;clear D;go_wp2_with fail
  refine (D8 R Q f s _ g.r b d [fY] be l5 on a1.o _ V 1 1 V (by omega) _ V).mono ?_;rintro e wb ⟨rfl,E⟩;have L:=g.z E;clear g E d0 d1 d2 G H K t u x y z B;obtain⟨d0,d1,d2,G,H,K⟩:=L.c4;obtain⟨t,u,x,y,z,B⟩:=L.c2
  cases on
  ·have C:Hid (aj s k s[k]=(4,tx,0,f)):=by
    show aj s k s[k]=_
    rw[a.o];rfl
   clear a;go_wp2_with fail
   exact L.fin C.o V V _ V V
  ·have C:Hid (aj s k s[k]=(4,tx,201,f)):=by
    show aj s k s[k]=_
    rw[a.o];rfl
   clear a;go_wp2_with fail
   exact L.fin C.o V V _ V V
def iW(s:ByteArray) (k:Nat) (g:ByteArray):Bool:=Lib.hasPrefix (s.data.toList.drop k) g.data.toList
theorem zh(p:ByteArray→Bool)(l:List ByteArray)(i:Nat)(g:ByteArray)(a:l[i]?=Y g):(l.drop i).find? p=if p g then Y g else (l.drop (i+1)).find? p:=by
 obtain⟨b,rfl⟩:=Fe.1 a;rw[List.drop_eq_getElem_cons b,List.find?_cons]
 cases p l[i]<;>rfl
theorem nU(s:ByteArray)(k:Nat)(g:ByteArray)(c:k≤s.size)(h:iW s k g=wP):k+g.size≤s.size:=by
 have a:g.data.toList.isPrefixOf (s.data.toList.drop k)=true:=h;have b:=(List.isPrefixOf_iff_prefix.1 a).length_le;simp at b;have d:g.data.size=g.size:=rfl;have e:s.data.size=s.size:=rfl;omega
theorem ym(R Q k:Nat)(s:ByteArray)(w:wD)(h:Rdr w R Q s k)(X:k<s.size)(z:s.size≤16384)(ht:aR w)(ad:Q≠1)
  (hc:isLow s[k]=xj) (D:(s[k]==63||s[k]==39)=xj) (hd:bN s[k]=xj) :
  xL xD 158 #[xV (Y ⟨R,0,U⟩)] w (iH w R Q s k s[k]):=by
 obtain⟨HC,HQ,HD⟩:=zz3 hc D hd;have d:Hid (aj s k s[k]=match eK.find? (iW s k) with|some g=>(6,g,0,k+g.size)|none=>(0,⟨#[]⟩,200,k)):=by
  show aj s k s[k]=_
  unfold aj;rw[qv (by rw[hc];simp),qv (by rw[D];simp),qv (by rw[hd];simp)];rfl
 clear hc D hd
 go_enter Tryz.func158,Tryz.ntmps158
 go_wp2_with fail
 refine (tH R Q k s _ (h.C ((EP _ w).alloc (EO _) _)) (by omega) z).mono ?_;rintro e w1 ⟨rfl,af⟩;have S1:=TS.start h af;go_wp2_with fail
 refine (gR R Q k s _ S1.r X z [dj] xj (by rw[←HC.o];exact congrFun jX s[k]) _ V 1 1 V (by omega) _ (by simp)).mono ?_;rintro e w3 ⟨rfl,E⟩;have T:=S1.z E;clear S1 E;generalize w1.heap.size=T4 at *;generalize w.heap.size=T2 at T ⊢;go_wp2_with fail
 refine (gR R Q k s _ T.r X z [⟨#[63,39]⟩] xj (by rw[mo];exact HQ.o) _ V 1 1 V (by omega) _ V).mono ?_;rintro e w4 ⟨rfl,F⟩;have S4:=T.z F;clear T F;go_wp2_with fail
 refine (gR R Q k s _ S4.r X z [jM] xj (by rw[←HD.o];exact congrFun mr s[k]) _ V 1 1 V (by omega) _ V).mono ?_;rintro e G ⟨rfl,H⟩;have S5:=S4.z H;clear S4 H;go_wp2_with fail
 refine (uV _ (S5.tab ht ad)).mono ?_;rintro e w6 ⟨rfl,rfl⟩;have hB:=Hd (p9 G (wq (eK.map J).toArray 9));have S6:=S5.z ((EP _ G).alloc (EO _) (wq (eK.map J).toArray 9));generalize G.alloc (wq (eK.map J).toArray 9)=w6 at *;have bl:Y G.heap.size≠Y Q:=by
  obtain⟨p,D⟩:=S6.r.q;intro e;injection e with e
  exact kA hB.o D (by decide) e
 generalize G.heap.size=B at *;clear S5;go_wp2_with fail
 go_loopw [14,8] (fun i _ wr=>∃m:Nat,m≤17∧i=I Z m∧TS w R Q s k T2 T4 k 0 ⟨#[]⟩ wr∧wr.heap[B]?=Y (wq (eK.map J).toArray 9 (0,0))∧(eK.drop m).find? (iW s k)=eK.find? (iW s k)) (fun i _ _=>17-(intOf i).toNat)
 case atStart=>exact⟨0,by omega,V,S6,hB.o,V⟩
 case round =>
  obtain⟨m,hm,rfl,C,K,c⟩:=hrel;obtain⟨l,n⟩:=zz2 c K;clear c K S6 hB
  by_cases L:m<17
  ·obtain⟨g,hg⟩:∃g,eK[m]?=Y g:=⟨eK[m]'L,ES L⟩;have ak:wr.cell? ⟨B,m,U⟩=Y (J g):=by rw[FI _ _ _ _ _ _ n.o];simp[hg]
   have al:=Hd hg;clear hg;go_wp2_with fail
   refine (tW R Q k s _ C.r (by omega) z).mono ?_;rintro e w7 ⟨⟨t,rfl,M,aq⟩,u⟩;have S7:=C.z u;obtain⟨ar,av⟩:=zz2 (aa u n.o (EN.1 n.o).1) M;clear M aq C ak;have N:=Hd (zh (iW s k) eK m g al.o);have HP:=Hd (fun (W:wD) (x:Bool) (hx:iW s k g=x)=>(Tryz.strings_HasPrefix t g W).mono (R':=fun e w'=>e=z8 (AJ x)∧W=w') (fun e w' hh=>⟨by rw[hh.1,av.o];exact tF (fun b=>z8 (AJ b)) hx,hh.2.symm⟩))
   cases a:iW s k g
   ·have f:=Hd a;clear a u
    go_wp2_with (first
     | (go_at_call 212;refine (HP.o _ _ f.o).mono ?_;rintro e w8 ⟨rfl,rfl⟩))
    refine⟨⟨m+1,by omega,by go_num,S7,ar.o,?_⟩,by simp[intOf];omega⟩;rw[←l.o,N.o,f.o];rfl
   ·have hle:=nU s k g (by omega) a;have HF:Hid (aj s k s[k]=(6,g,0,k+g.size)):=by
     show aj s k s[k]=_
     rw[d.o,←l.o,N.o,a];rfl
    have f:=Hd a;clear a d
    go_wp2_with (first
     | (go_at_call 212;refine (HP.o _ _ f.o).mono ?_;rintro e w8 ⟨rfl,rfl⟩))
    go_loopw [24] (fun i wi=>∃q:Nat,q≤g.size∧i=I Z q∧TS w R Q s k T2 T4 (k+q) 0 ⟨#[]⟩ wi) (fun i _=>g.size-(intOf i).toNat)
    case atStart=>exact⟨0,Fa _,V,S7⟩
    case round =>
     obtain⟨q,bn,rfl,v⟩:=hrel
     by_cases bq:q<g.size
     ·obtain⟨r0,r1,q0,q1,⟨p,q2⟩,_⟩:=v.r.u;obtain⟨p',P⟩:=v.r.q;have a1:=Hd P;clear P;go_wp2_with fail
      refine (j5 Q (k+q) _ s _ a1.o (by omega) z).mono ?_;rintro e w9 ⟨rfl,y,S⟩;have S9:=v.h y (v.r.h y S);clear v y S r0 r1 q0 q1 q2;go_wp2_with fail
      exact⟨⟨q+1,by omega,by go_num,S9⟩,by simp[intOf];omega⟩
     ·obtain rfl:q=g.size:=by omega
      obtain⟨c0,c1,c2,f0,f1,f2⟩:=v.c4;have Sa:=v.b 6;obtain⟨br,bt,bB,bR,b0,b1⟩:=Sa.c4;have Sb:=Sa.f g;obtain⟨d0,d1,d2,e0,e1,e2⟩:=Sb.c4;obtain⟨a6,ba,bb,bc,bd,bk⟩:=Sb.c2;go_wp2_with fail
      exact Sb.fin HF.o V V _ V V
  ·obtain rfl:m=17:=by omega
   have HF:Hid (aj s k s[k]=(0,⟨#[]⟩,200,k)):=by
    show aj s k s[k]=_
    rw[d.o,←l.o];rfl
   clear d;obtain⟨d0,d1,d2,e0,e1,e2⟩:=C.c4;obtain⟨a6,ba,bb,bc,bd,bk⟩:=C.c2;go_wp2_with fail
   exact C.fin HF.o V V _ V V
theorem Ad(R Q k:Nat)(s:ByteArray)(w:wD)(h:Rdr w R Q s k)(b:k<s.size)(c:s.size≤16384)(f:aR w)(a:Q≠1) :
  xL xD 158 #[xV (Y ⟨R,0,U⟩)] w (iH w R Q s k s[k]):=by
 cases d:isLow s[k]
 ·cases e:s[k]==63||s[k]==39
  ·cases g:bN s[k]
   ·exact ym R Q k s w h b c f a d e g
   ·exact Aw R Q k s w h b c d e g
  ·exact yP R Q k s w h b c d e
 ·exact yQ R Q k s w h b c f a d
attribute [local go_sem] Oper.semAt_some
abbrev Tok:=Nat×ByteArray×Nat
def toks:Nat→ByteArray→Nat→List Tok×Option (Nat×Nat)
 | 0,_,_=>([],U)
 | f+1,s,k =>
  if h:skip s k<s.size then
   if (aj s (skip s k) s[skip s k]).2.2.1=0 then
    (((aj s (skip s k) s[skip s k]).1,(aj s (skip s k) s[skip s k]).2.1,skip s k)::(toks f s (aj s (skip s k) s[skip s k]).2.2.2).1,(toks f s (aj s (skip s k) s[skip s k]).2.2.2).2)
   else ([],Y ((aj s (skip s k) s[skip s k]).2.2.1,skip s k))
  else ([],U)
theorem Bc(g:ByteArray)(h:g∈eK):0<g.size:=by
 have:eK.all (fun g=>decide (0<g.size))=true:=by kernel_rfl
 simpa using Fx.1 this g h
theorem fB(s:ByteArray)(k:Nat)(f:k<s.size)(a:(aj s k s[k]).2.2.1=0):k<(aj s k s[k]).2.2.2∧(aj s k s[k]).2.2.2≤s.size:=by
 unfold aj at a ⊢
 by_cases b:isLow s[k]=wP
 ·rw[rv b];have c:be s[k]=true:=by unfold be;rw[b];rfl
  have:=fk be s (k+1);rw[gG be s k f c]at this;exact⟨this,dm _ _ _ (by omega)⟩
 ·rw[qv b]at a ⊢
  by_cases h:(s[k]==63||s[k]==39)=wP
  ·rw[rv h];have:=fk be s (k+1);exact⟨this,dm _ _ _ (by omega)⟩
  ·rw[qv h]at a ⊢
   by_cases d:bN s[k]=wP
   ·rw[rv d];have:=fk bN s (k+1);rw[gG bN s k f d]at this;exact⟨this,dm _ _ _ (by omega)⟩
   ·rw[qv d]at a ⊢
    cases e:eK.find? (fun g=>Lib.hasPrefix (s.data.toList.drop k) g.data.toList) with
    | none=>rw[e]at a;simp at a
    | some g =>
     have l:=Bc g (List.mem_of_find?_eq_some e);have i:=nU s k g (by omega) (List.find?_some e);exact⟨by show k<k+g.size;omega,i⟩
theorem zL(s:ByteArray):∀(n f g k:Nat),s.size-k<n→s.size-k<f→s.size-k<g→toks f s k=toks g s k:=by
 intro n
 induction n with
 | zero=>intro f g k h;omega
 | succ n c =>
  intro f g k i l m;obtain⟨f,rfl⟩:∃d,f=d+1:=⟨f-1,by omega⟩;obtain⟨g,rfl⟩:∃e,g=e+1:=⟨g-1,by omega⟩;unfold toks
  by_cases a:skip s k<s.size
  ·rw[dif_pos a,dif_pos a]
   by_cases b:(aj s (skip s k) s[skip s k]).2.2.1=0
   ·rw[rv b,rv b];have o:=fB s (skip s k) a b;have p:=kJ s _ k (EO _);rw[c f g _ (by omega) (by omega) (by omega)]
   ·rw[qv b,qv b]
  ·rw[dif_neg a,dif_neg a]
theorem pU(s:ByteArray):∀(f k:Nat),k≤s.size→(toks f s k).1.length+k≤s.size:=by
 intro f
 induction f with
 | zero=>intro k a;simpa [toks]using a
 | succ f c =>
  intro k a;unfold toks
  by_cases h:skip s k<s.size
  ·rw[dif_pos h]
   by_cases b:(aj s (skip s k) s[skip s k]).2.2.1=0
   ·rw[rv b];have d:=fB s (skip s k) h b;have e:=kJ s _ k (EO _);have g:=c _ d.2;simp only[Fv];omega
   ·rw[qv b];simpa using a
  ·rw[dif_neg h];simpa using a
def aJ(s:ByteArray) (k:Nat):List Tok×Option (Nat×Nat):=toks (s.size+1) s k
theorem dD(s:ByteArray)(k:Nat)(h:¬skip s k<s.size):aJ s k=([],U):=by unfold aJ toks;rw[dif_neg h]
theorem fy(s:ByteArray)(k:Nat)(h:skip s k<s.size)(a:(aj s (skip s k) s[skip s k]).2.2.1≠0):aJ s k=([],Y ((aj s (skip s k) s[skip s k]).2.2.1,skip s k)):=by unfold aJ toks;rw[dif_pos h,qv a]
theorem fj(s:ByteArray)(k:Nat)(h:skip s k<s.size)(a:(aj s (skip s k) s[skip s k]).2.2.1=0) :
  aJ s k=(((aj s (skip s k) s[skip s k]).1,(aj s (skip s k) s[skip s k]).2.1,skip s k)::(aJ s (aj s (skip s k) s[skip s k]).2.2.2).1,(aJ s (aj s (skip s k) s[skip s k]).2.2.2).2):=by
 have b:=fB s (skip s k) h a
 conv=>lhs;unfold aJ toks
 rw[dif_pos h,rv a];unfold aJ;rw[zL s (s.size+1) s.size (s.size+1) _ (by omega) (by omega) (by omega)]
theorem nj(s:ByteArray)(k:Nat):skip s (skip s k)=skip s k:=by
 by_cases h:skip s k<s.size
 ·obtain⟨a,b⟩:=Dz s _ k (EO _) h;exact jp s _ h a b
 ·exact eR s _ (by omega)
theorem i6(s:ByteArray)(k:Nat):aJ s (skip s k)=aJ s k:=by
 have e:=nj s k
 by_cases h:skip s k<s.size
 ·by_cases a:(aj s (skip s k) s[skip s k]).2.2.1=0
  ·rw[fj s k h a,fj s (skip s k) (by rw[e];exact h) (by simp only[e];exact a)];simp only[e]
  ·rw[fy s k h a,fy s (skip s k) (by rw[e];exact h) (by simp only[e];exact a)];simp only[e]
 ·rw[dD s k h,dD s (skip s k) (by rw[e];exact h)]
open Go.Shelf
attribute [local go_sem] Oper.semAt_some
def Ei(s:ByteArray) (a:List Tok→wD→Prop) (b:Nat→Nat→wD→Prop) (e:Ending) (W:wD):Prop:=
 (∃v,e=z8 v)∧(((aJ s 0).2=U∧a (aJ s 0).1 W)∨∃er pl,(aJ s 0).2=Y (er,pl)∧b er pl W)
def AQ(R Q:Nat) (s:ByteArray) (k:Nat) (t:Nat×ByteArray×Nat×Nat) (pre:List Tok) (a:List Tok→wD→Prop) (b:Nat→Nat→wD→Prop) (W:wD) (e:Ending) (W':wD):Prop:=
 (t.2.2.1=0∧e=z8 (AJ wP)∧a (pre++[(t.1,t.2.1,k)]) W'∧∀j,Rdr W R Q s j→Rdr W' R Q s j)∨(t.2.2.1≠0∧e=z8 (AJ xj)∧b t.2.2.1 k W')
theorem all1_in(n l Bx R Q:Nat)(s:ByteArray)(hs:s.size≤16384)(hQ:Q≠1)(q:List Tok→wD→Prop)(Jx:Nat→Nat→wD→Prop)
  (hJ:∀pre W W',q pre W→W.grownBy W' (Y Q)→q pre W')
  (D:∀pre W,q pre W→aR W∧W.cell? ⟨Bx,0,U⟩=Y (xV (Y ⟨R,0,U⟩)))
  (hY:∀pre k W,(hk:k<s.size)→pre.length≤s.size→q pre W→YieldAt Fence.wide (n-1) xD l #[xS #[I O (aj s k s[k]).1,J (aj s k s[k]).2.1,I Z k],I Z (aj s k s[k]).2.2.1] W (AQ R Q s k (aj s k s[k]) pre q Jx W))
  (W:wD) (hr:Rdr W R Q s 0) (h0:q [] W) :
  CallsIn Fence.wide n xD 155 #[Value.func (.yield l) #[] #[],xV (Y ⟨Bx,0,U⟩)] W (Ei s q Jx):=by
 obtain⟨HJ,c,HY⟩:=zz3 hJ D hY;clear hJ D hY;refine callsIn_of_wp Tryz.func155 V trivial ?_ V;simp only[Tryz.ntmps155,List.size_toArray,Fv,List.length_nil,Nat.reduceAdd,Nat.reduceSub,Array.replicate_succ,Array.replicate_zero,List.push_toArray,List.append_toArray,List.nil_append,List.cons_append];obtain⟨m,a⟩:=c.o _ _ h0
 gi_wp2_with fail
 refine⟨trivial,(fun h=>by cases h),callsIn_wide.2 ((rX R Q 0 s W hr (Fa _) hs).mono ?_)⟩;rintro e w1 ⟨rfl,E,F⟩;have G:=HJ.o _ _ _ h0 E;clear m a
 gi_wp2_with fail
 gi_loopw [5,20] (fun _ _ wr=>∃pre k,k≤s.size∧skip s k=k∧Rdr wr R Q s k∧q pre wr∧pre++(aJ s k).1=(aJ s 0).1∧(aJ s k).2=(aJ s 0).2) (fun _ _ wr=>s.size-qm wr Q)
 case atStart=>exact⟨[],skip s 0,xb _ _ _ (EO _) (Fa _),nj _ _,F,G,by rw[i6];rfl,by rw[i6]⟩
 case round =>
  obtain⟨pre,k,hk,H,u,K,L,M⟩:=hrel;obtain⟨d,v,x⟩:=zz3 H L M;clear H L M h0 hr F G E;obtain⟨m,a⟩:=c.o _ _ K;obtain⟨r0,r1,q0,q1,⟨p,q2⟩,f1,f2,ar,av⟩:=u.u
  gi_wp2_with fail
  refine⟨trivial,(fun h=>by cases h),callsIn_wide.2 ((tP Q k s wr q0 q1 hk hs).mono ?_)⟩;rintro e w2 ⟨rfl,nd,rfl⟩;have N:FK wr (wr.drewN nd):=below_drewN (EP _ _) nd;have a1:=u.C N;have y:=HJ.o _ _ _ K (aP N _);generalize wr.drewN nd=w2 at *;clear m a r0 r1 q0 q1 q2 f1 f2 ar av;obtain⟨m,a⟩:=c.o _ _ y
  by_cases f:k<s.size
  ·gi_wp2_with fail
   refine⟨trivial,(fun h=>by cases h),callsIn_wide.2 ((Ad R Q k s w2 a1 f hs m hQ).mono ?_)⟩;rintro e w3 ⟨rfl,a6,P⟩;have S:=HJ.o _ _ _ y a6;clear m a;obtain⟨m,a⟩:=c.o _ _ S;have T:pre.length≤s.size:=by
    have h1:=pU s (s.size+1) 0 (Fa _);have h2:=tF List.length v.o;simp only[Fc]at h2;have h3:(aJ s 0).1.length+0≤s.size:=h1;omega
   have hY:=HY.o pre k w3 f T S;clear T;generalize hT:aj s k s[k]=t at *;obtain⟨kd,tx,er,z⟩:=t;dsimp only at hY P ⊢;have HT:=Hd hT;clear hT;obtain⟨fn,tmps,assign,body,hy,hR⟩:=hY;have X:skip s k<s.size:=by rw[d.o];exact f
   have hE:aj s (skip s k) s[skip s k]=(kd,tx,er,z):=by simp only[d.o];exact HT.o
   have HE:=Hd hE;clear hE
   gi_wp2_with fail
   refine⟨(fun h=>by cases h),hR.mono ?_⟩;rintro e w4 (⟨b,rfl,ad,g⟩|⟨b,rfl,ba⟩)
   ·have bb:=g _ P;have B:=Hd b;clear b hy m a g;obtain⟨m,a⟩:=c.o _ _ ad;have af:=fB s k f (by rw[HT.o];exact B.o);rw[HT.o]at af;obtain⟨bk,ak⟩:k<z∧z≤s.size:=af
    gi_wp2_with fail
    refine⟨trivial,(fun h=>by cases h),callsIn_wide.2 ((rX R Q z s w4 bb ak hs).mono ?_)⟩;rintro e w5 ⟨rfl,bc,al⟩;have bd:=HJ.o _ _ _ ad bc;have hle:=xb s _ z (EO _) ak;have bl:=kJ s _ z (EO _);clear m a;have C:=fj s k X (by rw[HE.o];exact B.o);rw[HE.o]at C;have aq:=Hd C;clear C
    gi_wp2_with fail
    refine⟨⟨pre++[(kd,tx,k)],skip s z,hle,nj _ _,al,bd,?_,?_⟩,?_⟩
    ·rw[i6,←v.o,aq.o];simp[d.o]
    ·rw[i6,←x.o,aq.o]
    ·rw[al.pos,u.pos];omega
   ·have i:=fy s k X (by rw[HE.o];exact b);rw[HE.o]at i;obtain⟨HB,B⟩:=zz2 i b;clear i b hy
    gi_wp2_with fail
    refine bodyPost_ret (results_none V _ _ _) V ?_;refine⟨⟨_,V⟩,Or.inr ⟨er,k,?_,ba⟩⟩;rw[←x.o,HB.o];simp only[d.o]
  ·have hend:=dD s k (by rw[d.o];exact f);have r:=Hd hend;clear hend
   gi_wp2_with fail
   go_end0
   refine⟨⟨_,V⟩,Or.inl ⟨?_,?_⟩⟩
   ·rw[←x.o,r.o]
   ·rw[←v.o,r.o]
    simpa using y
