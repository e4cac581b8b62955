/- Parts of one proof, joined; conditions stand in each theorem. -/
import Derived.Test.YtkhfjgjjhlnnnaaGreatDoorMA
import Derived.Deep.RegionHeld3
import Derived.Deep.RegionWith
import Derived.Handy
import Derived.RangeFuncNested
import Derived.RangeFuncBound
import Derived.RangeFuncCalls
import Derived.RangeFuncLeaves
import Derived.Shelf.Abstract
import Derived.Shelf.RegionOpen
import Derived.OwnWalkIn
import Derived.TacticsInMore
import Derived.LoopNIn
import Derived.LoopIn
open Go renaming World→vk,Value→vn,undef→xD,Calls→wB
open Go.Ending renaming returned→xv
open Go.Value renaming tuple→AJ,agg→wD,int→I,string→J,pointer→wF,bool→xS
open Go.IntKind renaming u8→O,i64→Z
open Option renaming some→Y,none→U
open Go.Obj renaming cells→ur
open Go.Proofs.Tryz renaming prog→wq
open Bool renaming true→wg,false→wj
namespace Go.Proofs.YtkhfjgjjhlnnnaaGreatDoor
set_option maxHeartbeats 1000000
open Go.RowKit
theorem jT:(fun c=>[dl].any (hasB · c))=isLow:=by
 funext c
 show (hasB dl c||false)=_
 rw[lG,Bool.or_false]
theorem mi:(fun c=>[jJ].any (hasB · c))=bQ:=by
 funext c
 show (hasB jJ c||false)=_
 rw[yx,Bool.or_false]
theorem lW:(fun c=>[fV].any (hasB · c))=bf:=by
 funext c
 show (hasB fV c||false)=_
 rw[ux,Bool.or_false]
theorem mf(c:UInt8):[(⟨#[63,39]⟩:ByteArray)].any (hasB · c)=(c==63||c==39):=by
 show ((([63,39]:List UInt8).contains c)||false)=_
 simp only[List.contains_cons,List.contains_nil,Bool.or_false]
theorem rY(c:UInt8):[(⟨#[39]⟩:ByteArray)].any (hasB · c)=(c==39):=by
 show ((([39]:List UInt8).contains c)||false)=_
 simp only[List.contains_cons,List.contains_nil,Bool.or_false]
def an(s:ByteArray) (k:Nat) (c:UInt8):Nat×ByteArray×Nat×Nat:=
 if isLow c then (if di (s.extract k (aA bf s k)).data.toList then 1 else 2,s.extract k (aA bf s k),if aA bf s k-k≤24 then 0 else 201,aA bf s k)
 else if c==63||c==39 then (if c==39 then 5 else 3,s.extract (k+1) (aA bf s (k+1)),if eZ (s.extract (k+1) (aA bf s (k+1))).data.toList then 0 else 201,aA bf s (k+1))
 else if bQ c then (4,s.extract k (aA bQ s k),if (number (s.extract k (aA bQ s k)).data.toList).isSome&&!((s.data.toList.drop (aA bQ s k)).head?.any bf) then 0 else 201,aA bQ s k)
 else match eL.find? (fun g=>Lib.hasPrefix (s.data.toList.drop k) g.data.toList) with
  | some g=>(6,g,0,k+g.size)
  | none=>(0,⟨#[]⟩,200,k)
def iE(w:vk) (R Q:Nat) (s:ByteArray) (k:Nat) (c:UInt8) (e:Ending) (w':vk):Prop:=
 e=xv (AJ #[wD #[I O (an s k c).1,J (an s k c).2.1,I Z k],I Z (an s k c).2.2.1])∧w.grownBy w' (Y Q)∧Rdr w' R Q s (an s k c).2.2.2
theorem xM{w:vk}{R Q:Nat}{s:ByteArray}{k:Nat}{c:UInt8}{w':vk}(kd:Nat)(tx:ByteArray)(er a:Nat)(h:an s k c=(kd,tx,er,a))(b:w.grownBy w' (Y Q))(d:Rdr w' R Q s a) :
  iE w R Q s k c (xv (AJ #[wD #[I O kd,J tx,I Z k],I Z er])) w':=by
 unfold iE;rw[h];exact⟨V,b,d⟩
theorem j8(w e:vk)(R Q:Nat)(s:ByteArray)(k:Nat)(c:UInt8)(T kd er h:Nat)(f g:Int)(tx:ByteArray)(a0 u l:vn)(x:e.heap[T]?=Y (ur #[a0,u,l] 122 (0,0)))(a:w.heap.size≤T)(b:T≠R)(d:T≠Q)
  (y:w.grownBy e (Y Q)) (z:Rdr e R Q s h) (hF:an s k c=(kd,tx,er,h)) (m:f=kd) (n:g=er) (tmps:Array vn) (B:tmps.getD 2 xD=wF (Y ⟨T,0,U⟩)) (C:tmps.getD 3 xD=I Z g) :
  bodyPost wq Tryz.f158 (iE w R Q s k c) .ret ⟨tmps,[]⟩ (((e.setCell ⟨T,0,U⟩ (I O f)).setCell ⟨T,1,U⟩ (J tx)).setCell ⟨T,2,U⟩ (I Z k)):=by
 subst m n;have o:(((e.setCell ⟨T,0,U⟩ (I O kd)).setCell ⟨T,1,U⟩ (J tx)).setCell ⟨T,2,U⟩ (I Z k)).heap[T]?=Y (ur #[I O kd,J tx,I Z k] 122 (0,0)):=
  heap_set (heap_set (heap_set x 0 _) 1 _) 2 _
 have p:=dK (dK (dK y a 0 (I O kd)) a 1 (J tx)) a 2 (I Z k);have q:=((z.b (i:=0) (I O kd) b d).b (i:=1) (J tx) b d).b (i:=2) (I Z k) b d;generalize ((e.setCell ⟨T,0,U⟩ (I O kd)).setCell ⟨T,1,U⟩ (J tx)).setCell ⟨T,2,U⟩ (I Z k)=w9 at *;obtain⟨l,D,c2,_⟩:=cells3 o;refine bodyPost_ret (v:=AJ #[wD #[I O kd,J tx,I Z k],I Z er]) ?_ V (xM kd tx er h hF p q);have r:tmps[2]?.getD xD=wF (Y ⟨T,0,U⟩):=by simpa using B
 have t:tmps[3]?.getD xD=I Z er:=by simpa using C
 simp[results,Tryz.results158,go_sem,r,t,l,D,c2]
theorem ext_list(s:ByteArray)(a b:Nat)(h:a<b)(c:b≤s.size):(s.extract a b).data.toList=(s[a]'(by omega))::(s.extract (a+1) b).data.toList:=by
 have e:∀x y,(s.extract x y).data.toList=(s.data.toList.drop x).take (y-x):=by intro x y;rw[ByteArray.data_extract,Array.toList_extract]
 rw[e,e,drop_cons s a (by omega),show b-a=(b-(a+1))+1 from by omega,Fy]
theorem ext_size(s:ByteArray)(a b:Nat)(c:b≤s.size):(s.extract a b).size=b-a:=by rw[ByteArray.size_extract];omega
theorem xK(s:ByteArray)(a b:Nat)(h:a<b)(c:b≤s.size)(e:isLow s[a]=wg):eZ (s.extract a b).data.toList=decide (b-a≤24):=by
 have d:(s.extract a b).data.toList.length=b-a:=by rw[FQ];exact ext_size s a b c
 rw[ext_list s a b h c]at d ⊢;simp only[eZ,e,Bool.and_true,d]
theorem yX(R Q k:Nat)(s:ByteArray)(w:vk)(h:Rdr w R Q s k)(hk:k<s.size)(hs:s.size≤16384)(ht:aS w)(hQ:Q≠1)
  (hc:isLow s[k]=wg) :
  wB wq 158 #[wF (Y ⟨R,0,U⟩)] w (iE w R Q s k s[k]):=by
 have af:∀(W:vk) (T:Nat) (cs:Array vn),W.heap[T]?=Y (ur cs 122 (0,0))→Rdr W R Q s k→Y T≠Y Q:=fun W T cs hT hr e=>by
  obtain⟨p,hq⟩:=hr.q;injection e with e
  exact ku hT hq (by decide) e
 have ak:=Hd af;clear af;have HC:=Hd hc
 go_enter Tryz.func158,Tryz.ntmps158
 go_wp2_with fail
 have r:Gc w (w.alloc (ur #[I O 0,J ⟨#[]⟩,I Z 0] 122)):=(Fl _ w).alloc (Fj _) _;have T2:=qv w (ur #[I O 0,J ⟨#[]⟩,I Z 0] 122);refine (tJ R Q k s _ (h.z r) (by omega) hs).mono ?_;rintro e w1 ⟨rfl,G⟩;have a:Gc w w1:=r.trans (G.mono r.size);have H:=Hd (aa G T2 (by simp));have K:=h.z a;clear T2 G r;have t:Gc w1 (w1.alloc (ur #[I O 0,J ⟨#[]⟩,I Z k] 122)):=(Fl _ w1).alloc (Fj _) _;have T4:=Hd (qv w1 (ur #[I O 0,J ⟨#[]⟩,I Z k] 122));go_wp2_with fail
 refine (gQ R Q k s _ (K.z t) hk hs [dl] wg (by rw[←HC.o];exact congrFun jT s[k]) _ V 1 1 V (by omega) _ (by simp)).mono ?_;rintro e w3 ⟨rfl,L⟩;have f:Gc w1 w3:=t.trans (L.mono t.size);have B:Gc w w3:=a.trans (f.mono a.size);have M:=K.z f;obtain⟨N,m⟩:=zz2 (aa L T4.o (by simp)) (aa f H.o (Fi.1 H.o).1);clear t L f T4;go_wp2_with fail
 refine (take_at R Q k s _ M (by omega) hs [fV] bf lW _ V 1 1 V (by omega) _ V).mono ?_;rintro e w4 ⟨rfl,u,bk⟩;have C:w.grownBy w4 (Y Q):=ss (aQ B _) u;obtain⟨n,al⟩:=zz2 (aW u N.o (ak.o _ _ _ N.o M)) (aW u m.o (ak.o _ _ _ m.o M));have bl:=ext_size s k (aA bf s k) (dq bf s k (by omega));have D:bf s[k]=true:=by unfold bf;rw[HC.o];rfl
 have aq:k<aA bf s k:=by rw[←gC bf s k hk D];exact fh _ _ _
 have ar:=dq bf s k (by omega);have av:=xK s k (aA bf s k) aq ar HC.o;generalize hE:aA bf s k=d at *;generalize hX:s.extract k d=tx at *;obtain⟨HE,HX⟩:=zz2 hE hX;have bB:tx.size≤16384:=by omega
 have bn:=Hd av;clear bl D av;clear hE hX u B N m;have g:Hid (w1.heap.size≠R∧w1.heap.size≠Q):=by
  obtain⟨_,_,_,_,_,_,_,bR,b0⟩:=K.y
  show w1.heap.size≠R∧w1.heap.size≠Q
  omega
 obtain⟨c0,c1,c2,f0,f1,f2⟩:=cells3 n.o;have HG:Hid (w.grownBy ((w4.setCell ⟨w1.heap.size,0,U⟩ (I O 2)).setCell ⟨w1.heap.size,1,U⟩ (J tx)) (Y Q)):=dK (dK C a.size _ _) a.size _ _;have P:=Hd (heap_set (heap_set n.o 0 (I O 2)) 1 (J tx));have S:w1.heap.size≠w.heap.size:=by have:=(Fi.1 H.o).1;omega
 obtain⟨bq,E⟩:=zz2 ((bk.b (T:=w1.heap.size) (i:=0) (I O 2) g.o.1 g.o.2).b (i:=1) (J tx) g.o.1 g.o.2) (aJ (aJ al.o S 0 (I O 2)) S 1 (J tx));go_wp2_with fail
 generalize (w4.setCell ⟨w1.heap.size,0,U⟩ (I O 2)).setCell ⟨w1.heap.size,1,U⟩ (J tx)=F at *;have br:Rdr F R Q s d:=bq.o;have a1:aS F:=ht.h HG.o hQ;clear n c0 c1 c2 f0 f1 f2 C;obtain⟨c0,c1,c2,f0,f1,f2⟩:=cells3 P.o;have a6:=(Fi.1 P.o).1
 go_region_held3 (fun w'=>w'.cell? ⟨w1.heap.size,1,U⟩=Y (J tx))
  (first
   | assumption
   | (exact (World.cell?_alloc_lt F _ ⟨w1.heap.size,1,U⟩ a6).trans c1))
  (first
   | (go_at_call 214;refine (sW _ (a1.u (Fl _ _).drew)).mono ?_;rintro e w6 ⟨rfl,rfl⟩)
   | (go_at_call 213;refine (lO _ _ tx _ (by exact qv F _)).mono ?_;rintro e w6 ⟨rfl,rfl⟩))
 have v:Gc F (F.alloc (ur (fa.map J).toArray 9)).drew:=((Fl _ F).alloc (Fj _) _).drew;generalize (F.alloc (ur (fa.map J).toArray 9)).drew=w6 at *;obtain⟨bt,y,X⟩:=zz3 (aa v P.o a6) (aa v E.o (Fi.1 E.o).1) (grown_below HG.o v);clear c0 c1 c2 f0 f1 f2 a1 HG;obtain⟨c0,c1,c2,f0,f1,f2⟩:=cells3 bt.o;obtain⟨d0,d1,d2,e0,e1,e2⟩:=cells3 y.o;have z:=Hd (fun W (x:Bool) (hx:decide (d-k≤24)=x)=>(j7 tx W (by omega)).mono (R':=fun e w'=>e=xv (xS x)∧W=w') (fun e w' hh=>⟨by rw[hh.1,bn.o,hx],hh.2⟩));have b:Hid (an s k s[k]=(if di tx.data.toList then 1 else 2,tx,if d-k≤24 then 0 else 201,d)):=by
  show an s k s[k]=_
  unfold an;rw[r6 HC.o,HE.o,HX.o]
 have ad:=br.z v;have ba:w.heap.size≠R∧w.heap.size≠Q:=by
  obtain⟨_,_,_,_,_,_,_,b1,b2⟩:=h.y;omega
 have c:=Hd ba;clear ba
 cases hw:di tx.data.toList
 ·cases l:decide (d-k≤24)
  ·have HN:=Hd l;have HF:Hid (an s k s[k]=(2,tx,201,d)):=by
    show an s k s[k]=_
    rw[b.o,hw,r5 (by simp),r5 (by simpa using l)]
   clear l hw b
   go_wp2_with (first
    | (go_at_call 230;refine (z.o _ _ HN.o).mono ?_;rintro e w7 ⟨rfl,rfl⟩))
   exact j8 w _ R Q s k _ _ 2 201 d 2 201 tx _ _ _ y.o (Fj _) c.o.1 c.o.2 X.o ad HF.o V V _ V V
  ·have HN:=Hd l;have HF:Hid (an s k s[k]=(2,tx,0,d)):=by
    show an s k s[k]=_
    rw[b.o,hw,r5 (by simp),r6 (by simpa using l)]
   clear l hw b
   go_wp2_with (first
    | (go_at_call 230;refine (z.o _ _ HN.o).mono ?_;rintro e w7 ⟨rfl,rfl⟩))
   exact j8 w _ R Q s k _ _ 2 0 d 2 0 tx _ _ _ y.o (Fj _) c.o.1 c.o.2 X.o ad HF.o V V _ V V
 ·obtain⟨bb,bc,bd⟩:=zz3 (aJ y.o S 0 (I O 1)) (dK X.o a.size 0 (I O 1)) (ad.b (T:=w1.heap.size) (i:=0) (I O 1) g.o.1 g.o.2)
  cases l:decide (d-k≤24)
  ·have HN:=Hd l;have HF:Hid (an s k s[k]=(1,tx,201,d)):=by
    show an s k s[k]=_
    rw[b.o,hw,r6 V,r5 (by simpa using l)]
   clear l hw b
   go_wp2_with (first
    | (go_at_call 230;refine (z.o _ _ HN.o).mono ?_;rintro e w7 ⟨rfl,rfl⟩))
   exact j8 w _ R Q s k _ _ 1 201 d 1 201 tx _ _ _ bb.o (Fj _) c.o.1 c.o.2 bc.o bd.o HF.o V V _ V V
  ·have HN:=Hd l;have HF:Hid (an s k s[k]=(1,tx,0,d)):=by
    show an s k s[k]=_
    rw[b.o,hw,r6 V,r6 (by simpa using l)]
   clear l hw b
   go_wp2_with (first
    | (go_at_call 230;refine (z.o _ _ HN.o).mono ?_;rintro e w7 ⟨rfl,rfl⟩))
   exact j8 w _ R Q s k _ _ 1 0 d 1 0 tx _ _ _ bb.o (Fj _) c.o.1 c.o.2 bc.o bd.o HF.o V V _ V V
structure TS (w:vk) (R Q:Nat) (s:ByteArray) (k T2 T4 j:Nat) (kd:Int) (tx:ByteArray) (W:vk):Prop where
 t2:W.heap[T2]?=Y (ur #[I O 0,J ⟨#[]⟩,I Z 0] 122 (0,0))
 t4:W.heap[T4]?=Y (ur #[I O kd,J tx,I Z k] 122 (0,0))
 g:w.grownBy W (Y Q)
 r:Rdr W R Q s j
 n2:w.heap.size≤T2
 n4:w.heap.size≤T4
 ne:T4≠T2
 r2:T2≠R∧T2≠Q
 r4:T4≠R∧T4≠Q
section
variable {w W W':vk} {R Q k T2 T4 j:Nat} {s:ByteArray} {kd:Int} {tx:ByteArray}
theorem TS.u(h:TS w R Q s k T2 T4 j kd tx W)(a:Gc W W'):TS w R Q s k T2 T4 j kd tx W':=
 { h with t2:=aa a h.t2 (Fi.1 h.t2).1,t4:=aa a h.t4 (Fi.1 h.t4).1,g:=grown_below h.g a,r:=h.r.z a }
theorem TS.h{b:Nat}(h:TS w R Q s k T2 T4 j kd tx W)(a:W.grownBy W' (Y Q))(c:Rdr W' R Q s b):TS w R Q s k T2 T4 b kd tx W':=
 { h with t2:=aW a h.t2 (by intro e;injection e with e;exact h.r2.2 e),t4:=aW a h.t4 (by intro e;injection e with e;exact h.r4.2 e),g:=ss h.g a,r:=c }
theorem TS.b(h:TS w R Q s k T2 T4 j kd tx W)(a:Int):TS w R Q s k T2 T4 j a tx (W.setCell ⟨T4,0,U⟩ (I O a)):=
 { h with t2:=aJ h.t2 h.ne _ _,t4:=heap_set h.t4 0 _,g:=dK h.g h.n4 _ _,r:=h.r.b _ h.r4.1 h.r4.2 }
theorem TS.f(h:TS w R Q s k T2 T4 j kd tx W)(a:ByteArray):TS w R Q s k T2 T4 j kd a (W.setCell ⟨T4,1,U⟩ (J a)):=
 { h with t2:=aJ h.t2 h.ne _ _,t4:=heap_set h.t4 1 _,g:=dK h.g h.n4 _ _,r:=h.r.b _ h.r4.1 h.r4.2 }
theorem TS.tab(h:TS w R Q s k T2 T4 j kd tx W)(a:aS w)(b:Q≠1):aS W:=a.h h.g b
theorem TS.c4(h:TS w R Q s k T2 T4 j kd tx W):W.cell? ⟨T4,0,U⟩=Y (I O kd)∧W.cell? ⟨T4,1,U⟩=Y (J tx)∧W.cell? ⟨T4,2,U⟩=Y (I Z k)∧W.frozen? ⟨T4,0,U⟩=wj∧W.frozen? ⟨T4,1,U⟩=wj∧W.frozen? ⟨T4,2,U⟩=false:=cells3 h.t4
theorem TS.c2(h:TS w R Q s k T2 T4 j kd tx W):W.cell? ⟨T2,0,U⟩=Y (I O 0)∧W.cell? ⟨T2,1,U⟩=Y (J ⟨#[]⟩)∧W.cell? ⟨T2,2,U⟩=Y (I Z 0)∧W.frozen? ⟨T2,0,U⟩=wj∧W.frozen? ⟨T2,1,U⟩=wj∧W.frozen? ⟨T2,2,U⟩=false:=cells3 h.t2
end
theorem TS.start{w w1:vk}{R Q k:Nat}{s:ByteArray}(h:Rdr w R Q s k)(c:Below (w.alloc (ur #[I O 0,J ⟨#[]⟩,I Z 0] 122)).heap.size (w.alloc (ur #[I O 0,J ⟨#[]⟩,I Z 0] 122)) w1) :
  TS w R Q s k w.heap.size w1.heap.size k 0 ⟨#[]⟩ (w1.alloc (ur #[I O 0,J ⟨#[]⟩,I Z k] 122)):=by
 have d:Gc w (w.alloc (ur #[I O 0,J ⟨#[]⟩,I Z 0] 122)):=(Fl _ w).alloc (Fj _) _;have T2:=qv w (ur #[I O 0,J ⟨#[]⟩,I Z 0] 122);have a:Gc w w1:=d.trans (c.mono d.size);have e:=aa c T2 (by simp);have f:=h.z a;have b:Gc w1 (w1.alloc (ur #[I O 0,J ⟨#[]⟩,I Z k] 122)):=(Fl _ w1).alloc (Fj _) _;have i:=(Fi.1 e).1;obtain⟨_,_,_,_,_,_,_,l,m⟩:=h.y;exact { t2:=aa b e i,t4:=qv w1 _,g:=aQ (a.trans (b.mono a.size)) _,r:=f.z b,n2:=Fj _,n4:=a.size,ne:=by omega,r2:=by omega,r4:=by omega }
theorem TS.fin{w W:vk}{R Q k T2 T4:Nat}{s:ByteArray}{c:UInt8}{kd er d:Nat}{a b:Int}{tx:ByteArray}(h:TS w R Q s k T2 T4 d a tx W)(hF:an s k c=(kd,tx,er,d))(e:a=kd)(f:b=er)(tmps:Array vn)(i:tmps.getD 2 xD=wF (Y ⟨T2,0,U⟩))(l:tmps.getD 3 xD=I Z b) :
  bodyPost wq Tryz.f158 (iE w R Q s k c) .ret ⟨tmps,[]⟩ (((W.setCell ⟨T2,0,U⟩ (I O a)).setCell ⟨T2,1,U⟩ (J tx)).setCell ⟨T2,2,U⟩ (I Z k)):=
 j8 w W R Q s k c T2 kd er d a b tx _ _ _ h.t2 h.n2 h.r2.1 h.r2.2 h.g h.r hF e f tmps i l
theorem yW(R Q k:Nat)(s:ByteArray)(w:vk)(h:Rdr w R Q s k)(L:k<s.size)(x:s.size≤16384)
  (hc:isLow s[k]=wj) (hq:(s[k]==63||s[k]==39)=wg) :
  wB wq 158 #[wF (Y ⟨R,0,U⟩)] w (iE w R Q s k s[k]):=by
 obtain⟨T,X⟩:=zz2 hc hq;clear hc hq
 go_enter Tryz.func158,Tryz.ntmps158
 go_wp2_with fail
 refine (tJ R Q k s _ (h.z ((Fl _ w).alloc (Fj _) _)) (by omega) x).mono ?_;rintro e w1 ⟨rfl,ad⟩;have S1:=TS.start h ad;go_wp2_with fail
 refine (gQ R Q k s _ S1.r L x [dl] wj (by rw[←T.o];exact congrFun jT s[k]) _ V 1 1 V (by omega) _ (by simp)).mono ?_;rintro e w3 ⟨rfl,M⟩;have S:=S1.u M;clear S1 M;generalize w1.heap.size=T4 at *;generalize w.heap.size=T2 at S ⊢;go_wp2_with fail
 refine (gQ R Q k s _ S.r L x [⟨#[63,39]⟩] wg (by rw[mf];exact X.o) _ V 1 1 V (by omega) _ V).mono ?_;rintro e w4 ⟨rfl,N⟩;have S4:=S.u N;clear S N;obtain⟨z,B,c2,f0,f1,f2⟩:=S4.c4;have c:=S4.b 3;go_wp2_with fail
 have hz:=Hd (show (w4.setCell ⟨T4,0,U⟩ (I O 3)).heap.size=w4.heap.size by simp);generalize w4.setCell ⟨T4,0,U⟩ (I O 3)=w5 at *;clear z B c2 f0 f1 f2 S4
 cases d:s[k]==39
 ·refine (gQ R Q k s _ c.r L x [⟨#[39]⟩] wj (by rw[rY];exact d) _ V 1 1 V (by omega) _ hz.o).mono ?_;rintro e w6 ⟨rfl,i⟩;have g:=c.u i;have C:=Hd d;clear c i d;obtain⟨z,B,c2,f0,f1,f2⟩:=g.c4;obtain⟨r0,r1,q0,q1,⟨p,q2⟩,_⟩:=g.r.y;obtain⟨p',l⟩:=g.r.q;have D:=Hd l;clear l;go_wp2_with fail
  refine (j0 Q k _ s _ D.o L x).mono ?_;rintro e w7 ⟨rfl,b,m⟩;have E:=g.h b (g.r.h b m);clear g b m z B c2 f0 f1 f2 r0 r1 q0 q1 q2;go_wp2_with fail
  refine (take_at R Q (k+1) s _ E.r (by omega) x [fV] bf lW _ V 1 1 V (by omega) _ V).mono ?_;rintro e w8 ⟨rfl,n,t⟩;have P:=E.h n t;clear E n t;have u:=dq bf s (k+1) (by omega);have v:(s.extract (k+1) (aA bf s (k+1))).size≤16384:=by rw[ext_size s _ _ u];omega
  have a:Hid (an s k s[k]=(3,s.extract (k+1) (aA bf s (k+1)),if eZ (s.extract (k+1) (aA bf s (k+1))).data.toList then 0 else 201,aA bf s (k+1))):=by
   show an s k s[k]=_
   unfold an;rw[r5 (by rw[T.o];simp),r6 X.o,r5 (by rw[C.o];simp)]
  generalize aA bf s (k+1)=F at *;generalize s.extract (k+1) F=tx at *;obtain⟨z,B,c2,f0,f1,f2⟩:=P.c4;have y:=P.f tx;obtain⟨d0,d1,d2,e0,e1,e2⟩:=y.c4;obtain⟨af,ak,al,aq,ar,av⟩:=y.c2
  cases f:eZ tx.data.toList
  ·have G:Hid (an s k s[k]=(3,tx,201,F)):=by
    show an s k s[k]=_
    rw[a.o,f];rfl
   have H:=Hd f;clear a f
   go_wp2_with (first
    | (go_at_call 230;refine (j7 tx _ v).mono ?_;rintro e w9 ⟨rfl,rfl⟩;rw[H.o]))
   exact y.fin G.o V V _ V V
  ·have G:Hid (an s k s[k]=(3,tx,0,F)):=by
    show an s k s[k]=_
    rw[a.o,f];rfl
   have H:=Hd f;clear a f
   go_wp2_with (first
    | (go_at_call 230;refine (j7 tx _ v).mono ?_;rintro e w9 ⟨rfl,rfl⟩;rw[H.o]))
   exact y.fin G.o V V _ V V
 ·refine (gQ R Q k s _ c.r L x [⟨#[39]⟩] wg (by rw[rY];exact d) _ V 1 1 V (by omega) _ hz.o).mono ?_;rintro e w6 ⟨rfl,i⟩;have K:=c.u i;have C:=Hd d;clear c i d;obtain⟨z,B,c2,f0,f1,f2⟩:=K.c4;have g:=K.b 5;obtain⟨r0,r1,q0,q1,⟨p,q2⟩,_⟩:=g.r.y;obtain⟨p',l⟩:=g.r.q;have D:=Hd l;clear l;go_wp2_with fail
  generalize w6.setCell ⟨T4,0,U⟩ (I O 5)=a1 at *;refine (j0 Q k _ s _ D.o L x).mono ?_;rintro e w7 ⟨rfl,b,m⟩;have E:=g.h b (g.r.h b m);clear g K b m z B c2 f0 f1 f2 r0 r1 q0 q1 q2;go_wp2_with fail
  refine (take_at R Q (k+1) s _ E.r (by omega) x [fV] bf lW _ V 1 1 V (by omega) _ V).mono ?_;rintro e w8 ⟨rfl,n,t⟩;have P:=E.h n t;clear E n t;have u:=dq bf s (k+1) (by omega);have v:(s.extract (k+1) (aA bf s (k+1))).size≤16384:=by rw[ext_size s _ _ u];omega
  have a:Hid (an s k s[k]=(5,s.extract (k+1) (aA bf s (k+1)),if eZ (s.extract (k+1) (aA bf s (k+1))).data.toList then 0 else 201,aA bf s (k+1))):=by
   show an s k s[k]=_
   unfold an;rw[r5 (by rw[T.o];simp),r6 X.o,r6 C.o]
  generalize aA bf s (k+1)=F at *;generalize s.extract (k+1) F=tx at *;obtain⟨z,B,c2,f0,f1,f2⟩:=P.c4;have y:=P.f tx;obtain⟨d0,d1,d2,e0,e1,e2⟩:=y.c4;obtain⟨af,ak,al,aq,ar,av⟩:=y.c2
  cases f:eZ tx.data.toList
  ·have G:Hid (an s k s[k]=(5,tx,201,F)):=by
    show an s k s[k]=_
    rw[a.o,f];rfl
   have H:=Hd f;clear a f
   go_wp2_with (first
    | (go_at_call 230;refine (j7 tx _ v).mono ?_;rintro e w9 ⟨rfl,rfl⟩;rw[H.o]))
   exact y.fin G.o V V _ V V
  ·have G:Hid (an s k s[k]=(5,tx,0,F)):=by
    show an s k s[k]=_
    rw[a.o,f];rfl
   have H:=Hd f;clear a f
   go_wp2_with (first
    | (go_at_call 230;refine (j7 tx _ v).mono ?_;rintro e w9 ⟨rfl,rfl⟩;rw[H.o]))
   exact y.fin G.o V V _ V V
theorem Ev(R Q k:Nat)(s:ByteArray)(w:vk)(h:Rdr w R Q s k)(o:k≤s.size)(i:s.size≤16384)(a:List ByteArray)(p:UInt8→Bool)(l:(fun c=>a.any (hasB · c))=p)(x:Bool)(f:(s.data.toList.drop k).head?.any p=x)(arr:Array vn)(b:arr=(a.map J).toArray)(n cap:Nat)(m:a.length=n)(g:n≤100)
  (B:Nat) (hB:w.heap.size=B) :
  wB wq 224 #[wF (Y ⟨R,0,U⟩),Value.slice (Y ⟨B,0,U⟩) n cap] (w.alloc (ur arr 9)) fun e w'=>e=xv (xS x)∧Gc w w':=by
 subst hB
 by_cases d:k<s.size
 ·refine gQ R Q k s w h d i a x ?_ arr b n cap m g _ V;rw[←f,drop_cons s k d,List.head?_cons,Option.any_some,←l]
 ·rw[drop_end s k (by omega)]at f;have:x=false:=by rw[←f];rfl
  subst this;exact qu R Q k s w h (by omega) i arr _
theorem AG(R Q k:Nat)(s:ByteArray)(w:vk)(h:Rdr w R Q s k)(M:k<s.size)(d:s.size≤16384)
  (hc:isLow s[k]=wj) (hq:(s[k]==63||s[k]==39)=wj) (hd:bQ s[k]=wg) :
  wB wq 158 #[wF (Y ⟨R,0,U⟩)] w (iE w R Q s k s[k]):=by
 obtain⟨HC,HQ,HD⟩:=zz3 hc hq hd;clear hc hq hd
 go_enter Tryz.func158,Tryz.ntmps158
 go_wp2_with fail
 refine (tJ R Q k s _ (h.z ((Fl _ w).alloc (Fj _) _)) (by omega) d).mono ?_;rintro e w1 ⟨rfl,N⟩;have P:=TS.start h N;go_wp2_with fail
 refine (gQ R Q k s _ P.r M d [dl] wj (by rw[←HC.o];exact congrFun jT s[k]) _ V 1 1 V (by omega) _ (by simp)).mono ?_;rintro e w3 ⟨rfl,i⟩;have F:=P.u i;clear P i;generalize w1.heap.size=T4 at *;generalize w.heap.size=T2 at F ⊢;go_wp2_with fail
 refine (gQ R Q k s _ F.r M d [⟨#[63,39]⟩] wj (by rw[mf];exact HQ.o) _ V 1 1 V (by omega) _ V).mono ?_;rintro e w4 ⟨rfl,l⟩;have S:=F.u l;clear F l;go_wp2_with fail
 refine (gQ R Q k s _ S.r M d [jJ] wg (by rw[←HD.o];exact congrFun mi s[k]) _ V 1 1 V (by omega) _ V).mono ?_;rintro e w5 ⟨rfl,m⟩;have T:=S.u m;clear S m;go_wp2_with fail
 refine (take_at R Q k s _ T.r (by omega) d [jJ] bQ mi _ V 1 1 V (by omega) _ V).mono ?_;rintro e X ⟨rfl,n,p⟩;have S8:=T.h n p;clear T n p;have b:=dq bQ s k (by omega);have ad:(s.extract k (aA bQ s k)).size≤16384:=by rw[ext_size s _ _ b];omega
 have a:Hid (an s k s[k]=(4,s.extract k (aA bQ s k),if (number (s.extract k (aA bQ s k)).data.toList).isSome&&!((s.data.toList.drop (aA bQ s k)).head?.any bf) then 0 else 201,aA bQ s k)):=by
  show an s k s[k]=_
  unfold an;rw[r5 (by rw[HC.o];simp),r5 (by rw[HQ.o];simp),r6 HD.o]
 generalize aA bQ s k=f at *;generalize s.extract k f=tx at *;obtain⟨c0,c1,c2,f0,f1,f2⟩:=S8.c4;have c:=S8.b 4;have S9:=c.f tx;obtain⟨af,ak,al,aq,ar,av⟩:=c.c4;obtain⟨d0,d1,d2,G,H,K⟩:=S9.c4;have hz:=Hd (show ((X.setCell ⟨T4,0,U⟩ (I O 4)).setCell ⟨T4,1,U⟩ (J tx)).heap.size=X.heap.size by simp);go_wp2_with fail
 generalize (X.setCell ⟨T4,0,U⟩ (I O 4)).setCell ⟨T4,1,U⟩ (J tx)=w9 at *;clear c0 c1 c2 f0 f1 f2 af ak al aq ar av S8 c;refine (qG tx _ ad).mono ?_;rintro e wa ⟨rfl,q⟩;have g:=S9.u q;clear S9 q d0 d1 d2 G H K;obtain⟨d0,d1,d2,G,H,K⟩:=g.c4;obtain⟨t,u,x,y,z,B⟩:=g.c2;generalize a6:number tx.data.toList=nu at *
 cases nu with
 | none =>
  have C:Hid (an s k s[k]=(4,tx,201,f)):=by
   show an s k s[k]=_
   rw[a.o];rfl
  clear a;go_wp2_with fail
  exact g.fin C.o V V _ V V
 | some v =>
  generalize D:(s.data.toList.drop f).head?.any bf=on at *;have a1:=Hd D;have hv:(Option.getD (Y v) 0)=v:=rfl;clear D;go_wp2_with fail
  refine (Ev R Q f s _ g.r b d [fV] bf lW on a1.o _ V 1 1 V (by omega) _ V).mono ?_;rintro e wb ⟨rfl,E⟩;have L:=g.u E;clear g E d0 d1 d2 G H K t u x y z B;obtain⟨d0,d1,d2,G,H,K⟩:=L.c4;obtain⟨t,u,x,y,z,B⟩:=L.c2
  cases on
  ·have C:Hid (an s k s[k]=(4,tx,0,f)):=by
    show an s k s[k]=_
    rw[a.o];rfl
   clear a;go_wp2_with fail
   exact L.fin C.o V V _ V V
  ·have C:Hid (an s k s[k]=(4,tx,201,f)):=by
    show an s k s[k]=_
    rw[a.o];rfl
   clear a;go_wp2_with fail
   exact L.fin C.o V V _ V V
def iT(s:ByteArray) (k:Nat) (g:ByteArray):Bool:=Lib.hasPrefix (s.data.toList.drop k) g.data.toList
theorem zp(p:ByteArray→Bool)(l:List ByteArray)(i:Nat)(g:ByteArray)(a:l[i]?=Y g):(l.drop i).find? p=if p g then Y g else (l.drop (i+1)).find? p:=by
 obtain⟨b,rfl⟩:=FD.1 a;rw[List.drop_eq_getElem_cons b,List.find?_cons]
 cases p l[i]<;>rfl
theorem nN(s:ByteArray)(k:Nat)(g:ByteArray)(c:k≤s.size)(h:iT s k g=wg):k+g.size≤s.size:=by
 have a:g.data.toList.isPrefixOf (s.data.toList.drop k)=true:=h;have b:=(List.isPrefixOf_iff_prefix.1 a).length_le;simp at b;have d:g.data.size=g.size:=rfl;have e:s.data.size=s.size:=rfl;omega
theorem yq(R Q k:Nat)(s:ByteArray)(w:vk)(h:Rdr w R Q s k)(X:k<s.size)(z:s.size≤16384)(ht:aS w)(ad:Q≠1)
  (hc:isLow s[k]=wj) (D:(s[k]==63||s[k]==39)=wj) (hd:bQ s[k]=wj) :
  wB wq 158 #[wF (Y ⟨R,0,U⟩)] w (iE w R Q s k s[k]):=by
 obtain⟨HC,HQ,HD⟩:=zz3 hc D hd;have d:Hid (an s k s[k]=match eL.find? (iT s k) with|some g=>(6,g,0,k+g.size)|none=>(0,⟨#[]⟩,200,k)):=by
  show an s k s[k]=_
  unfold an;rw[r5 (by rw[hc];simp),r5 (by rw[D];simp),r5 (by rw[hd];simp)];rfl
 clear hc D hd
 go_enter Tryz.func158,Tryz.ntmps158
 go_wp2_with fail
 refine (tJ R Q k s _ (h.z ((Fl _ w).alloc (Fj _) _)) (by omega) z).mono ?_;rintro e w1 ⟨rfl,af⟩;have S1:=TS.start h af;go_wp2_with fail
 refine (gQ R Q k s _ S1.r X z [dl] wj (by rw[←HC.o];exact congrFun jT s[k]) _ V 1 1 V (by omega) _ (by simp)).mono ?_;rintro e w3 ⟨rfl,E⟩;have T:=S1.u E;clear S1 E;generalize w1.heap.size=T4 at *;generalize w.heap.size=T2 at T ⊢;go_wp2_with fail
 refine (gQ R Q k s _ T.r X z [⟨#[63,39]⟩] wj (by rw[mf];exact HQ.o) _ V 1 1 V (by omega) _ V).mono ?_;rintro e w4 ⟨rfl,F⟩;have S4:=T.u F;clear T F;go_wp2_with fail
 refine (gQ R Q k s _ S4.r X z [jJ] wj (by rw[←HD.o];exact congrFun mi s[k]) _ V 1 1 V (by omega) _ V).mono ?_;rintro e G ⟨rfl,H⟩;have S5:=S4.u H;clear S4 H;go_wp2_with fail
 refine (uY _ (S5.tab ht ad)).mono ?_;rintro e w6 ⟨rfl,rfl⟩;have hB:=Hd (qv G (ur (eL.map J).toArray 9));have S6:=S5.u ((Fl _ G).alloc (Fj _) (ur (eL.map J).toArray 9));generalize G.alloc (ur (eL.map J).toArray 9)=w6 at *;have bl:Y G.heap.size≠Y Q:=by
  obtain⟨p,D⟩:=S6.r.q;intro e;injection e with e
  exact ku hB.o D (by decide) e
 generalize G.heap.size=B at *;clear S5;go_wp2_with fail
 go_loopw [14,8] (fun i _ wr=>∃m:Nat,m≤17∧i=I Z m∧TS w R Q s k T2 T4 k 0 ⟨#[]⟩ wr∧wr.heap[B]?=Y (ur (eL.map J).toArray 9 (0,0))∧(eL.drop m).find? (iT s k)=eL.find? (iT s k)) (fun i _ _=>17-(intOf i).toNat)
 case atStart=>exact⟨0,by omega,V,S6,hB.o,V⟩
 case round =>
  obtain⟨m,hm,rfl,C,K,c⟩:=hrel;obtain⟨l,n⟩:=zz2 c K;clear c K S6 hB
  by_cases L:m<17
  ·obtain⟨g,hg⟩:∃g,eL[m]?=Y g:=⟨eL[m]'L,Fq L⟩;have ak:wr.cell? ⟨B,m,U⟩=Y (J g):=by rw[Gb _ _ _ _ _ _ n.o];simp[hg]
   have al:=Hd hg;clear hg;go_wp2_with fail
   refine (tY R Q k s _ C.r (by omega) z).mono ?_;rintro e w7 ⟨⟨t,rfl,M,aq⟩,u⟩;have S7:=C.u u;obtain⟨ar,av⟩:=zz2 (aa u n.o (Fi.1 n.o).1) M;clear M aq C ak;have N:=Hd (zp (iT s k) eL m g al.o);have HP:=Hd (fun (W:vk) (x:Bool) (hx:iT s k g=x)=>(Tryz.strings_HasPrefix t g W).mono (R':=fun e w'=>e=xv (xS x)∧W=w') (fun e w' hh=>⟨by rw[hh.1,av.o];exact tE (fun b=>xv (xS b)) hx,hh.2.symm⟩))
   cases a:iT s k g
   ·have f:=Hd a;clear a u
    go_wp2_with (first
     | (go_at_call 212;refine (HP.o _ _ f.o).mono ?_;rintro e w8 ⟨rfl,rfl⟩))
    refine⟨⟨m+1,by omega,by go_num,S7,ar.o,?_⟩,by simp[intOf];omega⟩;rw[←l.o,N.o,f.o];rfl
   ·have hle:=nN s k g (by omega) a;have HF:Hid (an s k s[k]=(6,g,0,k+g.size)):=by
     show an s k s[k]=_
     rw[d.o,←l.o,N.o,a];rfl
    have f:=Hd a;clear a d
    go_wp2_with (first
     | (go_at_call 212;refine (HP.o _ _ f.o).mono ?_;rintro e w8 ⟨rfl,rfl⟩))
    go_loopw [24] (fun i wi=>∃q:Nat,q≤g.size∧i=I Z q∧TS w R Q s k T2 T4 (k+q) 0 ⟨#[]⟩ wi) (fun i _=>g.size-(intOf i).toNat)
    case atStart=>exact⟨0,FA _,V,S7⟩
    case round =>
     obtain⟨q,bn,rfl,v⟩:=hrel
     by_cases bq:q<g.size
     ·obtain⟨r0,r1,q0,q1,⟨p,q2⟩,_⟩:=v.r.y;obtain⟨p',P⟩:=v.r.q;have a1:=Hd P;clear P;go_wp2_with fail
      refine (j0 Q (k+q) _ s _ a1.o (by omega) z).mono ?_;rintro e w9 ⟨rfl,y,S⟩;have S9:=v.h y (v.r.h y S);clear v y S r0 r1 q0 q1 q2;go_wp2_with fail
      exact⟨⟨q+1,by omega,by go_num,S9⟩,by simp[intOf];omega⟩
     ·obtain rfl:q=g.size:=by omega
      obtain⟨c0,c1,c2,f0,f1,f2⟩:=v.c4;have Sa:=v.b 6;obtain⟨br,bt,bB,bR,b0,b1⟩:=Sa.c4;have Sb:=Sa.f g;obtain⟨d0,d1,d2,e0,e1,e2⟩:=Sb.c4;obtain⟨a6,ba,bb,bc,bd,bk⟩:=Sb.c2;go_wp2_with fail
      exact Sb.fin HF.o V V _ V V
  ·obtain rfl:m=17:=by omega
   have HF:Hid (an s k s[k]=(0,⟨#[]⟩,200,k)):=by
    show an s k s[k]=_
    rw[d.o,←l.o];rfl
   clear d;obtain⟨d0,d1,d2,e0,e1,e2⟩:=C.c4;obtain⟨a6,ba,bb,bc,bd,bk⟩:=C.c2;go_wp2_with fail
   exact C.fin HF.o V V _ V V
theorem Al(R Q k:Nat)(s:ByteArray)(w:vk)(h:Rdr w R Q s k)(b:k<s.size)(c:s.size≤16384)(f:aS w)(a:Q≠1) :
  wB wq 158 #[wF (Y ⟨R,0,U⟩)] w (iE w R Q s k s[k]):=by
 cases d:isLow s[k]
 ·cases e:s[k]==63||s[k]==39
  ·cases g:bQ s[k]
   ·exact yq R Q k s w h b c f a d e g
   ·exact AG R Q k s w h b c d e g
  ·exact yW R Q k s w h b c d e
 ·exact yX R Q k s w h b c f a d
attribute [local go_sem] Oper.semAt_some
abbrev Tok:=Nat×ByteArray×Nat
def toks:Nat→ByteArray→Nat→List Tok×Option (Nat×Nat)
 | 0,_,_=>([],U)
 | f+1,s,k =>
  if h:skip s k<s.size then
   if (an s (skip s k) s[skip s k]).2.2.1=0 then
    (((an s (skip s k) s[skip s k]).1,(an s (skip s k) s[skip s k]).2.1,skip s k)::(toks f s (an s (skip s k) s[skip s k]).2.2.2).1,(toks f s (an s (skip s k) s[skip s k]).2.2.2).2)
   else ([],Y ((an s (skip s k) s[skip s k]).2.2.1,skip s k))
  else ([],U)
theorem Bp(g:ByteArray)(h:g∈eL):0<g.size:=by
 have:eL.all (fun g=>decide (0<g.size))=true:=by kernel_rfl
 simpa using FW.1 this g h
theorem fy(s:ByteArray)(k:Nat)(f:k<s.size)(a:(an s k s[k]).2.2.1=0):k<(an s k s[k]).2.2.2∧(an s k s[k]).2.2.2≤s.size:=by
 unfold an at a ⊢
 by_cases b:isLow s[k]=wg
 ·rw[r6 b];have c:bf s[k]=true:=by unfold bf;rw[b];rfl
  have:=fh bf s (k+1);rw[gC bf s k f c]at this;exact⟨this,dq _ _ _ (by omega)⟩
 ·rw[r5 b]at a ⊢
  by_cases h:(s[k]==63||s[k]==39)=wg
  ·rw[r6 h];have:=fh bf s (k+1);exact⟨this,dq _ _ _ (by omega)⟩
  ·rw[r5 h]at a ⊢
   by_cases d:bQ s[k]=wg
   ·rw[r6 d];have:=fh bQ s (k+1);rw[gC bQ s k f d]at this;exact⟨this,dq _ _ _ (by omega)⟩
   ·rw[r5 d]at a ⊢
    cases e:eL.find? (fun g=>Lib.hasPrefix (s.data.toList.drop k) g.data.toList) with
    | none=>rw[e]at a;simp at a
    | some g =>
     have l:=Bp g (List.mem_of_find?_eq_some e);have i:=nN s k g (by omega) (List.find?_some e);exact⟨by show k<k+g.size;omega,i⟩
theorem zS(s:ByteArray):∀(n f g k:Nat),s.size-k<n→s.size-k<f→s.size-k<g→toks f s k=toks g s k:=by
 intro n
 induction n with
 | zero=>intro f g k h;omega
 | succ n c =>
  intro f g k i l m;obtain⟨f,rfl⟩:∃d,f=d+1:=⟨f-1,by omega⟩;obtain⟨g,rfl⟩:∃e,g=e+1:=⟨g-1,by omega⟩;unfold toks
  by_cases a:skip s k<s.size
  ·rw[dif_pos a,dif_pos a]
   by_cases b:(an s (skip s k) s[skip s k]).2.2.1=0
   ·rw[r6 b,r6 b];have o:=fy s (skip s k) a b;have p:=kE s _ k (Fj _);rw[c f g _ (by omega) (by omega) (by omega)]
   ·rw[r5 b,r5 b]
  ·rw[dif_neg a,dif_neg a]
theorem pN(s:ByteArray):∀(f k:Nat),k≤s.size→(toks f s k).1.length+k≤s.size:=by
 intro f
 induction f with
 | zero=>intro k a;simpa [toks]using a
 | succ f c =>
  intro k a;unfold toks
  by_cases h:skip s k<s.size
  ·rw[dif_pos h]
   by_cases b:(an s (skip s k) s[skip s k]).2.2.1=0
   ·rw[r6 b];have d:=fy s (skip s k) h b;have e:=kE s _ k (Fj _);have g:=c _ d.2;simp only[FU];omega
   ·rw[r5 b];simpa using a
  ·rw[dif_neg h];simpa using a
def aL(s:ByteArray) (k:Nat):List Tok×Option (Nat×Nat):=toks (s.size+1) s k
theorem dD(s:ByteArray)(k:Nat)(h:¬skip s k<s.size):aL s k=([],U):=by unfold aL toks;rw[dif_neg h]
theorem fw(s:ByteArray)(k:Nat)(h:skip s k<s.size)(a:(an s (skip s k) s[skip s k]).2.2.1≠0):aL s k=([],Y ((an s (skip s k) s[skip s k]).2.2.1,skip s k)):=by unfold aL toks;rw[dif_pos h,r5 a]
theorem fg(s:ByteArray)(k:Nat)(h:skip s k<s.size)(a:(an s (skip s k) s[skip s k]).2.2.1=0) :
  aL s k=(((an s (skip s k) s[skip s k]).1,(an s (skip s k) s[skip s k]).2.1,skip s k)::(aL s (an s (skip s k) s[skip s k]).2.2.2).1,(aL s (an s (skip s k) s[skip s k]).2.2.2).2):=by
 have b:=fy s (skip s k) h a
 conv=>lhs;unfold aL toks
 rw[dif_pos h,r6 a];unfold aL;rw[zS s (s.size+1) s.size (s.size+1) _ (by omega) (by omega) (by omega)]
theorem m8(s:ByteArray)(k:Nat):skip s (skip s k)=skip s k:=by
 by_cases h:skip s k<s.size
 ·obtain⟨a,b⟩:=DW s _ k (Fj _) h;exact jm s _ h a b
 ·exact eT s _ (by omega)
theorem i3(s:ByteArray)(k:Nat):aL s (skip s k)=aL s k:=by
 have e:=m8 s k
 by_cases h:skip s k<s.size
 ·by_cases a:(an s (skip s k) s[skip s k]).2.2.1=0
  ·rw[fg s k h a,fg s (skip s k) (by rw[e];exact h) (by simp only[e];exact a)];simp only[e]
  ·rw[fw s k h a,fw s (skip s k) (by rw[e];exact h) (by simp only[e];exact a)];simp only[e]
 ·rw[dD s k h,dD s (skip s k) (by rw[e];exact h)]
open Go.Shelf
attribute [local go_sem] Oper.semAt_some
def EG(s:ByteArray) (a:List Tok→vk→Prop) (b:Nat→Nat→vk→Prop) (e:Ending) (W:vk):Prop:=
 (∃v,e=xv v)∧(((aL s 0).2=U∧a (aL s 0).1 W)∨∃er pl,(aL s 0).2=Y (er,pl)∧b er pl W)
def A8(R Q:Nat) (s:ByteArray) (k:Nat) (t:Nat×ByteArray×Nat×Nat) (pre:List Tok) (a:List Tok→vk→Prop) (b:Nat→Nat→vk→Prop) (W:vk) (e:Ending) (W':vk):Prop:=
 (t.2.2.1=0∧e=xv (xS wg)∧a (pre++[(t.1,t.2.1,k)]) W'∧∀j,Rdr W R Q s j→Rdr W' R Q s j)∨(t.2.2.1≠0∧e=xv (xS wj)∧b t.2.2.1 k W')
theorem all1_in(n l Bx R Q:Nat)(s:ByteArray)(hs:s.size≤16384)(hQ:Q≠1)(q:List Tok→vk→Prop)(Jx:Nat→Nat→vk→Prop)
  (hJ:∀pre W W',q pre W→W.grownBy W' (Y Q)→q pre W')
  (D:∀pre W,q pre W→aS W∧W.cell? ⟨Bx,0,U⟩=Y (wF (Y ⟨R,0,U⟩)))
  (hY:∀pre k W,(hk:k<s.size)→pre.length≤s.size→q pre W→YieldAt Fence.wide (n-1) wq l #[wD #[I O (an s k s[k]).1,J (an s k s[k]).2.1,I Z k],I Z (an s k s[k]).2.2.1] W (A8 R Q s k (an s k s[k]) pre q Jx W))
  (W:vk) (hr:Rdr W R Q s 0) (h0:q [] W) :
  CallsIn Fence.wide n wq 155 #[Value.func (.yield l) #[] #[],wF (Y ⟨Bx,0,U⟩)] W (EG s q Jx):=by
 obtain⟨HJ,c,HY⟩:=zz3 hJ D hY;clear hJ D hY;refine callsIn_of_wp Tryz.func155 V trivial ?_ V;simp only[Tryz.ntmps155,List.size_toArray,FU,List.length_nil,Nat.reduceAdd,Nat.reduceSub,Array.replicate_succ,Array.replicate_zero,List.push_toArray,List.append_toArray,List.nil_append,List.cons_append];obtain⟨m,a⟩:=c.o _ _ h0
 gi_wp2_with fail
 refine⟨trivial,(fun h=>by cases h),callsIn_wide.2 ((rU R Q 0 s W hr (FA _) hs).mono ?_)⟩;rintro e w1 ⟨rfl,E,F⟩;have G:=HJ.o _ _ _ h0 E;clear m a
 gi_wp2_with fail
 gi_loopw [5,20] (fun _ _ wr=>∃pre k,k≤s.size∧skip s k=k∧Rdr wr R Q s k∧q pre wr∧pre++(aL s k).1=(aL s 0).1∧(aL s k).2=(aL s 0).2) (fun _ _ wr=>s.size-qh wr Q)
 case atStart=>exact⟨[],skip s 0,xe _ _ _ (Fj _) (FA _),m8 _ _,F,G,by rw[i3];rfl,by rw[i3]⟩
 case round =>
  obtain⟨pre,k,hk,H,u,K,L,M⟩:=hrel;obtain⟨d,v,x⟩:=zz3 H L M;clear H L M h0 hr F G E;obtain⟨m,a⟩:=c.o _ _ K;obtain⟨r0,r1,q0,q1,⟨p,q2⟩,f1,f2,ar,av⟩:=u.y
  gi_wp2_with fail
  refine⟨trivial,(fun h=>by cases h),callsIn_wide.2 ((tQ Q k s wr q0 q1 hk hs).mono ?_)⟩;rintro e w2 ⟨rfl,nd,rfl⟩;have N:Gc wr (wr.drewN nd):=below_drewN (Fl _ _) nd;have a1:=u.z N;have y:=HJ.o _ _ _ K (aQ N _);generalize wr.drewN nd=w2 at *;clear m a r0 r1 q0 q1 q2 f1 f2 ar av;obtain⟨m,a⟩:=c.o _ _ y
  by_cases f:k<s.size
  ·gi_wp2_with fail
   refine⟨trivial,(fun h=>by cases h),callsIn_wide.2 ((Al R Q k s w2 a1 f hs m hQ).mono ?_)⟩;rintro e w3 ⟨rfl,a6,P⟩;have S:=HJ.o _ _ _ y a6;clear m a;obtain⟨m,a⟩:=c.o _ _ S;have T:pre.length≤s.size:=by
    have h1:=pN s (s.size+1) 0 (FA _);have h2:=tE List.length v.o;simp only[FC]at h2;have h3:(aL s 0).1.length+0≤s.size:=h1;omega
   have hY:=HY.o pre k w3 f T S;clear T;generalize hT:an s k s[k]=t at *;obtain⟨kd,tx,er,z⟩:=t;dsimp only at hY P ⊢;have HT:=Hd hT;clear hT;obtain⟨fn,tmps,assign,body,hy,hR⟩:=hY;have X:skip s k<s.size:=by rw[d.o];exact f
   have hE:an s (skip s k) s[skip s k]=(kd,tx,er,z):=by simp only[d.o];exact HT.o
   have HE:=Hd hE;clear hE
   gi_wp2_with fail
   refine⟨(fun h=>by cases h),hR.mono ?_⟩;rintro e w4 (⟨b,rfl,ad,g⟩|⟨b,rfl,ba⟩)
   ·have bb:=g _ P;have B:=Hd b;clear b hy m a g;obtain⟨m,a⟩:=c.o _ _ ad;have af:=fy s k f (by rw[HT.o];exact B.o);rw[HT.o]at af;obtain⟨bk,ak⟩:k<z∧z≤s.size:=af
    gi_wp2_with fail
    refine⟨trivial,(fun h=>by cases h),callsIn_wide.2 ((rU R Q z s w4 bb ak hs).mono ?_)⟩;rintro e w5 ⟨rfl,bc,al⟩;have bd:=HJ.o _ _ _ ad bc;have hle:=xe s _ z (Fj _) ak;have bl:=kE s _ z (Fj _);clear m a;have C:=fg s k X (by rw[HE.o];exact B.o);rw[HE.o]at C;have aq:=Hd C;clear C
    gi_wp2_with fail
    refine⟨⟨pre++[(kd,tx,k)],skip s z,hle,m8 _ _,al,bd,?_,?_⟩,?_⟩
    ·rw[i3,←v.o,aq.o];simp[d.o]
    ·rw[i3,←x.o,aq.o]
    ·rw[al.pos,u.pos];omega
   ·have i:=fw s k X (by rw[HE.o];exact b);rw[HE.o]at i;obtain⟨HB,B⟩:=zz2 i b;clear i b hy
    gi_wp2_with fail
    refine bodyPost_ret (results_none V _ _ _) V ?_;refine⟨⟨_,V⟩,Or.inr ⟨er,k,?_,ba⟩⟩;rw[←x.o,HB.o];simp only[d.o]
  ·have hend:=dD s k (by rw[d.o];exact f);have r:=Hd hend;clear hend
   gi_wp2_with fail
   go_end0
   refine⟨⟨_,V⟩,Or.inl ⟨?_,?_⟩⟩
   ·rw[←x.o,r.o]
   ·rw[←v.o,r.o]
    simpa using y
