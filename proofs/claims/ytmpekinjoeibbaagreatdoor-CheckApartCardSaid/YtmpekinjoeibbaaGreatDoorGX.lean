/- The bag's lists lie apart, those of rules in it. Condition: at most 60000 lists of a kind. (Printed by tools/genApartR.py.) -/
import Derived.Test.YtmpekinjoeibbaaGreatDoorFA
import Derived.Test.YtmpekinjoeibbaaGreatDoorGC
import Derived.Test.YtmpekinjoeibbaaGreatDoorGD2
import Derived.Test.YtmpekinjoeibbaaGreatDoorGD3
import Derived.Test.YtmpekinjoeibbaaGreatDoorGE
import Derived.Test.YtmpekinjoeibbaaGreatDoorGP
open Option renaming some→A,none→V
open Go.Value renaming slice→O
open Go.Proofs.Tryz renaming prog→r6
namespace Go.Proofs.YtmpekinjoeibbaaGreatDoor
set_option maxHeartbeats 4000000
set_option maxRecDepth 100000
open Go.RowKit
theorem Eu{i j:Nat}(a:Kd i)(b:Kd j)(h:i≠j):tyE i≠tyE j:=by
 have:∀i∈List.range 17,∀j∈List.range 17,(decide (10≤i)&&decide (10≤j)&&decide (i≠j))=true→(tyE i==tyE j)=false:=by decide
 have c:=this i (List.mem_range.2 (by have:=a.2;omega)) j (List.mem_range.2 (by have:=b.2;omega)) (by simp[a.1,b.1,h]);exact fun e=>by rw[e]at c;simp at c
structure ASt (w:World) (Bg B:Nat) (v:Nat→Value) (L:bA) (F:Nat→Prop) (k:Nat) (W:World):Prop where
 bag:W.heap[Bg]?=A (Obj.cells (lW v) 131 (0,0))
 h:∀j,Kd j→W.ownsRow B (tyS j) 1 (v j) (L j).length ((L j).map (·.1))
 got:∀j,Kd j→k≤j→iM j W F (L j)
 chg:Chg F w W
section
variable {w W W':World} {Bg B k j:Nat} {v:Nat→Value} {L:bA} {F:Nat→Prop}
theorem ASt.C(h:ASt w Bg B v L F k W)(a:FS W W'):ASt w Bg B v L F k W':=
 ⟨(a.block Bg (ES.1 h.bag).1).trans h.bag,fun j b=>ab (h.h j b) a,fun j b c=>(h.got j b c).t b (fs.b a),h.chg.h (Chg.b a)⟩
theorem ASt.nil(h:ASt w Bg B v L F k W)(i:Nat)(a:(lW v)[i]?=A (O V 0 0)):W.cell? ⟨Bg,i,V⟩=A (O V 0 0):=by rw[FR _ _ _ _ _ _ h.bag];exact a
theorem ASt.b(h:ASt w Bg B v L F k W)(a:Kd j):W.cell? ⟨Bg,j,V⟩=A (v j):=by rw[FR _ _ _ _ _ _ h.bag];exact uw a
theorem ASt.flat(h:ASt w Bg B v L F j W)(q:Kd j)(l:Chg (Dg (L j)) W W'):ASt w Bg B v L F (j+1) W':=by
 have m:=h.got j q (ET _);have a:∀b,Dg (L j) b→F b∧∃cs,W.heap[b]?=A (Obj.cells cs (tyE j) (0,0)):=by
  rintro b ⟨i,u,n,d,hu⟩;obtain⟨⟨xs,r⟩,_,hF⟩:=m.h _ (Fv d);exact⟨hF b hu,fQ r hu⟩
 have c:∀(b:Nat) (cs:Array Value) (t:TypeId),t≠tyE j→W.heap[b]?=A (Obj.cells cs t (0,0))→W'.heap[b]?=A (Obj.cells cs t (0,0)):=fun b cs t x o=>by
  refine (l.q b (ES.1 o).1 fun f=>?_).trans o;obtain⟨_,s,a⟩:=a b f;rw[o]at a;injection a with a
  injection a with _ a
  exact x a
 refine⟨c _ _ _ (fun e=>xO q e.symm) h.bag,fun i d=>bE (h.h i d) fun g m=>?_,fun i d D=>⟨fun p y=>?_,(h.got i d (by omega)).T⟩,h.chg.h ⟨l.os,l.tape,l.a,l.u,fun b o z=>l.q b o fun f=>z (a b f).1⟩⟩
 ·obtain⟨s,a⟩:=fQ (h.h i d) m;rw[c g s _ (fun e=>Bo d q e.symm) a,a]
 ·obtain⟨⟨xs,r⟩,C⟩:=(h.got i d (by omega)).h p y;refine⟨⟨xs,bE r fun g m=>?_⟩,C⟩;obtain⟨s,a⟩:=fQ r m;rw[c g s _ (Eu d q (by omega)) a,a]
theorem ASt.call(h:ASt w Bg B v L F j W)(t:Kd j)(z:(L j).length≤60000):v j=O V 0 0∨∃b0 cap c0,v j=O (A ⟨b0,0,V⟩) (L j).length cap∧FIn 0 b0 c0 (L j)∧Fm (tyE j) (tyS j) (tyZ j) 0 b0 c0 (L j) (fun _ _ _=>True) W:=by
 have p:=h.got j t (ET _);rcases (h.h j t).2 with ⟨d,_⟩|⟨b0,cap,c0,d,_,q,_,_,_,r⟩
 ·exact Or.inl d
 ·refine Or.inr ⟨b0,cap,c0,d,?_⟩;have c:∀(k:Nat) (u:Value) (n:Nat),(L j)[k]?=A (u,n)→(u,n)∈L j:=fun k u n h=>Fv h
  refine⟨⟨by omega,fun k u n h=>(p.h _ (c k u n h)).2.1.1,fun k u n h=>?_,fun a b u x n m g i l s hu o=>?_⟩,q,fun k u n h=>(p.h _ (c k u n h)).1.imp fun _ o=>⟨o,trivial⟩⟩
  ·have C:k<(L j).length:=(Fo.1 h).1;have d:(c0.toList.take ((L j).length*1))[k]?=A u:=by rw[r,List.getElem?_map,h];rfl
   rw[List.getElem?_take,oA (by omega)]at d
   simpa using d
  ·obtain⟨e,i⟩:=Fo.1 i;obtain⟨f,l⟩:=Fo.1 l;have y:=List.pairwise_iff_getElem.1 p.T;rcases Nat.lt_or_gt_of_ne s with h|h
   ·have:=y a b e f h g (by rw[i];exact hu);rw[l]at this;exact this o
   ·have:=y b a f e h g (by rw[l];exact o);rw[i]at this;exact this hu
theorem sW(h:ASt w Bg B v L F 10 W)(a:(L 10).length≤60000):Calls r6 66 #[v 10] W (dZ (L 10) W):=by
 rcases h.call (by unfold Kd;omega) a with e|⟨b0,cap,c0,e,b,hF⟩
 ·rw[e];exact (tB W).mono fun e w' h=>⟨h.1,Chg.b h.2⟩
 ·rw[e];exact s8 b hF (Fi _)
theorem uY(h:ASt w Bg B v L F 11 W)(a:(L 11).length≤60000):Calls r6 67 #[v 11] W (dZ (L 11) W):=by
 rcases h.call (by unfold Kd;omega) a with e|⟨b0,cap,c0,e,b,hF⟩
 ·rw[e];exact (ul W).mono fun e w' h=>⟨h.1,Chg.b h.2⟩
 ·rw[e];exact vG b hF (Fi _)
theorem tm(h:ASt w Bg B v L F 12 W)(a:(L 12).length≤60000):Calls r6 68 #[v 12] W (dZ (L 12) W):=by
 rcases h.call (by unfold Kd;omega) a with e|⟨b0,cap,c0,e,b,hF⟩
 ·rw[e];exact (sY W).mono fun e w' h=>⟨h.1,Chg.b h.2⟩
 ·rw[e];exact tw b hF (Fi _)
theorem ux(h:ASt w Bg B v L F 13 W)(a:(L 13).length≤60000):Calls r6 69 #[v 13] W (dZ (L 13) W):=by
 rcases h.call (by unfold Kd;omega) a with e|⟨b0,cap,c0,e,b,hF⟩
 ·rw[e];exact (uk W).mono fun e w' h=>⟨h.1,Chg.b h.2⟩
 ·rw[e];exact uQ b hF (Fi _)
theorem tC(h:ASt w Bg B v L F 14 W)(a:(L 14).length≤60000):Calls r6 70 #[v 14] W (dZ (L 14) W):=by
 rcases h.call (by unfold Kd;omega) a with e|⟨b0,cap,c0,e,b,hF⟩
 ·rw[e];exact (s7 W).mono fun e w' h=>⟨h.1,Chg.b h.2⟩
 ·rw[e];exact sQ b hF (Fi _)
theorem pW(h:ASt w Bg B v L F 15 W)(a:(L 15).length≤60000):Calls r6 71 #[v 15] W (dZ (L 15) W):=by
 rcases h.call (by unfold Kd;omega) a with e|⟨b0,cap,c0,e,b,hF⟩
 ·rw[e];exact (qt W).mono fun e w' h=>⟨h.1,Chg.b h.2⟩
 ·rw[e];exact qN b hF (Fi _)
theorem pH(h:ASt w Bg B v L F 16 W)(a:(L 16).length≤60000):Calls r6 72 #[v 16] W (dZ (L 16) W):=by
 rcases h.call (by unfold Kd;omega) a with e|⟨b0,cap,c0,e,b,hF⟩
 ·rw[e];exact (pz W).mono fun e w' h=>⟨h.1,Chg.b h.2⟩
 ·rw[e];exact pp b hF (Fi _) fun k u n c=>((h.got 16 (by unfold Kd;omega) (ET _)).h _ (Fv c)).2.1.2 Z
end
theorem uC{w:World}{Bg B Bt:Nat}{F:Nat→Prop}{L:bA}(hb:gR w Bg B L)(hg:Got w F L)(hF:∀b,F b→Bt≤b)(hN:∀j,(L j).length≤60000)(hB:Bt≤w.heap.size) :
  Calls r6 28 #[Value.pointer (A ⟨Bg,0,V⟩)] w fun e w'=>e=Ending.returned (Value.bool true)∧Below Bt w w':=by
 obtain⟨v,h1,h2,h3⟩:=hb;have S0:Hid (ASt w Bg B v L F 10 w):=⟨h1,h2,fun j hj _=>hg j hj,Chg.y _ _⟩;obtain⟨HF,D⟩:=zz2 hF hN;clear hN;have c0:=S0.o.nil 0 Z;clear hg hF h1 h2 h3
 go_enter Tryz.func28,Tryz.ntmps28
 go_wp2_with (first
  | (go_at_call 56;refine Ff (sP _) ?_;rintro e w1 ⟨rfl,Q⟩;have S1:=Hd (S0.o.C Q);clear c0 Q;have c1:=S1.o.nil 1 Z)
  | (go_at_call 57;refine Ff (te _) ?_;rintro e w2 ⟨rfl,R⟩;have S2:=Hd (S1.o.C R);clear c1 R;have c2:=S2.o.nil 2 Z)
  | (go_at_call 58;refine Ff (vo _) ?_;rintro e w3 ⟨rfl,S⟩;have S3:=Hd (S2.o.C S);clear c2 S;have c3:=S3.o.nil 3 Z)
  | (go_at_call 59;refine Ff (tj _) ?_;rintro e w4 ⟨rfl,T⟩;have S4:=Hd (S3.o.C T);clear c3 T;have c4:=S4.o.nil 4 Z)
  | (go_at_call 60;refine Ff (sN _) ?_;rintro e w5 ⟨rfl,U⟩;have S5:=Hd (S4.o.C U);clear c4 U;have c5:=S5.o.nil 5 Z)
  | (go_at_call 61;refine Ff (tg _) ?_;rintro e w6 ⟨rfl,X⟩;have S6:=Hd (S5.o.C X);clear c5 X;have c6:=S6.o.nil 6 Z)
  | (go_at_call 62;refine Ff (qY _) ?_;rintro e w7 ⟨rfl,ad⟩;have S7:=Hd (S6.o.C ad);clear c6 ad;have c7:=S7.o.nil 7 Z)
  | (go_at_call 63;refine Ff (s6 _) ?_;rintro e w8 ⟨rfl,af⟩;have S8:=Hd (S7.o.C af);clear c7 af;have c8:=S8.o.nil 8 Z)
  | (go_at_call 64;refine Ff (tz _) ?_;rintro e w9 ⟨rfl,ak⟩;have S9:=Hd (S8.o.C ak);clear c8 ak;have c9:=S9.o.nil 9 Z)
  | (go_at_call 65;refine Ff (td _) ?_;rintro e cl ⟨rfl,a⟩;have E:=Hd (S9.o.C a);clear c9 a;have bl:=E.o.b (j:=10) (by unfold Kd;omega))
  | (go_at_call 66;refine Ff (sW E.o (D.o 10)) ?_;rintro e cp ⟨rfl,c⟩;have G:=Hd (E.o.flat (by unfold Kd;omega) c);clear bl c;have bn:=G.o.b (j:=11) (by unfold Kd;omega))
  | (go_at_call 67;refine Ff (uY G.o (D.o 11)) ?_;rintro e cq ⟨rfl,d⟩;have H:=Hd (G.o.flat (by unfold Kd;omega) d);clear bn d;have bq:=H.o.b (j:=12) (by unfold Kd;omega))
  | (go_at_call 68;refine Ff (tm H.o (D.o 12)) ?_;rintro e cr ⟨rfl,f⟩;have K:=Hd (H.o.flat (by unfold Kd;omega) f);clear bq f;have br:=K.o.b (j:=13) (by unfold Kd;omega))
  | (go_at_call 69;refine Ff (ux K.o (D.o 13)) ?_;rintro e ct ⟨rfl,g⟩;have M:=Hd (K.o.flat (by unfold Kd;omega) g);clear br g;have bt:=M.o.b (j:=14) (by unfold Kd;omega))
  | (go_at_call 70;refine Ff (tC M.o (D.o 14)) ?_;rintro e cu ⟨rfl,h⟩;have N:=Hd (M.o.flat (by unfold Kd;omega) h);clear bt h;have bB:=N.o.b (j:=15) (by unfold Kd;omega))
  | (go_at_call 71;refine Ff (pW N.o (D.o 15)) ?_;rintro e cv ⟨rfl,i⟩;have P:=Hd (N.o.flat (by unfold Kd;omega) i);clear bB i;have bR:=P.o.b (j:=16) (by unfold Kd;omega))
  | (go_at_call 72;refine Ff (pH P.o (D.o 16)) ?_;rintro e cx ⟨rfl,l⟩;have aq:=Hd (P.o.flat (by unfold Kd;omega) l);clear bR l;have b1:=aq.o.nil 17 Z)
  | (go_at_call 73;refine Ff (rC _) ?_;rintro e cT ⟨rfl,m⟩;have ar:=Hd (aq.o.C m);clear b1 m;have b2:=ar.o.nil 18 Z)
  | (go_at_call 74;refine Ff (oQ _) ?_;rintro e cV ⟨rfl,n⟩;have av:=Hd (ar.o.C n);clear b2 n;have b3:=av.o.nil 19 Z)
  | (go_at_call 75;refine Ff (qh _) ?_;rintro e cW ⟨rfl,p⟩;have a1:=Hd (av.o.C p);clear b3 p;have b4:=a1.o.nil 20 Z)
  | (go_at_call 76;refine Ff (pZ _) ?_;rintro e da ⟨rfl,q⟩;have a6:=Hd (a1.o.C q);clear b4 q;have b5:=a6.o.nil 21 Z)
  | (go_at_call 77;refine Ff (qJ _) ?_;rintro e dc ⟨rfl,r⟩;have a7:=Hd (a6.o.C r);clear b5 r;have b6:=a7.o.nil 22 Z)
  | (go_at_call 78;refine Ff (sJ _) ?_;rintro e dd ⟨rfl,s⟩;have a8:=Hd (a7.o.C s);clear b6 s;have b7:=a8.o.nil 23 Z)
  | (go_at_call 79;refine Ff (sR _) ?_;rintro e dg ⟨rfl,t⟩;have ba:=Hd (a8.o.C t);clear b7 t;have b8:=ba.o.nil 24 Z)
  | (go_at_call 80;refine Ff (sS _) ?_;rintro e dr ⟨rfl,u⟩;have bb:=Hd (ba.o.C u);clear b8 u;have b9:=bb.o.nil 25 Z)
  | (go_at_call 81;refine Ff (rn _) ?_;rintro e ds ⟨rfl,x⟩;have bc:=Hd (bb.o.C x);clear b9 x;have ca:=bc.o.nil 26 Z)
  | (go_at_call 82;refine Ff (pL _) ?_;rintro e dv ⟨rfl,y⟩;have bd:=Hd (bc.o.C y);clear ca y;have cb:=bd.o.nil 27 Z)
  | (go_at_call 83;refine Ff (pM _) ?_;rintro e eg ⟨rfl,z⟩;have bk:=Hd (bd.o.C z);clear cb z;have ch:=bk.o.nil 28 Z)
  | (go_at_call 84;refine Ff (rx _) ?_;rintro e en ⟨rfl,C⟩;have ck:=Hd (bk.o.C C);clear ch C))
 go_ret;exact⟨Z,Chg.C (EU _ _) ck.o.chg HF.o hB⟩
