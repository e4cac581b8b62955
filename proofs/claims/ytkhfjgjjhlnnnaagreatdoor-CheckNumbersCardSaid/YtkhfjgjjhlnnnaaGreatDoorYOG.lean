/- The reference's maker (chapter 08): a rule; by contract. Conditions: a right one; rows of at most 10000, texts of at most 72007 bytes. -/
import Derived.Test.YtkhfjgjjhlnnnaaGreatDoorYOF
import Derived.Test.YtkhfjgjjhlnnnaaGreatDoorYNN
open Go.Value renaming pointer→xV,agg→xS,int→I,string→J,slice→A
open Option renaming some→Y,none→U
open Go.IntKind renaming u8→O,i64→Z
open Go.Obj renaming cells→wq
open Decidable renaming decide→xv
open Go renaming undef→At,wpQuiet_nil→Bk
open Or renaming inl→z6,inr→z7
namespace Go.Proofs.YtkhfjgjjhlnnnaaGreatDoor
set_option maxHeartbeats 8000000
set_option maxRecDepth 100000
open Go.RowKit
theorem yS(d M B:Nat)(ts:List ae)(vars:List ByteArray)(k:Int)(fl:Flt)(vT vR vV:Value)(rs:List an)(FR DT:Nat→Prop)(T:ab)(sl:Value)(w:World)
  (h:jO d M ts vars k fl vT vR vV rs FR DT w) (hk:T.b=4) (kI:-1000000000000≤T.h∧T.h≤1000000000000) (k0:T.f.size≤72007) (k1:B≤M) (ba:ao w B (d+2) T.u sl) (k2:T.u.length≤10000) (oa:rs.length≤10000) (hA:(T.u.filter aO).length=dn T.u)
  (ar:∀K∈T.u,(5≤K.b∧K.b≤11)∧dh (d+1) K∧okF (d+1) K=true) :
  Calls Tryz.prog 26 #[xV (Y ⟨M,0,U⟩),xS #[I O T.b,J T.f,I Z T.h,I Z T.y,sl]] w (pE d M ts vT vR rs.length FR DT fl (cG d ts rs T) w):=by
 obtain⟨Ts,fI⟩:=zzy (T.u);obtain⟨n,hn⟩:=zzy (Ts.length);obtain⟨p,c,oc⟩:∃p c,sl=A p n c:=by
  rw[fI]at ba;rcases ba with ⟨rfl,sp,cap,rfl⟩|⟨b,off,cap,H,h2,h3,h4,rfl,h6⟩
  ·exact⟨sp,cap,by rw[←hn];rfl⟩
  ·exact⟨_,_,by rw[hn]⟩
 subst oc;obtain⟨D,C,c6⟩:=h.x.b;obtain⟨j,fT⟩:=zzy (rs.length);rw[fT]at c6 oa;subst c6;have oe:=h.lt;obtain⟨HS,k3,k4⟩:=zz3 h fI hA;rw[fI]at ba k2 ar;rw[hn]at k2;obtain⟨k7,oi,HN,bB,oj,oq⟩:=zz6 ba ar hn fT hk k0;obtain⟨ph,pk⟩:=kI;rw[hk,fT];change Calls Tryz.prog 26 #[xV (Y ⟨M,0,U⟩),xS #[I O 4,J T.f,I Z T.h,I Z T.y,A p n c]] w _;obtain⟨w1,gf⟩:=zzx (w.alloc (wq #[I O 4,J T.f,I Z T.h,I Z T.y,A p n c] 25));have h8:FK w w1:=by rw[gf];exact (EP _ w).alloc (EO _) _
 have gg:=p9 w (wq #[I O 4,J T.f,I Z T.h,I Z T.y,A p n c] 25);rw[←gf]at gg;obtain⟨pT,p0⟩:=zz2 gg h8;have c7:Hid (nI M ts vars k vT (A D j C) vV rs j fl T #[I O 4,J T.f,I Z T.h,I Z T.y,A p n c] w (I Z 0) w1):=⟨0,Fa _,V,aD.f h.rm h8,gg⟩;have k8:=Hd gf;clear ba ar hn fT gf h8 gg fI hA hk k0 h
 go_enter Tryz.func26,Tryz.ntmps26
 go_upto_region 1 with fail
 change Code.wp _ _ _ _ (w.alloc (wq #[I O 4,J T.f,I Z T.h,I Z T.y,A p n c] 25));rw[←k8.o];clear k8
 go_upto_block 0 with fail
 go_cut [] from 4 to 33 (fun W=>aD M ts vars k vT (A D j C) vV w (az fl ((rs.map an.a).any (fun y=>y.data.toList==T.f.data.toList)) 210 T.y) W∧W.heap[w.heap.size]?=Y (wq #[I O 4,J T.f,I Z T.h,I Z T.y,A p n c] 25 (0,0)))
 case first =>
  go_wp2_with fail
  go_loopw [4] (nI M ts vars k vT (A D j C) vV rs j fl T #[I O 4,J T.f,I Z T.h,I Z T.y,A p n c] w) (fun i _=>j-(intOf i).toNat)
  case atStart=>exact c7.o
  case round =>
   obtain⟨i,hi,rfl,ih,c8⟩:=hrel;have k9:(0:Int)≤i:=by omega
   obtain⟨gD,Q⟩:=zz2 ih c8;obtain⟨m0,m1,m2,m3,m4,m5⟩:=cQ ih.2.m;clear ih c8
   by_cases bc:i<j
   ·have c9:(i:Int)<j:=by omega
    obtain⟨R,hR⟩:∃R,rs[i]?=Y R:=⟨_,ES (by rw[bB.o];exact bc)⟩;have cb:=Rd.f (fun b (a:b<w.heap.size∧b≠M) o ho=>(gD.o.1.u b a.1 a.2).trans ho) HS.o.K;obtain⟨bR,oR,po,vs,c6,_,_,_,_,gE,da⟩:=Rd.tS cb hR;rw[bB.o]at c6;injection c6 with f1 _ f3
    subst f1;subst f3;obtain⟨_,_,_,sc,sa,rfl,_,_⟩:=gY.1 gE;have z0:wr.cell? ⟨bR,oR+i*5,U⟩=Y (J R.a):=da 0 _ V;have dc:(rs.take (i+1)).map an.a=(rs.take i).map an.a++[R.a]:=by rw[take_snoc hR,List.map_append];rfl
    have gF:=Hd dc;obtain⟨b0,b1,b2,b3,b4⟩:=cells5 Q.o;clear cb gE da hR dc
    go_wp2
    go_still_tail 14,(by kernel_rfl)
    change wpList _ _ _ _ _ wr.drew;obtain⟨w9,b5⟩:=zzx (wr.drew);have av:FK wr w9:=by rw[b5];exact (EP _ wr).drew
    rw[←b5];obtain⟨a1,dd⟩:=zz2 (gD.o.b (aD.f gD.o.2 av)) (aa av Q.o (EN.1 Q.o).1);have la:=Hd (fun dg=>dI a1.o.2 dg 210 4 T.f T.h T.y p n c);clear b5 av b0 b1 b2 b3 b4 z0 m0 m1 m2 m3 m4 m5;go_wp2_with fail
    refine (la.o _).mono ?_;rintro e ct ⟨rfl,f⟩;have lb:=Hd (bu f.1 dd.o (EN.1 dd.o).1 (fun e=>by omega));have cc:=a1.o.b f;rw[tK (by decide)]at cc;have S:Hid (nI M ts vars k vT (A (Y ⟨bR,oR,U⟩) j C) vV rs j fl T #[I O 4,J T.f,I Z T.h,I Z T.y,A p n c] w (I Z ((i+1:Nat):Int)) ct):=by
     refine⟨i+1,by omega,V,?_,lb.o⟩;rw[gF.o,uK];rw[Fb,Fb]at cc;exact cc
    clear f cc la;go_wp2_with fail
    refine⟨S.o,?_⟩;simp[intOf];omega
   ·have S:Hid (aD M ts vars k vT (A D j C) vV w (az fl ((rs.map an.a).any (fun y=>y.data.toList==T.f.data.toList)) 210 T.y) wr∧wr.heap[w.heap.size]?=Y (wq #[I O 4,J T.f,I Z T.h,I Z T.y,A p n c] 25 (0,0))):=by
     have H:rs.take i=rs:=Fg (by rw[bB.o];omega);have h2:=gD.o;rw[H]at h2;exact⟨h2,Q.o⟩
    have c9:¬(i:Int)<j:=by omega
    go_wp2_with fail
    go_meet
    case rel=>exact S.o
 case rest =>
 generalize wc=wa at *;obtain⟨dp,hD⟩:=hcut;obtain⟨b6,ds⟩:=zzy (az fl ((rs.map an.a).any (fun y=>y.data.toList==T.f.data.toList)) 210 T.y);have hG:=Hd ds;rw[ds]at dp;obtain⟨gH,gL⟩:=zz2 dp hD;clear dp hD ds c7;have dv:Hid (ly Ts n wa (I Z 0) (I Z 0) wa):=⟨0,Fa _,V,V,EP _ _⟩
 go_upto_block 2 with fail
 go_cut [5] from 5 to 48 (fun v W=>v=I Z (((Ts.filter aO).length:Nat):Int)∧FK wa W)
 case first =>
  go_wp2_with fail
  go_loopw [5,6] (ly Ts n wa) (fun _ i _=>n-(intOf i).toNat)
  case atStart=>exact dv.o
  case round =>
   obtain⟨i,hi,rfl,rfl,iv⟩:=hrel;have k9:(0:Int)≤i:=by omega
   have gM:=Hd iv;have b7:=aa iv gL.o (EN.1 gL.o).1;obtain⟨b0,b1,b2,b3,b4⟩:=cells5 b7;have Q:=Hd b7;have ea:((Ts.take i).filter aO).length≤10000:=by
    have H:=List.length_filter_le aO (Ts.take i);have h2:(Ts.take i).length≤n:=by rw[List.length_take,HN.o];omega
    omega
   obtain⟨q,hq⟩:=zzy (((Ts.take i).filter aO).length);have HQ:=Hd hq;rw[hq]at ea ⊢;have p1:(0:Int)≤q:=by omega
   clear iv b7 hq
   by_cases bc:i<n
   ·have c9:(i:Int)<n:=by omega
    obtain⟨K,hT⟩:∃K,Ts[i]?=Y K:=⟨_,ES (by rw[HN.o];exact bc)⟩;have ba:=(k7.o.z (eI gH.o.1 k1 oe)).z (gM.o.mono (by have:=gH.o.1.h;omega));rcases ba with ⟨rfl,_⟩|⟨b,off,cap,H,h2,h3,h4,he,h6⟩
    ·simp at hT
    rw[HN.o]at he;injection he with e1 _ e3
    subst e1;subst e3;obtain⟨eb,s,c0,c1,c2,c3,c4,ar⟩:=h6 i K hT;obtain⟨ps,cs,rfl⟩:=ar.f;have HC:=Hd (yL K ps K.u.length cs wr);have dc:(Ts.take (i+1)).filter aO=(Ts.take i).filter aO++(if aO K then [K] else []):=by
     rw[take_snoc hT,List.filter_append]
     cases a:aO K<;>simp[a]
    have gF:=Hd dc;clear eb ar h6 H h2 h3 h4 hT dc;go_wp2_with fail
    refine HC.o.mono ?_;rintro e w2 ⟨rfl,ld⟩;have lf:=Hd (gM.o.trans (ld.mono gM.o.size));clear ld HC c0 c1 c2 c3 c4 b0 b1 b2 b3 b4
    cases gN:aO K with
    | true =>
     have S:Hid (ly Ts n wa (I Z ((q:Int)+1)) (I Z ((i+1:Nat):Int)) w2):=by
      refine⟨i+1,by omega,V,?_,lf.o⟩;rw[gF.o,gN,Fc,HQ.o];rfl
     clear gN;go_wp2_with fail
     refine⟨S.o,?_⟩;simp[intOf];omega
    | false =>
     have S:Hid (ly Ts n wa (I Z (q:Int)) (I Z ((i+1:Nat):Int)) w2):=by
      refine⟨i+1,by omega,V,?_,lf.o⟩;rw[gF.o,gN,Fc,HQ.o];rfl
     clear gN;go_wp2_with fail
     refine⟨S.o,?_⟩;simp[intOf];omega
   ·have S:Hid ((I Z (q:Int):Value)=I Z (((Ts.filter aO).length:Nat):Int)∧FK wa wr):=by
     have H:Ts.take i=Ts:=Fg (by rw[HN.o];omega);have h2:=HQ.o;rw[H]at h2;exact⟨by rw[h2],gM.o⟩
    have c9:¬(i:Int)<n:=by omega
    go_wp2_with fail
    go_meet
    case rel=>exact S.o
 case rest =>
 generalize wc=wb at *;obtain⟨rfl,ix⟩:=hcut;obtain⟨P,gO⟩:∃P:Nat,(Ts.filter aO).length=P:=⟨_,rfl⟩;have p2:P≤n:=by rw[←gO,←HN.o];exact List.length_filter_le _ _
 obtain⟨ot,iA,gS⟩:=zz3 gO (gH.o.b (aD.f gH.o.2 ix)) (aa ix gL.o (EN.1 gL.o).1);rw[gO];have lg:(0:Int)≤P:=by omega
 have ox:(-9223372036854775808:Int)≤(n:Int)-P:=by omega
 have oA:(n:Int)-P<9223372036854775808:=by omega
 have gT:=Hd (fun (W:World) (hW:FK wb W) dg=>dI (iA.o.2.z hW) dg 2 4 T.f T.h T.y p n c);clear ix gO dv;go_upto_region 11 with fail
 go_cut [] from 49 to 59 (fun W=>aD M ts vars k vT (A D j C) vV wb (az b6 (xv (T.h < -1000)||decide (1000<T.h)) 2 T.y) W)
 case first =>
  obtain⟨b0,b1,b2,b3,b4⟩:=cells5 gS.o
  by_cases ec:T.h < -1000
  ·have a6:xv (T.h < -1000)=true:=decide_eq_true ec;have z:=Hd (gT.o wb (EP _ _) true);go_wp2_with fail
   refine z.o.mono ?_;rintro e X ⟨rfl,f⟩;have S:Hid (aD M ts vars k vT (A D j C) vV wb (az b6 (xv (T.h < -1000)||decide (1000<T.h)) 2 T.y) X):=by
    show aD _ _ _ _ _ _ _ _ _ _
    rw[a6];exact f
   clear f z b0 b1 b2 b3 b4;go_wp2_with fail
   go_meet
   case rel=>exact S.o
  ·have a6:xv (T.h < -1000)=false:=r6 ec
   by_cases ek:1000<T.h
   ·have bd:xv (1000<T.h)=true:=decide_eq_true ek;have z:=Hd (gT.o wb (EP _ _) true);go_wp2_with fail
    refine z.o.mono ?_;rintro e X ⟨rfl,f⟩;have S:Hid (aD M ts vars k vT (A D j C) vV wb (az b6 (xv (T.h < -1000)||decide (1000<T.h)) 2 T.y) X):=by
     show aD _ _ _ _ _ _ _ _ _ _
     rw[a6,bd];exact f
    clear f z b0 b1 b2 b3 b4;go_wp2_with fail
    go_meet
    case rel=>exact S.o
   ·have bd:xv (1000<T.h)=false:=r6 ek;have z:=Hd (gT.o wb (EP _ _) false);go_wp2_with fail
    refine z.o.mono ?_;rintro e X ⟨rfl,f⟩;have S:Hid (aD M ts vars k vT (A D j C) vV wb (az b6 (xv (T.h < -1000)||decide (1000<T.h)) 2 T.y) X):=by
     show aD _ _ _ _ _ _ _ _ _ _
     rw[a6,bd];exact f
    clear f z b0 b1 b2 b3 b4;go_wp2_with fail
    go_meet
    case rel=>exact S.o
 case rest =>
 generalize wc=wd at *;obtain⟨bk,el⟩:=zzy (az b6 (xv (T.h < -1000)||decide (1000<T.h)) 2 T.y);have hI:=Hd el;rw[el]at hcut;obtain⟨bl,Q⟩:=zz2 (iA.o.b hcut) (bu hcut.1 gS.o (EN.1 gS.o).1 (fun e=>by omega));have en:=Hd (fun (W:World) (hW:FK wd W) dg=>dI (bl.o.2.z hW) dg 204 4 T.f T.h T.y p n c);clear hcut el gT iA gS;go_upto_region 12 with fail
 go_cut [] from 60 to 81 (fun W=>aD M ts vars k vT (A D j C) vV wd (az bk (xv ((64:Int)≤j)||decide ((8:Int)<P)||decide ((8:Int)<(n:Int)-P)) 204 T.y) W)
 case first =>
  obtain⟨b0,b1,b2,b3,b4⟩:=cells5 Q.o;obtain⟨m0,m1,m2,m3,m4,m5⟩:=cQ bl.o.2.m;have E0:=fun x:Wb wd=>x.b b0
  have E1:=fun x:Wb wd=>x.b b1
  have E2:=fun x:Wb wd=>x.b b2
  have E3:=fun x:Wb wd=>x.b b3
  have E4:=fun x:Wb wd=>x.b b4
  have M1:=fun x:Wb wd=>x.b m1
  clear b0 b1 b2 b3 b4 m0 m1 m2 m3 m4 m5
  by_cases ec:(64:Int)≤j
  ·have a6:xv ((64:Int)≤j)=true:=decide_eq_true ec;refine RE.u (by kernel_rfl) 21 [] [] (fun _ W=>∃x:Wb wd,W=x.1) (fun W W'=>FK W W') (fun _ _=>At) (fun _ _ _=>True) (by kernel_rfl) (fun _ _ _ _ _ _ h a=>bC h a) (fun _ _ _ _ _ _ _=>trivial) ⟨⟨wd.drew,(EP _ _).drew⟩,V⟩ ?_;simp only[EY,Fi,EZ,Fh]
   repeat (refine RE.b (fun W=>∃x:Wb wd,W=x.1) (fun _ _ _ h=>h) V V V ⟨⟨wd.drew,(EP _ _).drew⟩,V⟩ ?_;go_big_quiet_step (fail);refine Bk ?_)
   refine RE.h ?_;intro W hS hE;obtain⟨x,rfl⟩:=hS;obtain⟨z,a1⟩:=zz2 (en.o x.1 x.2 true) (aD.f bl.o.2 x.2);clear hE E0 E1 E2 E3 E4 M1;go_wp2_with fail
   refine z.o.mono ?_;rintro e X ⟨rfl,f⟩;have S:Hid (aD M ts vars k vT (A D j C) vV wd (az bk (xv ((64:Int)≤j)||decide ((8:Int)<P)||decide ((8:Int)<(n:Int)-P)) 204 T.y) X):=by
    show aD _ _ _ _ _ _ _ _ _ _
    rw[a6];exact a1.o.b f
   clear f z;go_wp2_with fail
   go_meet
   case rel=>exact S.o
  ·have a6:xv ((64:Int)≤j)=false:=r6 ec
   by_cases ek:(8:Int)<P
   ·have bd:xv ((8:Int)<P)=true:=decide_eq_true ek;refine RE.u (by kernel_rfl) 21 [] [] (fun _ W=>∃x:Wb wd,W=x.1) (fun W W'=>FK W W') (fun _ _=>At) (fun _ _ _=>True) (by kernel_rfl) (fun _ _ _ _ _ _ h a=>bC h a) (fun _ _ _ _ _ _ _=>trivial) ⟨⟨wd.drew,(EP _ _).drew⟩,V⟩ ?_;simp only[EY,Fi,EZ,Fh]
    repeat (refine RE.b (fun W=>∃x:Wb wd,W=x.1) (fun _ _ _ h=>h) V V V ⟨⟨wd.drew,(EP _ _).drew⟩,V⟩ ?_;go_big_quiet_step (fail);refine Bk ?_)
    refine RE.h ?_;intro W hS hE;obtain⟨x,rfl⟩:=hS;obtain⟨z,a1⟩:=zz2 (en.o x.1 x.2 true) (aD.f bl.o.2 x.2);clear hE E0 E1 E2 E3 E4 M1;go_wp2_with fail
    refine z.o.mono ?_;rintro e X ⟨rfl,f⟩;have S:Hid (aD M ts vars k vT (A D j C) vV wd (az bk (xv ((64:Int)≤j)||decide ((8:Int)<P)||decide ((8:Int)<(n:Int)-P)) 204 T.y) X):=by
     show aD _ _ _ _ _ _ _ _ _ _
     rw[a6,bd];exact a1.o.b f
    clear f z;go_wp2_with fail
    go_meet
    case rel=>exact S.o
   ·have bd:xv ((8:Int)<P)=false:=r6 ek
    by_cases lo:(8:Int)<(n:Int)-P
    ·have iB:xv ((8:Int)<(n:Int)-P)=true:=decide_eq_true lo;refine RE.u (by kernel_rfl) 21 [] [] (fun _ W=>∃x:Wb wd,W=x.1) (fun W W'=>FK W W') (fun _ _=>At) (fun _ _ _=>True) (by kernel_rfl) (fun _ _ _ _ _ _ h a=>bC h a) (fun _ _ _ _ _ _ _=>trivial) ⟨⟨wd.drew,(EP _ _).drew⟩,V⟩ ?_;simp only[EY,Fi,EZ,Fh]
     repeat (refine RE.b (fun W=>∃x:Wb wd,W=x.1) (fun _ _ _ h=>h) V V V ⟨⟨wd.drew,(EP _ _).drew⟩,V⟩ ?_;go_big_quiet_step (fail);refine Bk ?_)
     refine RE.h ?_;intro W hS hE;obtain⟨x,rfl⟩:=hS;obtain⟨z,a1⟩:=zz2 (en.o x.1 x.2 true) (aD.f bl.o.2 x.2);clear hE E0 E1 E2 E3 E4 M1;go_wp2_with fail
     refine z.o.mono ?_;rintro e X ⟨rfl,f⟩;have S:Hid (aD M ts vars k vT (A D j C) vV wd (az bk (xv ((64:Int)≤j)||decide ((8:Int)<P)||decide ((8:Int)<(n:Int)-P)) 204 T.y) X):=by
      show aD _ _ _ _ _ _ _ _ _ _
      rw[a6,bd,iB];exact a1.o.b f
     clear f z;go_wp2_with fail
     go_meet
     case rel=>exact S.o
    ·have iB:xv ((8:Int)<(n:Int)-P)=false:=r6 lo;refine RE.u (by kernel_rfl) 21 [] [] (fun _ W=>∃x:Wb wd,W=x.1) (fun W W'=>FK W W') (fun _ _=>At) (fun _ _ _=>True) (by kernel_rfl) (fun _ _ _ _ _ _ h a=>bC h a) (fun _ _ _ _ _ _ _=>trivial) ⟨⟨wd.drew,(EP _ _).drew⟩,V⟩ ?_;simp only[EY,Fi,EZ,Fh]
     repeat (refine RE.b (fun W=>∃x:Wb wd,W=x.1) (fun _ _ _ h=>h) V V V ⟨⟨wd.drew,(EP _ _).drew⟩,V⟩ ?_;go_big_quiet_step (fail);refine Bk ?_)
     refine RE.h ?_;intro W hS hE;obtain⟨x,rfl⟩:=hS;obtain⟨z,a1⟩:=zz2 (en.o x.1 x.2 false) (aD.f bl.o.2 x.2);clear hE E0 E1 E2 E3 E4 M1;go_wp2_with fail
     refine z.o.mono ?_;rintro e X ⟨rfl,f⟩;have S:Hid (aD M ts vars k vT (A D j C) vV wd (az bk (xv ((64:Int)≤j)||decide ((8:Int)<P)||decide ((8:Int)<(n:Int)-P)) 204 T.y) X):=by
      show aD _ _ _ _ _ _ _ _ _ _
      rw[a6,bd,iB];exact a1.o.b f
     clear f z;go_wp2_with fail
     go_meet
     case rel=>exact S.o
 case rest =>
 generalize wc=we at *;obtain⟨ak,eo⟩:=zzy (az bk (xv ((64:Int)≤j)||decide ((8:Int)<P)||decide ((8:Int)<(n:Int)-P)) 204 T.y);have l0:Hid (az (az (az fl ((rs.map an.a).any (fun y=>y.data.toList==T.f.data.toList)) 210 T.y) (xv (T.h < -1000)||decide (1000<T.h)) 2 T.y) (xv (64≤rs.length)||decide (8<dn T.u)||decide (8<T.u.length-dn T.u)) 204 T.y=ak):=by
  show _=_
  rw[hG.o,hI.o,←eo,bB.o,←k4.o,k3.o,ot.o,HN.o]
  congr 1
  rw[show xv ((64:Int)≤j)=xv (64≤j) from tf.2 (by omega),show xv ((8:Int)<P)=xv (8<P) from tf.2 (by omega),show xv ((8:Int)<(n:Int)-P)=xv (8<n-P) from tf.2 (by omega)]
 rw[eo]at hcut;obtain⟨l1,l2⟩:=zz2 (bl.o.b hcut) (bu hcut.1 Q.o (EN.1 Q.o).1 (fun e=>by omega));clear hcut eo en bl Q hG hI ox oA lg;have ha:=l1.o.2.m;obtain⟨m0,m1,m2,m3,m4,m5⟩:=cQ ha;have fM:=aE ha;obtain⟨u,hc⟩:=zzx ((we.setCell ⟨M,2,U⟩ (A U 0 0)).setCell ⟨M,3,U⟩ (I Z 0));have iX:Chg (fun b=>b=M) we u:=by rw[hc];exact Chg.y (F:=fun b=>b=M) (p:=⟨M,3,U⟩) (Chg.y (F:=fun b=>b=M) (p:=⟨M,2,U⟩) (Chg.refl _ _) (z6 V) _) (z6 V) _
 have l3:u.heap[M]?=Y (wq #[vT,A D j C,A U 0 0,I Z 0,I Z ak.1,I Z ak.2] 83 (0,0)):=by rw[hc];exact heap_set (heap_set ha 2 _) 3 _
 obtain⟨hd,l4,oB,ma⟩:=zz4 (bu iX l2.o (EN.1 l2.o).1 (fun e=>by omega)) (l1.o.1.b iX) l3 hc;clear iX l3 hc ha;go_upto_region 15 with fail
 change Code.wp _ _ _ _ ((we.setCell ⟨M,2,U⟩ (A U 0 0)).setCell ⟨M,3,U⟩ (I Z 0));rw[←ma.o];clear ma m0 m1 m2 m3 m4 m5 fM;obtain⟨b0,b1,b2,b3,b4⟩:=cells5 hd.o;obtain⟨r,bn⟩:=zzx (u.alloc (wq #[J T.f,I Z T.h,I Z 0,A U 0 0,A U 0 0] 50));have ch:FK u r:=by rw[bn];exact (EP _ u).alloc (EO _) _
 have ep:=p9 u (wq #[J T.f,I Z T.h,I Z 0,A U 0 0,A U 0 0] 50);rw[←bn]at ep;have ck:r.heap.size=u.heap.size+1:=by rw[bn,r9]
 have p3:=l4.o.h;obtain⟨mc,aq,mn,pr⟩:=zz4 ep (l4.o.b (Chg.f ch)) (aa ch hd.o (EN.1 hd.o).1) ck;have ad:Hid (St2 64 70 (bf d) (bA d) M r.heap.size DT ts [] 0 ak vT (A D j C) (A U 0 0) [] (A U 0 0) [] (A U 0 0) (fun _=>False) r):=
  ⟨(ch.block M (by omega)).trans oB.o,Rd.f (fun b a o ho=>(aq.o.u b (HS.o.dt b a).1 (HS.o.dt b a).2.1).trans ho) HS.o.t,fun b a=>⟨by have:=(HS.o.dt b a).1;omega,(HS.o.dt b a).2.1⟩,Rd.vn,aH.nil,aH.nil,fun _ h=>h.elim,(fun _ h=>by cases h),(fun _ h=>by cases h),by omega,EO _⟩
 have er:Hid (nZ d M r.heap.size DT ts vT (A D j C) T Ts n u.heap.size w.heap.size ak #[I O 4,J T.f,I Z T.h,I Z T.y,A p n c] r (I Z 0) r):=
  ⟨0,ak,⟨[],[],[]⟩,0,_,_,_,_,Fa _,V,Chg.refl _ _,mc.o,mn.o,ad.o,V,Fa _,(fun _=>Fa _),Fa _,Fa _,fO V V⟩
 have hJ:=Hd bn;have et:Hid (M<u.heap.size∧u.heap.size+1≤r.heap.size∧r.heap.size≤u.heap.size+1∧w.heap.size<u.heap.size):=⟨by omega,by omega,by omega,(EN.1 hd.o).1⟩;clear bn ch ep ck;go_upto_region 16 with fail
 change Code.wp _ _ _ _ (u.alloc (wq #[J T.f,I Z T.h,I Z 0,A U 0 0,A U 0 0] 50));rw[←hJ.o];clear hJ b0 b1 b2 b3 b4
 go_upto_block 4 with fail
 go_cut [] from 8 to 115 (fun W=>su d M r.heap.size DT ts vT (A D j C) T Ts n u.heap.size ak r W)
 case first =>
  go_wp2_with fail
  go_loopw [8] (nZ d M r.heap.size DT ts vT (A D j C) T Ts n u.heap.size w.heap.size ak #[I O 4,J T.f,I Z T.h,I Z T.y,A p n c] r) (fun i _=>n-(intOf i).toNat)
  case atStart=>exact er.o
  case round =>
   generalize wr=wp at *;obtain⟨i,i1,s,k5,jj,oE,oF,D5,hi,rfl,bb,bq,b7,al,mu,hj,mv,ea,jo,ev⟩:=hrel;have k9:(0:Int)≤i:=by omega
   obtain⟨fe,fp⟩:=i1;obtain⟨pC,cC,e5⟩:=al.x.b;obtain⟨pA,cA,e6⟩:=al.y.b;obtain⟨nC,cu⟩:=zzy (s.c.length);obtain⟨nA,cv⟩:=zzy (s.d.length);rw[cu]at e5 ea;rw[cv]at e6 jo;subst e5;subst e6;have hm:=al.m;dsimp only at hm;obtain⟨m0,m1,m2,m3,m4,m5⟩:=cQ hm;obtain⟨b0,b1,b2,b3,b4⟩:=cells5 b7;obtain⟨y0,y1,y2,y3,y4⟩:=cells5 bq;obtain⟨hl,jv,Q,hK,oT,na,oX⟩:=zz7 bb bq b7 al mu hj mv;obtain⟨hp,j2,kf⟩:=zz3 ev cu cv;have hL:Hid ((fe≠0∨n≤i)→su d M r.heap.size DT ts vT (A D j C) T Ts n u.heap.size ak r wp):=fun hh =>⟨(fe,fp),s,k5,jj,_,_,D5,hl.o,jv.o,hK.o,na.o,by rw[j2.o];omega,by rw[kf.o];omega,iY hp.o (by rw[HN.o];exact hh)⟩
   clear bb bq b7 al mu hj mv ev hm cu cv
   by_cases bc:i<n
   ·have c9:(i:Int)<n:=by omega
    by_cases nb:fe=0
    ·subst nb;obtain⟨K,hT⟩:∃K,Ts[i]?=Y K:=⟨_,ES (by rw[HN.o];exact bc)⟩;have nc:Below B w wp:=by
      have H:=aq.o;have h2:=hl.o;exact⟨h2.os.trans H.os,h2.a.trans H.a,h2.c.trans H.c,EU H.h h2.h,fun b a=>(h2.u b (by have:=H.h;obtain⟨cx,cT,cW,c5⟩:=et.o;omega) (by obtain⟨cx,cT,cW,c5⟩:=et.o;rintro (e|e|e)<;>omega)).trans (H.u b (by omega) (by omega))⟩
     have ba:=k7.o.z nc;rcases ba with ⟨rfl,_⟩|⟨b,off,cap,H,h2,h3,h4,he,h6⟩
     ·simp at hT
     rw[HN.o]at he;injection he with e1 _ e3
     subst e1;subst e3;obtain⟨eb,sk,c0,c1,c2,c3,c4,ar⟩:=h6 i K hT;obtain⟨ps,cs,rfl⟩:=ar.f;obtain⟨nd,kk,ng⟩:=oi.o K (Fj hT);obtain⟨o1,o2,o3,o4,o5⟩:=zz5 hT ar kk ng nd;clear eb ar h6 H h2 h3 h4 hT kk ng nd nc
     go_wp2
     go_still_tail 7,(by kernel_rfl)
     change wpList _ _ _ _ _ wp.drew;obtain⟨w9,b5⟩:=zzx (wp.drew);have av:FK wp w9:=by rw[b5];exact (EP _ wp).drew
     rw[←b5];have kk:=hl.o.h;obtain⟨cx,cT,cW,c5⟩:=et.o;obtain⟨nk,nn,nr,dd⟩:=zz4 av (yK d M r.heap.size B DT ts s k5 (0,fp) vT (A D j C) jj (A pC nC cC) (A pA nA cA) D5 T.f T.h 0 K (A ps K.u.length cs) w9 (hK.o.z av) (by rw[j2.o];omega) (by rw[kf.o];omega) ⟨na.o,fun _=>oX.o trivial⟩ oT.o o5.o k1 (o2.o.z (av.mono (by omega))) o3.o o4.o) (aa av jv.o (EN.1 jv.o).1) (aa av Q.o (EN.1 Q.o).1);clear cx cT cW c5 b5 av b0 b1 b2 b3 b4 y0 y1 y2 y3 y4 c0 c1 c2 c3 c4 m0 m1 m2 m3 m4 m5;go_wp2_with fail
     refine nn.o.mono ?_;rintro e ct ⟨o6,s6,k6,o7,p4,p5,D6,rfl,L,cl,hM,hN,hO,nt,nu,hP⟩;obtain⟨hr,hs,nx⟩:=cl.x.b;obtain⟨ht,hv,nT⟩:=cl.y.b;subst nx;subst nT;rw[j2.o]at nt;rw[kf.o]at nu;have pt:=L.h;obtain⟨cx,cT,cW,c5⟩:=et.o;have cq:=(L.u u.heap.size (EN.1 nr.o).1 (by rintro (e|e)<;>omega)).trans nr.o
     have hQ:=(L.u w.heap.size (EN.1 dd.o).1 (by rintro (e|e)<;>omega)).trans dd.o
     have p6:=nk.o.size;have hX:=fX cq (J T.f) (I Z T.h) (I Z 0) (A hr s6.c.length hs) (A ht s6.d.length hv);have hY:Chg (fun b=>b=M∨b=u.heap.size∨r.heap.size≤b) r (st5 ct u.heap.size (J T.f) (I Z T.h) (I Z 0) (A hr s6.c.length hs) (A ht s6.d.length hv)):=by
      have H:Chg (fun b=>b=M∨b=u.heap.size∨r.heap.size≤b) w9 ct:=⟨L.os,L.a,L.c,L.h,fun b a hf=>L.u b a (fun e=>hf (by rcases e with e|e;exact z6 e;exact z7 (z7 e)))⟩
      exact ((hl.o.b (Chg.f nk.o)).b H).b (fK _ _ (z7 (z6 V)) _ _ _ _ _)
     have e7:=cl.low (W':=st5 ct u.heap.size (J T.f) (I Z T.h) (I Z 0) (A hr s6.c.length hs) (A ht s6.d.length hv)) u.heap.size (by omega) (by omega) (fun e=>by have:=(HS.o.dt _ e).1;omega) (by rw[gJ];exact EO _) (fun b _ e8=>eh _ _ _ _ _ b e8);have S:Hid (nZ d M r.heap.size DT ts vT (A D j C) T Ts n u.heap.size w.heap.size ak #[I O 4,J T.f,I Z T.h,I Z T.y,A (Y ⟨b,off,U⟩) n c] r (I Z ((i+1:Nat):Int)) (st5 ct u.heap.size (J T.f) (I Z T.h) (I Z 0) (A hr s6.c.length hs) (A ht s6.d.length hv))):=
      ⟨i+1,o6,s6,k6,o7,_,_,D6,by omega,V,hY,hX,(eh _ _ _ _ _ _ (by omega)).trans hQ,e7,hM,hN,hO,by omega,by omega,iy (mQ d ts) o1.o hp.o hP⟩
     obtain⟨y0,y1,y2,y3,y4⟩:=cells5 cq;have fz:=aE cq;clear cx cT cW c5 L cl hM hN hO nt nu hP cq hQ hX hY e7 nn;go_wp2_with fail
     refine⟨S.o,?_⟩;simp[intOf];omega
    ·have HX:=Hd (hL.o (z6 nb));go_wp2_with fail
     go_meet
     case rel=>exact HX.o
   ·have HX:=Hd (hL.o (z7 (by omega)));have c9:¬(i:Int)<n:=by omega
    go_wp2_with fail
    go_meet
    case rel=>exact HX.o
 case rest =>
 generalize wc=wf at *;obtain⟨i1,s,k5,jj,oE,oF,D5,bb,bq,al,hj,ea,jo,ev⟩:=hcut;obtain⟨pC,cC,e5⟩:=al.x.b;obtain⟨pA,cA,e6⟩:=al.y.b;obtain⟨pV,cV,n0⟩:=Rd.b al.vv;obtain⟨nC,cu⟩:=zzy (s.c.length);obtain⟨nA,cv⟩:=zzy (s.d.length);obtain⟨nv,kn⟩:=zzy (s.b.length);rw[cu]at e5 ea;rw[cv]at e6 jo;rw[kn]at n0 hj;subst e5;subst e6;subst n0;obtain⟨o8,hp⟩:=zz2 kn ev;have pv:(0:Int)≤nv:=by omega
 obtain⟨cx,cT,cW,c5⟩:=et.o;have pa:=bb.h;have ck:=aq.o.h;have n1:Chg (fun b=>b=M) w wf:=⟨bb.os.trans aq.o.os,bb.a.trans aq.o.a,bb.c.trans aq.o.c,EU ck pa,fun b a e8=>(bb.u b (by omega) (by rintro (e|e|e)<;>omega)).trans (aq.o.u b a e8)⟩
 obtain⟨l,e9⟩:=zzx (wf.setCell ⟨u.heap.size,2,U⟩ (I Z (nv:Int)));have br:=heap_set bq 2 (I Z (nv:Int));have b8:=al.low (W':=wf.setCell ⟨u.heap.size,2,U⟩ (I Z (nv:Int))) u.heap.size (by omega) (by omega) (fun e=>by have:=(HS.o.dt _ e).1;omega) (by simp[World.setCell]) (fun b _ e8=>ER wf ⟨u.heap.size,2,U⟩ _ b e8);have fm:Chg (fun b=>b=M) w (wf.setCell ⟨u.heap.size,2,U⟩ (I Z (nv:Int))):=Chg.y (p:=⟨u.heap.size,2,U⟩) n1 (z7 (by show w.heap.size≤u.heap.size;omega)) _;rw[←e9]at br b8 fm;have br:l.heap[u.heap.size]?=Y (wq #[J T.f,I Z T.h,I Z (nv:Int),A pC nC cC,A pA nA cA] 50 (0,0)):=br;obtain⟨h0,ad,af,h5⟩:=zz4 br b8 fm e9;have hm:=al.m;obtain⟨m0,m1,m2,m3,m4,m5⟩:=cQ hm;obtain⟨y0,y1,y2,y3,y4⟩:=cells5 bq;have fz:=aE bq;clear br b8 fm e9 bb al ev cu cv kn hm bq n1 er;go_upto_region 21 with fail
 change Code.wp _ _ _ _ (wf.setCell ⟨u.heap.size,2,U⟩ (I Z (nv:Int)));rw[←h5.o];clear h5 fz y0 y1 y2 y3 y4 m0 m1 m2 m3 m4 m5;have cb:aH l FR 50 (bX d) rs (A D j C):=HS.o.x.C (fun g hg=>af.o.u g (HS.o.x.lt hg) (fun e=>HS.o.own (e ▸ hg))) (fun b a o ho=>(af.o.u b (HS.o.fr b a).1 (HS.o.fr b a).2.1).trans ho) (fun _ h=>h);obtain⟨us,bt,h7⟩:=cb;rw[bB.o]at bt;have bt:l.ownsRow 0 50 5 (A D j C) j us:=bt;obtain⟨n3,pb⟩:=zz2 bt h7;have n5:l.cell? ⟨M,1,U⟩=Y (A D j C):=by rw[FI _ _ _ _ _ _ ad.o.m];rfl
 have px:=af.o.h;have ks:=Hd (fun g (hg:(A D j C).ownBlock=Y g)=>HS.o.x.lt hg);have kv:=Hd HS.o.own;have n7:∀b,(b=M∨b=u.heap.size)→b<l.heap.size∧(A D j C).ownBlock≠Y b:=fun b a=>by
  rcases a with rfl|rfl
  ·exact⟨by omega,kv.o⟩
  ·exact⟨(EN.1 h0.o).1,fun e=>by have:=ks.o _ e;omega⟩
 have fv:=Hd (gl (E:=50) (sz:=5) (row:=us++[J T.f,I Z T.h,I Z (nv:Int),A pC nC cC,A pA nA cA]) (K:=fun b=>b=M∨b=u.heap.size) n7);obtain⟨e0,e1,e2,e3,e4⟩:=cells5 h0.o;have E0:=fun x:Ks l (fun b=>b=M∨b=u.heap.size)=>x.b (z7 V) e0
 have E1:=fun x:Ks l (fun b=>b=M∨b=u.heap.size)=>x.b (z7 V) e1
 have E2:=fun x:Ks l (fun b=>b=M∨b=u.heap.size)=>x.b (z7 V) e2
 have E3:=fun x:Ks l (fun b=>b=M∨b=u.heap.size)=>x.b (z7 V) e3
 have E4:=fun x:Ks l (fun b=>b=M∨b=u.heap.size)=>x.b (z7 V) e4
 have M1:=fun x:Ks l (fun b=>b=M∨b=u.heap.size)=>x.b (z6 V) n5
 clear bt h7 n5 n7 e0 e1 e2 e3 e4;refine RE.u (by kernel_rfl) 12 [7,8] [8] (stA 50 5 l D j C (us++[J T.f,I Z T.h,I Z (nv:Int),A pC nC cC,A pA nA cA])) (ApR l) (fun _ ys=>ys.getD 0 At) (phA 50 5 l D j C [J T.f,I Z T.h,I Z (nv:Int),A pC nC cC,A pA nA cA] (us++[J T.f,I Z T.h,I Z (nv:Int),A pC nC cC,A pA nA cA]) 7 8) (by kernel_rfl) (fun _ _ _ _ _ _ h a=>h.z a) (fun _ _ _ _ h _ hR=>h.C hR) stA.zero ?_;simp only[EY,Fi,EZ,Fh]
 repeat (refine RE.b (fun W=>∃x:Ks l (fun b=>b=M∨b=u.heap.size),W=x.1) (fv.o _) V V V stA.zero ?_;go_big_quiet_step (fail);refine Bk ?_)
 refine RE.f V V ?_ (fun pc=>?_)
 ·intro W hC hS hE;obtain⟨s9,_,h9⟩:=hC;exact cB mb (vs:=[J T.f,I Z T.h,I Z (nv:Int),A pC nC cC,A pA nA cA]) _ V V V h9.h (fun v W' a ho=>⟨[v],V,a,ApR.f a,ho⟩)
 simp only[Act.put,EQ,EW,EV];refine RE.f V V ?_ (fun n8=>?_)
 ·intro W hC hS hE;obtain⟨x,rfl⟩:∃x:Wb l,W=x.1:=hS V;exact eC mb (p:=D) (n:=j) (c:=C) (w4:=l) (vs:=[J T.f,I Z T.h,I Z (nv:Int),A pC nC cC,A pA nA cA]) (xs:=us) _ _ V V (hE 7 pc (by kernel_rfl) V) V (by simp[Value.oneCell']) x.2 n3.o (by omega) (fun v' W' H h2 h3=>⟨[v'],V,H,h2,h3⟩)
 simp only[Act.put,EQ,EW,EV]
 repeat (refine RE.b (fun W=>∃x:Ks l (fun b=>b=M∨b=u.heap.size),W=x.1) (fv.o _) V V V stA.zero ?_;go_big_quiet_step (fail);refine Bk ?_)
 refine RE.h ?_;intro W hS hE;have hS:ApS 50 5 l D j C (us++[J T.f,I Z T.h,I Z (nv:Int),A pC nC cC,A pA nA cA]) W:=hS;have hV:ApV 50 5 l D j C (us++[J T.f,I Z T.h,I Z (nv:Int),A pC nC cC,A pA nA cA]) W (n8.getD 0 At):=hE 8 n8 V;obtain⟨g',cap,eg,hg,hC,b9⟩:=eZ hS hV;rw[eg];have p7:=hC.h;have hx:W.heap[M]?=_:=(hC.u M (by omega) kv.o).trans ad.o.m;have S:Hid (pE d M ts vT (A D j C) j FR DT fl (cG d ts rs T) w (Ending.returned (Value.tuple #[])) (W.setCell ⟨M,1,U⟩ (A (Y ⟨g',0,U⟩) (j+1) cap))):=by
  have hy:Chg (fun b=>b=M) W (W.setCell ⟨M,1,U⟩ (A (Y ⟨g',0,U⟩) (j+1) cap)):=Chg.y (F:=fun b=>b=M) (p:=⟨M,1,U⟩) (Chg.refl _ _) (z6 V) _;have p8:=hy.h;have pe:g'≠M:=fun e=>by
   rcases hg with h|h
   ·exact kv.o (e ▸ h)
   ·omega
  have ca:∀b,(A D j C).ownBlock≠Y b→b<l.heap.size→(A (Y ⟨g',0,U⟩) (j+1) cap).ownBlock≠Y b:=fun b H h2 e=>by
   injection e with e
   have e:g'=b:=e;subst e;rcases hg with h|h
   ·exact H h
   ·omega
  have kp:∀b,b<l.heap.size→(A D j C).ownBlock≠Y b→b≠M→(W.setCell ⟨M,1,U⟩ (A (Y ⟨g',0,U⟩) (j+1) cap)).heap[b]?=l.heap[b]?:=fun b H h2 h3=>(hy.u b (by omega) h3).trans (hC.u b H h2)
  have N:∀b,D5 b→b<l.heap.size∧(A D j C).ownBlock≠Y b∧b≠M∧w.heap.size≤b:=fun b a=>by
   obtain⟨H,h2,_⟩:=ad.o.d b a;exact⟨h2,fun e=>by have:=ks.o _ e;omega,by omega,by omega⟩
  have gE:(bX d).at_ l (fun b=>FR b∨(w.heap.size≤b∧b<l.heap.size)) ⟨T.f,T.h,(nv:Int),s.c,s.d⟩ [J T.f,I Z T.h,I Z (nv:Int),A pC nC cC,A pA nA cA]:=
   gY.2 ⟨by have:=oq.o;show T.f.size≤maxLen;unfold maxLen;omega,⟨by show (_:Int)≤T.h;omega,by show T.h<(_:Int);omega⟩,⟨by show (_:Int)≤(nv:Int);omega,by show (nv:Int)<(_:Int);omega⟩,_,_,V,
    ad.o.x.K (fun b a=>z7 ⟨(N b a).2.2.2,(N b a).1⟩) (fun g hg=>z7 ⟨by have:=ad.o.xl g hg;omega,ad.o.x.lt hg⟩),
    ad.o.y.K (fun b a=>z7 ⟨(N b a).2.2.2,(N b a).1⟩) (fun g hg=>z7 ⟨by have:=ad.o.yl g hg;omega,ad.o.y.lt hg⟩)⟩
  have cr:∀b,(FR b∨(w.heap.size≤b∧b<l.heap.size))→b<l.heap.size∧(A D j C).ownBlock≠Y b∧b≠M:=fun b a=>by
   rcases a with a|a
   ·have H:=HS.o.fr b a;exact⟨by have:=H.1;omega,H.2.2,H.2.1⟩
   ·exact⟨a.2,fun e=>by have:=ks.o _ e;have:=a.1;omega,fun e=>by have:=a.1;omega⟩
  have hz:=Rd.vk (w':=W.setCell ⟨M,1,U⟩ (A (Y ⟨g',0,U⟩) (j+1) cap)) (fun b a o ho=>(kp b (cr b a).1 (cr b a).2.1 (cr b a).2.2).trans ho) (Rd.wg (Rd.wj (G:=fun b=>FR b∨(w.heap.size≤b∧b<l.heap.size)) (fun b a=>z6 a) pb.o) gE);have n9:∀b,(FR b∨(w.heap.size≤b∧b<l.heap.size))→FR b∨(ai w (W.setCell ⟨M,1,U⟩ (A (Y ⟨g',0,U⟩) (j+1) cap)) b∧(A (Y ⟨g',0,U⟩) (j+1) cap).ownBlock≠Y b):=fun b a=>by
   rcases a with a|a
   ·exact z6 a
   ·exact z7 ⟨⟨a.1,by have:=a.2;omega⟩,ca b (cr b (z7 a)).2.1 a.2⟩
  refine⟨i1,s.b,k5,rs++[⟨T.f,T.h,(nv:Int),s.c,s.d⟩],_,_,V,?_,⟨heap_set hx 1 _,?_,?_,⟨us++[J T.f,I Z T.h,I Z (nv:Int),A pC nC cC,A pA nA cA],?_,Rd.wj n9 hz⟩,?_,?_⟩,?_,?_,?_⟩
  ·have H:=cj (F:=fun b=>b=M∨(A D j C).ownBlock=Y b) (show Chg (fun b=>b=M∨(A D j C).ownBlock=Y b) w l from ⟨af.o.os,af.o.a,af.o.c,af.o.h,fun b a hf=>af.o.u b a (fun e=>hf (z6 e))⟩) hC (fun b a=>z6 (z7 a));exact cj H hy (fun b a=>z6 (z6 a))
  ·exact Rd.f (fun b a o ho=>(kp b (by have:=(HS.o.dt b a).1;omega) (HS.o.dt b a).2.2 (HS.o.dt b a).2.1).trans ho) ad.o.t
  ·exact Rd.y (fun b a=>⟨by have:=(N b a).1;omega,(N b a).2.2.1⟩) (Rd.f (fun b a o ho=>(kp b (N b a).1 (N b a).2.1 (N b a).2.2.1).trans ho) ad.o.vv)
  ·rw[Fc,bB.o]
   exact dC b9 (fun b a=>by
    injection a with a
    have a:g'=b:=a;subst a
    exact hy.u g' (eM b9 g' V).2 pe)
  ·exact fun b a=>⟨by have:=(HS.o.dt b a).1;omega,(HS.o.dt b a).2.1,ca b (HS.o.dt b a).2.2 (by have:=(HS.o.dt b a).1;omega)⟩
  ·rintro b (a|a)
   ·have H:=HS.o.fr b a;exact⟨by have:=H.1;omega,H.2.1,ca b H.2.2 (by have:=H.1;omega)⟩
   ·exact⟨a.1.2,fun e=>by have:=a.1.1;omega,a.2⟩
  ·intro b a;injection a with a
   have a:g'=b:=a;subst a;rcases hg with h|h
   ·exact z6 h
   ·exact z7 (by omega)
  ·rw[Fc,bB.o];exact EO _
  ·rw[←o8.o];refine AZ oj.o ?_;rw[l0.o,k3.o];exact hp.o
 obtain⟨m0,m1,m2,m3,m4,m5⟩:=cQ hx;have fM:=aE hx;clear hS hV hE eg hg hC b9 E0 E1 E2 E3 E4 M1 fv hx;go_wp2_with fail
 go_end0
 exact S.o
