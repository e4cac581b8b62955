/- CheckPlaces, the law's walk: it answers true. Condition: the library's table of blanks lies as laid. -/
import Derived.Test.YtglbjooofdnbkaaGreatDoorNP
import Derived.Test.YtglbjooofdnbkaaGreatDoorNA
import Derived.Test.YtglbjooofdnbkaaGreatDoorNY
import Derived.Test.YtglbjooofdnbkaaGreatDoorNZ
import Derived.Test.YtglbjooofdnbkaaGreatDoorMJ
import Derived.Test.YtglbjooofdnbkaaGreatDoorNPK
namespace Go.Proofs.YtglbjooofdnbkaaGreatDoor
set_option maxHeartbeats 4000000
set_option maxRecDepth 100000
open Go.RowKit
theorem slim_at (f:Int→Int):∀(d:Nat)(T:Tree),Slim d T→Slim d (atT f T)
 | 0,T,h=>by
  unfold Slim at h ⊢
  rw[(atT_parts f T).2.1];exact h
 | d+1,T,h=>by
  unfold Slim at h ⊢
  obtain⟨h1,h2,h3⟩:=h
  rw[(atT_parts f T).2.1,(atT_parts f T).2.2.2.2]
  refine⟨h1,by rw[List.length_map];exact h2,fun k hk=>?_⟩
  obtain⟨k0,hk0,rfl⟩:=List.mem_map.1 hk
  exact slim_at f d k0 (h3 k0 hk0)
theorem mvP_pos {b p:Int}(hb:0≤b)(hp:0≤p):0≤mvP b p:=by
 have:=Int.tmod_nonneg 100000 hp
 unfold mvP;omega
theorem make_mv {d:Nat}{T:Tree}{b:Int}(hb:0≤b)(hr:rightF d T=true):makeF d (atT (mvP b) T)=errF (mvP b) (makeM d T):=by
 unfold makeF
 rw[if_pos (right_at _ (fun p hp=>mvP_pos hb hp) d T hr),makeM_at]
theorem mv_node {w w':World}{d:Nat}{b:Int}{T:Tree}{s:Value}(hf:Fits T)(hb:0≤b∧b≤1000)(ho:OwnAt w' d (T.kids.map (atT (mvP b))) s (Between w.heap.size w'.heap.size)) :
  NodeAt w' w'.heap.size d (atT (mvP b) T) (.agg #[.int .u8 T.kind,.string T.text,.int .i64 T.num,.int .i64 (mvP b T.place),s]):=by
 have hF:=fits_mv hf hb
 obtain⟨e1,e2,e3,e4,e5⟩:=atT_parts (mvP b) T
 refine⟨hF,s,?_,?_⟩
 ·rw[e1,e2,e3,e4]
 ·rw[e5];exact ho.kids fun _ h=>h.2
theorem small8_any (d:Nat)(T:Tree)(v:Value)(B:Nat)(w:World)(hv:NodeAt w B d T v)(hB:B≤w.heap.size):Calls Tryz.prog 5 #[v] w (BoolPost (decide (nodesF d T 1500≤1500)) w):=by
 have hv':=hv
 obtain⟨hf,s,rfl,hks⟩:=hv
 obtain⟨p,c,rfl,_,_⟩:=hks.rows
 have hb0:Below w.heap.size w (w.alloc (.cells #[.int .u8 T.kind,.string T.text,.int .i64 T.num,.int .i64 T.place,.slice p T.kids.length c] 25)):=(Below.refl _ w).alloc (Nat.le_refl _) _
 have HN:=Hd (nodesOf_any d T _ B _ 1500 (hv'.below (hb0.mono hB)) (Nat.le_trans hB hb0.size) (by omega) (by omega))
 have HB:=Hd hb0
 clear hb0 hv' hf hks
 generalize nodesF d T 1500=nd at *
 go_enter Tryz.func5,Tryz.ntmps5
 go_wp2_with fail
 refine Calls.mono HN.out ?_
 rintro e w1 ⟨rfl,hb1⟩
 have HB1:=Hd (HB.out.trans (hb1.mono HB.out.size))
 clear hb1 HN
 by_cases h:nd≤1500
 ·go_wp2_with fail
  go_ret
  exact⟨by simp[h],HB1.out⟩
 ·go_wp2_with fail
  go_ret
  exact⟨by simp,HB1.out⟩
theorem law_checkPlaces (d0:Nat)(T:Tree)(v:Value)(B:Nat)(w:World)(num:Int)(hv0:NodeAt w B d0 T v)(hB:B≤w.heap.size)(ht:AsciiTab w) :
  Calls Tryz.prog 3 #[v,.int .i64 num] w (BoolPost true w):=by
 obtain⟨d,hd⟩:∃d,d=d0+3:=⟨_,rfl⟩
 have hv:NodeAt w B d T v:=by rw[hd];exact hv0.deeper (by omega)
 have hv':=hv
 obtain⟨hf,s,rfl,hks⟩:=hv
 obtain⟨p,c,rfl,_,_⟩:=hks.rows
 have hb0:Below w.heap.size w (w.alloc (.cells #[.int .u8 T.kind,.string T.text,.int .i64 T.num,.int .i64 T.place,.slice p T.kids.length c] 25)):=(Below.refl _ w).alloc (Nat.le_refl _) _
 have hx:=heap_alloc_new w (.cells #[.int .u8 T.kind,.string T.text,.int .i64 T.num,.int .i64 T.place,.slice p T.kids.length c] 25)
 have HX:=Hd hx
 have HB:=Hd hb0
 have HV:=Hd (fun W (hW:Below w.heap.size w W)=>hv'.below (hW.mono hB))
 have HBW:=Hd (fun W (hW:Below w.heap.size w W)=>Nat.le_trans hB hW.size)
 have HT:=Hd (fun W (hW:Below w.heap.size w W)=>ht.below hW)
 have HN:=Hd (fun W (hW:Below w.heap.size w W)=>small8_any d T _ B W (HV.out W hW) (HBW.out W hW))
 have HSl:=Hd (slim_of d T 1500 (by omega))
 have HF:=Hd hf
 have HEx:=Hd (kids_exact hks)
 have HA:=Hd (awake8_any _ (HT.out _ hb0))
 have HPk:=Hd (fun W=>pick_at num 1000 W (by omega) (by omega))
 have hpk:=pickZ_in num 1000 (by omega)
 obtain⟨bb,hbb⟩:∃bb,pickZ num 1000=bb:=⟨_,rfl⟩
 unfold PickQ at HPk
 rw[hbb] at HPk hpk
 have hpk2:0≤bb∧bb≤1000:=by omega
 have HPb:=Hd hpk2
 clear hb0 hx hks hv' ht hf hd hbb hpk hpk2
 generalize nodesF d T 1500=nd at *
 go_enter Tryz.func3,Tryz.ntmps3
 go_wp2_with fail
 refine Calls.mono HA.out ?_
 rintro e w0 ⟨rfl,hb0⟩
 have HB0:=Hd (HB.out.trans (hb0.mono HB.out.size))
 have HX0:=Hd (heap_below hb0 HX.out (by simp))
 obtain⟨b0,b1,b2,b3,b4⟩:=cells5 HX0.out
 clear hb0 HA
 go_wp2_with fail
 refine Calls.mono (HN.out _ HB0.out) ?_
 rintro e w1 ⟨rfl,hb1⟩
 have HB1:=Hd (HB0.out.trans (hb1.mono HB0.out.size))
 have HX1:=Hd (heap_below hb1 HX0.out (Array.getElem?_eq_some_iff.1 HX0.out).1)
 clear b0 b1 b2 b3 b4 hb1
 by_cases h9:nd≤1500
 ·obtain⟨_,hslim⟩:=HSl.out h9
  have HSm:=Hd hslim
  obtain⟨b0,b1,b2,b3,b4⟩:=cells5 HX1.out
  have HR:=Hd (nodeRight_any d T _ B w1 (HV.out _ HB1.out) (HBW.out _ HB1.out) hslim (HT.out _ HB1.out))
  rw[decide_eq_true h9]
  clear hslim h9
  go_wp2_with fail
  refine Calls.mono HR.out ?_
  rintro e w2 ⟨rfl,hb2⟩
  have HB2:=Hd (HB1.out.trans (hb2.mono HB1.out.size))
  have HX2:=Hd (heap_below hb2 HX1.out (Array.getElem?_eq_some_iff.1 HX1.out).1)
  clear b0 b1 b2 b3 b4 hb2
  cases hr:rightF d T with
  | false =>
   clear hr
   go_wp2_with fail
   go_ret
   exact⟨rfl,HB2.out⟩
  | true =>
   obtain⟨hp0,hp1⟩:=HPb.out
   have HM0:=Hd (make_mv (b:=0) (by omega) hr)
   have HMb:=Hd (make_mv (b:=bb) (by omega) hr)
   have HOkF:Hid (okF d T=true):=by
    show _=_
    unfold rightF at hr
    simp only[Bool.and_eq_true] at hr
    exact hr.1.1.2
   clear hr
   obtain⟨b0,b1,b2,b3,b4⟩:=cells5 HX2.out
   go_wp2_with fail
   refine Calls.mono (HPk.out w2) ?_
   rintro e w3 ⟨rfl,hb3⟩
   have HB3:=Hd (HB2.out.trans (hb3.mono HB2.out.size))
   have HX3:=Hd (heap_below hb3 HX2.out (Array.getElem?_eq_some_iff.1 HX2.out).1)
   have HMv:=Hd (mvN_any 0 (by omega) d T _ B w3 (HV.out w3 HB3.out) (HBW.out _ HB3.out) HSm.out)
   clear b0 b1 b2 b3 b4 hb3
   obtain⟨b0,b1,b2,b3,b4⟩:=cells5 HX3.out
   go_wp2_with fail
   refine Calls.mono HMv.out ?_
   rintro e w4 ⟨s4,rfl,hb4,ho4⟩
   have HNd:=Hd (mv_node HF.out (by omega) ho4)
   obtain⟨p4,c4,rfl⟩:=ho4.shape
   rw[List.length_map] at HNd
   rw[List.length_map]
   have HB4:=Hd (HB3.out.trans (hb4.mono HB3.out.size))
   have HX4:=Hd (heap_below hb4 HX3.out (Array.getElem?_eq_some_iff.1 HX3.out).1)
   have HMk:=Hd (make_any d (atT (mvP 0) T) _ w4 HNd.out (slim_at _ d T HSm.out) (HT.out _ HB4.out))
   rw[HM0.out] at HMk
   have hlm:=mvP_lim (b:=0) T.place (by omega)
   obtain⟨q0,hq0⟩:∃q,mvP 0 T.place=q:=⟨_,rfl⟩
   rw[hq0] at HMk ⊢
   clear b0 b1 b2 b3 b4 hb4 ho4 HMv HNd hq0 hlm HN HM0
   go_wp2_with fail
   refine Calls.mono HMk.out ?_
   clear HMk
   have HFl:=Hd (makeM_flaw d T)
   have HRt:=Hd (fun R=>made_right (d:=d) (T:=T) (R:=R))
   have HMv2:=Hd (fun W (hW:Below w.heap.size w W)=>mvN_any bb (by omega) d T _ B W (HV.out W hW) (HBW.out _ hW) HSm.out)
   cases hmk:makeM d T with
   | error er =>
    have hne:=HFl.out er hmk
    rw[hmk] at HMb
    clear hmk HRt HFl
    obtain⟨e0,p0⟩:=er
    rintro e w5 ⟨hb5,rfl⟩
    have hne:¬e0=0:=hne
    obtain⟨wA,hwA⟩:∃wA,wA=((w5.alloc (.cells #[.slice none 0 0,.slice none 0 0] 32)).alloc (.cells #[.int .i64 e0,.int .i64 (mvP 0 p0)] 35)):=⟨_,rfl⟩
    have hbA:Below w5.heap.size w5 wA:=by rw[hwA];exact below_two w5 _ _
    obtain⟨X0,X1,_⟩:=two_new' w5 (.cells #[.slice none 0 0,.slice none 0 0] 32) (.cells #[.int .i64 e0,.int .i64 (mvP 0 p0)] 35)
    rw[←hwA] at X0 X1
    have hszA:w5.heap.size+1<wA.heap.size:=(Array.getElem?_eq_some_iff.1 X1).1
    have hb5A:=hb5.trans (hbA.mono hb5.size)
    have HBA:=Hd (HB4.out.trans (hb5A.mono HB4.out.size))
    have HXA:=Hd (heap_below hb5A HX4.out (Array.getElem?_eq_some_iff.1 HX4.out).1)
    have HA0:=Hd X0
    have HA1:=Hd X1
    have HMv:=Hd (HMv2.out wA HBA.out)
    have HbA:=Hd hbA
    have HB5:=Hd (HB4.out.trans (hb5.mono HB4.out.size))
    clear hb5 hbA X0 X1 hb5A HMv2
    go_upto_region 7 with fail
    change Code.wp _ _ _ _ ((w5.alloc (.cells #[.slice none 0 0,.slice none 0 0] 32)).alloc (.cells #[.int .i64 e0,.int .i64 (mvP 0 p0)] 35))
    rw[←hwA]
    clear hwA
    obtain⟨b0,b1,b2,b3,b4⟩:=cells5 HXA.out
    go_wp2_with fail
    refine Calls.mono HMv.out ?_
    rintro e w6 ⟨s6,rfl,hb6,ho6⟩
    have HNd:=Hd (mv_node HF.out HPb.out ho6)
    obtain⟨p6,c6,rfl⟩:=ho6.shape
    rw[List.length_map] at HNd
    rw[List.length_map]
    have HB6:=Hd (HBA.out.trans (hb6.mono HBA.out.size))
    have HMk:=Hd (make_any d (atT (mvP bb) T) _ w6 HNd.out (slim_at _ d T HSm.out) (HT.out _ HB6.out))
    rw[HMb.out] at HMk
    obtain⟨q6,hq6⟩:∃q,mvP bb T.place=q:=⟨_,rfl⟩
    rw[hq6] at HMk ⊢
    have HbA6:=Hd (HbA.out.trans (hb6.mono HbA.out.size))
    have hsz6:=hb6.size
    have HC0:=Hd (heap_below hb6 HA0.out (by omega))
    have HC1:=Hd (heap_below hb6 HA1.out hszA)
    clear b0 b1 b2 b3 b4 hb6 ho6 HMv HNd hq6 HMb HA0 HA1
    go_wp2_with fail
    refine Calls.mono HMk.out ?_
    clear HMk
    rintro e w7 ⟨hb7,rfl⟩
    obtain⟨wB,hwB⟩:∃wB,wB=((w7.alloc (.cells #[.slice none 0 0,.slice none 0 0] 32)).alloc (.cells #[.int .i64 e0,.int .i64 (mvP bb p0)] 35)):=⟨_,rfl⟩
    have hbB:Below w7.heap.size w7 wB:=by rw[hwB];exact below_two w7 _ _
    obtain⟨X0,X1,_⟩:=two_new' w7 (.cells #[.slice none 0 0,.slice none 0 0] 32) (.cells #[.int .i64 e0,.int .i64 (mvP bb p0)] 35)
    rw[←hwB] at X0 X1
    have hszB:w7.heap.size+1<wB.heap.size:=(Array.getElem?_eq_some_iff.1 X1).1
    have hsz7:=hb7.size
    have hb7B:=hb7.trans (hbB.mono hb7.size)
    have HBB:=Hd (HB6.out.trans (hb7B.mono HB6.out.size))
    have HD0:=Hd X0
    have HD1:=Hd X1
    have HE0:=Hd (heap_below hb7B HC0.out (by omega))
    have HE1:=Hd (heap_below hb7B HC1.out (by omega))
    have Hb6B:=Hd hb7B
    have Hb7B:=Hd hbB
    clear hb7 hbB X0 X1 hb7B HC0 HC1
    go_upto_region 8 with fail
    change Code.wp _ _ _ _ ((w7.alloc (.cells #[.slice none 0 0,.slice none 0 0] 32)).alloc (.cells #[.int .i64 e0,.int .i64 (mvP bb p0)] 35))
    rw[←hwB]
    clear hwB
    obtain⟨x0,x1,_,_⟩:=cells2p HE0.out
    obtain⟨y0,y1,_,_⟩:=cells2p HE1.out
    obtain⟨z0,z1,_,_⟩:=cells2p HD0.out
    obtain⟨v0,v1,_,_⟩:=cells2p HD1.out
    have hl0:=mvP_lim (b:=0) p0 (by omega)
    have hlb:=mvP_lim (b:=bb) p0 HPb.out
    have hsum:mvP 0 p0+bb=mvP bb p0:=by unfold mvP;omega
    generalize mvP 0 p0=m0 at *
    generalize mvP bb p0=mb at *
    go_wp2_with fail
    go_ret
    exact⟨by simp_all,HBB.out⟩
   | ok R =>
    have HOk:=Hd (HRt.out R HEx.out HOkF.out hmk)
    rw[hmk] at HMb
    clear hmk HFl HRt
    rintro e w5 ⟨hb5,st,sr,rfl,hst,hsr⟩
    obtain⟨pt,ct,hpt⟩:=Rd.row_shape hst
    obtain⟨pr,cr,hpr⟩:=Rd.row_shape hsr
    obtain⟨nt,hnt⟩:∃n,R.types.length=n:=⟨_,rfl⟩
    obtain⟨nr,hnr⟩:∃n,R.rules.length=n:=⟨_,rfl⟩
    rw[hnt] at hpt
    rw[hnr] at hpr
    subst hpt;subst hpr
    have HSt:=Hd hst
    have HSr:=Hd hsr
    have HNt:=Hd hnt
    have HNr:=Hd hnr
    clear hst hsr hnt hnr
    obtain⟨wA,hwA⟩:∃wA,wA=((w5.alloc (.cells #[.slice pt nt ct,.slice pr nr cr] 32)).alloc (.cells #[.int .i64 0,.int .i64 0] 35)):=⟨_,rfl⟩
    have hbA:Below w5.heap.size w5 wA:=by rw[hwA];exact below_two w5 _ _
    obtain⟨X0,X1,_⟩:=two_new' w5 (.cells #[.slice pt nt ct,.slice pr nr cr] 32) (.cells #[.int .i64 0,.int .i64 0] 35)
    rw[←hwA] at X0 X1
    have hszA:w5.heap.size+1<wA.heap.size:=(Array.getElem?_eq_some_iff.1 X1).1
    have hb5A:=hb5.trans (hbA.mono hb5.size)
    have HBA:=Hd (HB4.out.trans (hb5A.mono HB4.out.size))
    have HXA:=Hd (heap_below hb5A HX4.out (Array.getElem?_eq_some_iff.1 HX4.out).1)
    have HA0:=Hd X0
    have HA1:=Hd X1
    have HMv:=Hd (HMv2.out wA HBA.out)
    have HbA:=Hd hbA
    have HB5:=Hd (HB4.out.trans (hb5.mono HB4.out.size))
    clear hb5 hbA X0 X1 hb5A HMv2
    go_upto_region 7 with fail
    change Code.wp _ _ _ _ ((w5.alloc (.cells #[.slice pt nt ct,.slice pr nr cr] 32)).alloc (.cells #[.int .i64 0,.int .i64 0] 35))
    rw[←hwA]
    clear hwA
    obtain⟨b0,b1,b2,b3,b4⟩:=cells5 HXA.out
    go_wp2_with fail
    refine Calls.mono HMv.out ?_
    rintro e w6 ⟨s6,rfl,hb6,ho6⟩
    have HNd:=Hd (mv_node HF.out HPb.out ho6)
    obtain⟨p6,c6,rfl⟩:=ho6.shape
    rw[List.length_map] at HNd
    rw[List.length_map]
    have HB6:=Hd (HBA.out.trans (hb6.mono HBA.out.size))
    have HMk:=Hd (make_any d (atT (mvP bb) T) _ w6 HNd.out (slim_at _ d T HSm.out) (HT.out _ HB6.out))
    rw[HMb.out] at HMk
    obtain⟨q6,hq6⟩:∃q,mvP bb T.place=q:=⟨_,rfl⟩
    rw[hq6] at HMk ⊢
    have HbA6:=Hd (HbA.out.trans (hb6.mono HbA.out.size))
    have hsz6:=hb6.size
    have HC0:=Hd (heap_below hb6 HA0.out (by omega))
    have HC1:=Hd (heap_below hb6 HA1.out hszA)
    clear b0 b1 b2 b3 b4 hb6 ho6 HMv HNd hq6 HMb HA0 HA1
    go_wp2_with fail
    refine Calls.mono HMk.out ?_
    clear HMk
    rintro e w7 ⟨hb7,su,sv,rfl,hsu,hsv⟩
    obtain⟨pu,cu,hpu⟩:=Rd.row_shape hsu
    obtain⟨pv,cv,hpv⟩:=Rd.row_shape hsv
    rw[HNt.out] at hpu
    rw[HNr.out] at hpv
    subst hpu;subst hpv
    have HSu:=Hd hsu
    have HSv:=Hd hsv
    clear hsu hsv
    obtain⟨wB,hwB⟩:∃wB,wB=((w7.alloc (.cells #[.slice pu nt cu,.slice pv nr cv] 32)).alloc (.cells #[.int .i64 0,.int .i64 0] 35)):=⟨_,rfl⟩
    have hbB:Below w7.heap.size w7 wB:=by rw[hwB];exact below_two w7 _ _
    obtain⟨X0,X1,_⟩:=two_new' w7 (.cells #[.slice pu nt cu,.slice pv nr cv] 32) (.cells #[.int .i64 0,.int .i64 0] 35)
    rw[←hwB] at X0 X1
    have hszB:w7.heap.size+1<wB.heap.size:=(Array.getElem?_eq_some_iff.1 X1).1
    have hsz7:=hb7.size
    have hb7B:=hb7.trans (hbB.mono hb7.size)
    have HBB:=Hd (HB6.out.trans (hb7B.mono HB6.out.size))
    have HD0:=Hd X0
    have HD1:=Hd X1
    have HE0:=Hd (heap_below hb7B HC0.out (by omega))
    have HE1:=Hd (heap_below hb7B HC1.out (by omega))
    have Hb6B:=Hd hb7B
    have Hb7B:=Hd hbB
    clear hb7 hbB X0 X1 hb7B HC0 HC1
    go_upto_region 8 with fail
    change Code.wp _ _ _ _ ((w7.alloc (.cells #[.slice pu nt cu,.slice pv nr cv] 32)).alloc (.cells #[.int .i64 0,.int .i64 0] 35))
    rw[←hwB]
    clear hwB
    obtain⟨x0,x1,_,_⟩:=cells2p HE0.out
    obtain⟨y0,y1,_,_⟩:=cells2p HE1.out
    obtain⟨z0,z1,_,_⟩:=cells2p HD0.out
    obtain⟨v0,v1,_,_⟩:=cells2p HD1.out
    have HSame:Hid (Calls Tryz.prog 10 #[.agg #[.slice pt nt ct,.slice pr nr cr],.agg #[.slice pu nt cu,.slice pv nr cv]] wB (TruePost wB)):=by
     have h6B:=Hb6B.out
     have hA6:=HbA6.out
     have h5A:=HbA.out
     have k5:Below w5.heap.size w5 wB:=hA6.trans (h6B.mono hA6.size)
     have hlt:∀b,b<w5.heap.size→b<wB.heap.size:=fun b h=>Nat.lt_of_lt_of_le h k5.size
     have hlt7:∀b,b<w7.heap.size→b<wB.heap.size:=fun b h=>Nat.lt_of_lt_of_le h Hb7B.out.size
     exact sameRules_of d R _ _ wB (rules_at.2 ⟨_,_,rfl,Rd.row_sub hlt (Rd.row_below (Rd.row_sub (fun b h=>h.2) HSt.out) (fun _ h=>h) k5),Rd.row_sub hlt (Rd.row_below (Rd.row_sub (fun b h=>h.2) HSr.out) (fun _ h=>h) k5)⟩)
      (rules_at.2 ⟨_,_,rfl,Rd.row_sub hlt7 (Rd.row_below (Rd.row_sub (fun b h=>h.2) HSu.out) (fun _ h=>h) Hb7B.out),Rd.row_sub hlt7 (Rd.row_below (Rd.row_sub (fun b h=>h.2) HSv.out) (fun _ h=>h) Hb7B.out)⟩)
    have HRight:Hid (∀W,Below wB.heap.size wB W→Calls Tryz.prog 11 #[.agg #[.slice pt nt ct,.slice pr nr cr]] W (BoolPost true W)):=by
     intro W hW
     have h6B:=Hb6B.out
     have hA6:=HbA6.out
     have h5A:=HbA.out
     have k5:Below w5.heap.size w5 wB:=hA6.trans (h6B.mono hA6.size)
     have k5W:=k5.trans (hW.mono k5.size)
     have:=chRight_any (fun b=>b<w5.heap.size) d R _ _ W (fun b h=>Nat.lt_of_lt_of_le h k5W.size) (Rd.row_below (Rd.row_sub (fun b h=>h.2) HSt.out) (fun _ h=>h) k5W) (Rd.row_below (Rd.row_sub (fun b h=>h.2) HSr.out) (fun _ h=>h) k5W)
     rw[HOk.out] at this
     exact this
    go_wp2_with fail
    refine Calls.mono HSame.out ?_
    rintro e w8 ⟨rfl,hb8⟩
    have HRW:=Hd (HRight.out w8 hb8)
    have HB8:=Hd (HBB.out.trans (hb8.mono HBB.out.size))
    obtain⟨u0,u1,_,_⟩:=cells2p (heap_below hb8 HE0.out (Array.getElem?_eq_some_iff.1 HE0.out).1)
    clear hb8 HRight HSame x0 x1 y0 y1 z0 z1 v0 v1
    go_wp2_with fail
    refine Calls.mono HRW.out ?_
    rintro e w9 ⟨rfl,hb9⟩
    have HB9:=Hd (HB8.out.trans (hb9.mono HB8.out.size))
    clear hb9 HRW
    go_wp2_with fail
    go_ret
    exact⟨rfl,HB9.out⟩
 ·rw[decide_eq_false h9]
  go_wp2_with fail
  go_ret
  exact⟨rfl,HB1.out⟩
end Go.Proofs.YtglbjooofdnbkaaGreatDoor
