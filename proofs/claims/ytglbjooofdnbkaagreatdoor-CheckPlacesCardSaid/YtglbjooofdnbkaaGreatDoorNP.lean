/- The tree whose places are moved, made anew, for the statements of chapter 08; by contract. Condition: lists and texts of the given sizes. -/
import Derived.Test.YtglbjooofdnbkaaGreatDoorMZK
import Derived.Test.YtglbjooofdnbkaaGreatDoorNA
import Derived.Test.YtglbjooofdnbkaaGreatDoorNO
namespace Go.Proofs.YtglbjooofdnbkaaGreatDoor
set_option maxHeartbeats 4000000
set_option maxRecDepth 100000
open Go.RowKit
def mvP (by_:Int) (p:Int):Int:=p.tmod 100000+by_
theorem mvP_lim {b:Int}(p:Int)(hb:0≤b∧b≤1000):-200000<mvP b p∧mvP b p<200000:=by
 have h1:=Int.tmod_lt_of_pos p (show (0:Int)<100000 by decide)
 have h2:-100000<p.tmod 100000:=by
  rcases Int.le_total 0 p with h|h
  ·have:=Int.tmod_nonneg 100000 h;omega
  ·have:=Int.tmod_lt_of_pos (-p) (show (0:Int)<100000 by decide)
   rw[Int.neg_tmod] at this;omega
 unfold mvP
 omega
def MvPost (d:Nat) (b:Int) (T:Tree) (w:World) (e:Ending) (w':World):Prop:=
 ∃s,e=.returned (.agg #[.int .u8 T.kind,.string T.text,.int .i64 T.num,.int .i64 (mvP b T.place),s])∧Below w.heap.size w w'∧OwnAt w' d (T.kids.map (atT (mvP b))) s (Between w.heap.size w'.heap.size)
def MvN (d:Nat) (b:Int):Prop:=∀(T:Tree) (u:Value) (B:Nat) (w:World),NodeAt w B d T u→B≤w.heap.size→Slim d T→Calls Tryz.prog 9 #[u,.int .i64 b] w (MvPost d b T w)
def MvRel (w:World) (d:Nat) (bb:Int) (ks:List Tree) (n:Nat) (box:Array Value) (v0 v1 v2 v3:Value) (i:Value) (W:World):Prop:=
 ∃(k:Nat) (rows:List (List Value)) (Fs:Nat→Nat→Prop) (o:Value),k≤n∧i=.int .i64 k∧W.ownsRow (w.heap.size+3) 25 5 o k rows.flatten∧Below w.heap.size w W∧w.heap.size+3≤W.heap.size∧RowsOwn W (w.heap.size+3) (d-1) (ks.map (atT (mvP bb))) k o.ownBlock rows Fs ∧
  W.heap[w.heap.size]? = some (.cells box 25 (0,0))∧W.heap[w.heap.size+1]? = some (.cells zeroN 25 (0,0))∧W.heap[w.heap.size+2]? = some (.cells #[v0,v1,v2,v3,o] 25 (0,0))
theorem fits_mv {b:Int}{T:Tree}(h:Fits T)(hb:0≤b∧b≤1000):Fits (atT (mvP b) T):=by
 obtain⟨e1,e2,e3,e4,_⟩:=atT_parts (mvP b) T
 obtain⟨h1,h2,h3,h4,_,_⟩:=h
 have hp:=mvP_lim T.place hb
 unfold Fits
 rw[e1,e2,e3,e4]
 exact⟨h1,h2,h3,h4,by omega,by omega⟩
theorem cells_mv (b:Int)(T:Tree)(s:Value):nodeCells (atT (mvP b) T) s=[.int .u8 T.kind,.string T.text,.int .i64 T.num,.int .i64 (mvP b T.place),s]:=by
 obtain⟨e1,e2,e3,e4,_⟩:=atT_parts (mvP b) T
 unfold nodeCells
 rw[e1,e2,e3,e4]
theorem mvN_of (d:Nat)(bb:Int)(hm:0≤bb∧bb≤1000)(hN:∀d',d=d'+1→MvN d' bb):MvN d bb:=by
 intro T u B w hu hB hs
 obtain⟨hf,s,rfl,hk⟩:=hu
 have hn9:T.kids.length≤20000:=by
  cases d with
  | zero=>rw[hk.1];exact Nat.zero_le _
  | succ d=>exact hs.2.1
 have hslim:∀t∈T.kids,Slim (d-1) t:=by
  cases d with
  | zero=>intro t hT;rw[hk.1] at hT;cases hT
  | succ d=>exact hs.2.2
 obtain⟨p,c,rfl,_,hrow⟩:=hk.rows
 obtain⟨n,hn⟩:∃n,T.kids.length=n:=⟨_,rfl⟩
 rw[hn] at hn9 ⊢
 obtain⟨wA,hwA⟩:∃wA,wA=((w.alloc (.cells #[.int .u8 T.kind,.string T.text,.int .i64 T.num,.int .i64 T.place,.slice p n c] 25)).alloc (.cells zeroN 25)).alloc (.cells #[.int .u8 T.kind,.string T.text,.int .i64 T.num,.int .i64 (mvP bb T.place),.slice none 0 0] 25):=⟨_,rfl⟩
 have hbA:Below w.heap.size w wA:=by rw[hwA];exact (below_two w _ _).alloc (by simp<;>omega) _
 obtain⟨X0,X1,X2⟩:=three_new8 w (.cells #[.int .u8 T.kind,.string T.text,.int .i64 T.num,.int .i64 T.place,.slice p n c] 25) (.cells zeroN 25) (.cells #[.int .u8 T.kind,.string T.text,.int .i64 T.num,.int .i64 (mvP bb T.place),.slice none 0 0] 25)
 rw[←hwA] at X0 X1 X2
 have hszA:w.heap.size+2<wA.heap.size:=(Array.getElem?_eq_some_iff.1 X2).1
 have HRel:Hid (MvRel w d bb T.kids n #[.int .u8 T.kind,.string T.text,.int .i64 T.num,.int .i64 T.place,.slice p n c] (.int .u8 T.kind) (.string T.text) (.int .i64 T.num) (.int .i64 (mvP bb T.place)) (.int .i64 (0:Nat)) wA):=
  ⟨0,[],fun _ _=>False,.slice none 0 0,Nat.zero_le _,rfl,World.ownsRow_nil _ _ _ _,hbA,hszA,rows_none _ _ _ _,X0,X1,X2⟩
 have HN:=Hd hn
 have HRow:=Hd hrow
 have HSl:=Hd hslim
 have HLN:=Hd hN
 have HBw:Hid (B≤w.heap.size):=hB
 obtain⟨i0,hi0,hz0,hz1,hz2⟩:=info_parts infoNode
 have hpl:=mvP_lim T.place hm
 obtain⟨pl,hplq⟩:∃pl,mvP bb T.place=pl:=⟨_,rfl⟩
 have HPl:=Hd hplq
 have hmd:-100000<T.place.tmod 100000∧T.place.tmod 100000<100000:=by
  have:=mvP_lim (b:=0) T.place (by omega)
  have h1:=Int.tmod_lt_of_pos T.place (show (0:Int)<100000 by decide)
  refine⟨?_,h1⟩
  rcases Int.le_total 0 T.place with h|h
  ·have:=Int.tmod_nonneg 100000 h;omega
  ·have:=Int.tmod_lt_of_pos (-T.place) (show (0:Int)<100000 by decide)
   rw[Int.neg_tmod] at this;omega
 unfold MvPost
 rw[hplq] at hpl hwA HRel ⊢
 have hq:T.place.tmod 100000+bb=pl:=hplq
 obtain⟨hm1,hm2⟩:=hm
 obtain⟨hmd1,hmd2⟩:=hmd
 clear hk hs hslim hrow hN hn X0 X1 X2 hbA hszA hB hf hplq
 go_enter Tryz.func9,Tryz.ntmps9
 go_upto_region 2 with fail
 change Code.wp _ _ _ _ (((w.alloc (.cells #[.int .u8 T.kind,.string T.text,.int .i64 T.num,.int .i64 T.place,.slice p n c] 25)).alloc (.cells zeroN 25)).alloc (.cells #[.int .u8 T.kind,.string T.text,.int .i64 T.num,.int .i64 pl,.slice none 0 0] 25))
 rw[←hwA]
 clear hwA hq hmd1 hmd2
 go_wp2_with fail
 go_loopw [6] (fun i wr=>MvRel w d bb T.kids n #[.int .u8 T.kind,.string T.text,.int .i64 T.num,.int .i64 T.place,.slice p n c] (.int .u8 T.kind) (.string T.text) (.int .i64 T.num) (.int .i64 pl) i wr) (fun i _=>n-(intOf i).toNat)
 case atStart=>exact HRel.out
 case round =>
  clear HRel
  obtain⟨k,rows,Fs,o,hk,rfl,hown,hb,hsz,hrl,x0,x1,x2⟩:=hrel
  have hk0:(0:Int)≤k:=by omega
  have HOwn1:=Hd hown
  have HB1:=Hd hb
  have HRL:=Hd hrl
  have HX0:=Hd x0
  have HX1:=Hd x1
  have HX2:=Hd x2
  obtain⟨a0,a1,a2,a3,a4⟩:=cells5 x0
  clear hown hrl x0 x1 x2
  by_cases hlt:k<n
  ·obtain⟨t,ht⟩:∃t,T.kids[k]? = some t:=⟨T.kids[k]'(by rw[HN.out];exact hlt),List.getElem?_eq_getElem (by rw[HN.out];exact hlt)⟩
   have hmem:t∈T.kids:=List.mem_of_getElem? ht
   obtain⟨hd,b,off,rfl,hbB,hkid⟩:=HRow.out k t ht
   obtain⟨p',l',c',d0,d1,d2,d3,d4,hnode⟩:=hkid.node (hb.mono HBw.out) hbB
   have HF:Hid (Fits (atT (mvP bb) t)):=fits_mv hnode.1 ⟨hm1,hm2⟩
   have HT:Hid ((T.kids.map (atT (mvP bb)))[k]? = some (atT (mvP bb) t)):=by show _=_;rw[List.getElem?_map,ht];rfl
   have hk1:(k:Int)<n:=by omega
   have HCall:=Hd (HLN.out _ hd t _ B wr hnode (Nat.le_trans HBw.out hb.size) (HSl.out t hmem))
   unfold MvPost at HCall
   obtain⟨tp,htp⟩:∃tp,mvP bb t.place=tp:=⟨_,rfl⟩
   have HTp:=Hd htp
   rw[htp] at HCall
   clear hnode hkid ht hmem hd hb htp
   go_wp2_with fail
   refine HCall.out.mono ?_
   rintro e W2 ⟨s,rfl,hb2,hl⟩
   obtain⟨p2,c2,rfl⟩:=hl.shape
   simp only[List.length_map]
   have HL:=Hd hl
   have hsz2:=hb2.size
   obtain⟨W3,hW3⟩:∃W3,W3=W2.alloc (.cells #[.int .u8 t.kind,.string t.text,.int .i64 t.num,.int .i64 tp,.slice p2 t.kids.length c2] 25):=⟨_,rfl⟩
   have hal:Below W2.heap.size W2 W3:=by rw[hW3];exact (Below.refl _ W2).alloc (Nat.le_refl _) _
   have hsz3:W3.heap.size=W2.heap.size+1:=by rw[hW3];simp
   have hx3:W3.heap[W2.heap.size]? = some (.cells #[.int .u8 t.kind,.string t.text,.int .i64 t.num,.int .i64 tp,.slice p2 t.kids.length c2] 25 (0,0)):=by rw[hW3];exact heap_alloc_new W2 _
   have hb23:=hb2.trans (hal.mono hb2.size)
   have hown3:=ownsRow_below HOwn1.out hb23
   have HX30:=Hd (heap_below hb23 HX0.out (by omega))
   have HX31:=Hd (heap_below hb23 HX1.out (by omega))
   have HX32:=Hd (heap_below hb23 HX2.out (by omega))
   have HB23:=Hd hb23
   have HSz3:=Hd hsz3
   have hlt3:W2.heap.size<W3.heap.size:=by omega
   have HAl:=Hd hal
   have hob:=own_block HOwn1.out
   obtain⟨po,co,rfl⟩:∃po co,o=.slice po k co:=by
    rcases hown3.2 with ⟨h,h0⟩|⟨g,cap,cur,h,_⟩
    ·exact⟨none,0,by rw[h,h0]⟩
    ·exact⟨_,cap,h⟩
   clear hb2 hl a0 a1 a2 a3 a4 d0 d1 d2 d3 d4 hal hb23 HCall hsz3
   go_upto_region 6 with fail
   change Code.wp _ _ _ _ (W2.alloc (.cells #[.int .u8 t.kind,.string t.text,.int .i64 t.num,.int .i64 tp,.slice p2 t.kids.length c2] 25))
   rw[←hW3]
   clear hW3
   obtain⟨e0,e1,e2,e3,e4⟩:=cells5 hx3
   obtain⟨_,_,_,_,o4⟩:=cells5 HX32.out
   clear hx3
   have HX7:=Hd (fun (w7:World) (hg:(W3.alloc (.cells #[.int .u8 t.kind,.string t.text,.int .i64 t.num,.int .i64 tp,.slice p2 t.kids.length c2] 25)).grownBy w7 (Value.slice po k co).ownBlock) (x:Nat) (hx:x<W3.heap.size) (hne:(Value.slice po k co).ownBlock≠some x)=>(hg.block x (by simp;omega) (fun e=>hne e.symm)).trans (((Below.refl _ W3).alloc (Nat.le_refl _) _).block x hx))
   go_wp2_with (at_builtin;go_must (refine wpList_append_lies _ rfl (.tmp 35) (.tmp 37) 23 rfl (w.heap.size+3) 25 i0 _ 5 64 Tryz.underlying23 hi0 hz0 hz1 hz2 rfl (by decide) (.slice po k co) k rows.flatten rfl (ownsRow_below hown3 ((Below.refl _ W3).alloc (Nat.le_refl _) _)) ⟨W3.heap.size,0,none⟩ 1 1 [.int .u8 t.kind,.string t.text,.int .i64 t.num,.int .i64 tp,.slice p2 t.kids.length c2] rfl rfl (by exact news_one W3 _ 25) (by simp[Value.oneCell']) (by decide) (by unfold maxLen;omega) (by omega) (by simp;omega) (W3.heap.size+1) (by simp) ?_);intro g7 cap7 w7 hown' hgrow hlies hlt7;have hx72:=(HX7.out w7 hgrow (w.heap.size+2) (by omega) (fun e=>by have:=(hob _ e).1;omega)).trans HX32.out;obtain⟨_,_,_,_,q4⟩:=cells5 hx72;have f4:=frozen5 hx72 4)
   obtain⟨w8,hw8⟩:∃w8,w8=w7.setCell ⟨w.heap.size+2,4,none⟩ (.slice (some ⟨g7,0,none⟩) (k+1) cap7):=⟨_,rfl⟩
   have hsz3:=HSz3.out
   obtain⟨W5,hW5⟩:∃W5,W5=W3.alloc (.cells #[.int .u8 t.kind,.string t.text,.int .i64 t.num,.int .i64 tp,.slice p2 t.kids.length c2] 25):=⟨_,rfl⟩
   have hgrow5:W5.grownBy w7 (Value.slice po k co).ownBlock:=by rw[hW5];exact hgrow
   have hal5:Below W3.heap.size W3 W5:=by rw[hW5];exact (Below.refl _ W3).alloc (Nat.le_refl _) _
   have hsz5:W5.heap.size=W3.heap.size+1:=by rw[hW5];simp
   have hsg:=hgrow5.size
   have hb25:=HAl.out.trans (hal5.mono (by omega))
   have hb3:Below w.heap.size w w7:=below_grownO ((HB1.out.trans (HB23.out.mono HB1.out.size)).trans (hal5.mono (by omega))) (by omega) hgrow5 (fun g hg=>by have:=(hob g hg).1;omega)
   have hkeep2:∀x,x<W2.heap.size→(Value.slice po k co).ownBlock≠some x→w7.heap[x]? = W2.heap[x]?:=fun x hx hne=>(hgrow5.block x (by omega) (fun e=>hne e.symm)).trans (hb25.block x hx)
   have hkeep3:∀x,x<wr.heap.size→(Value.slice po k co).ownBlock≠some x→w7.heap[x]? = wr.heap[x]?:=fun x hx hne=>(hgrow5.block x (by omega) (fun e=>hne e.symm)).trans ((hal5.block x (by omega)).trans (HB23.out.block x hx))
   obtain⟨Fs',hnext⟩:=RowsOwn.next (W':=w7) (N:=W2.heap.size) (own':=some g7) HRL.out HT.out HF.out (by rw[(atT_parts (mvP bb) t).2.2.2.2];exact HL.out.keep fun x o hx ho=>(hkeep2 x hx.2 (fun e=>by have:=(hob x e).2;have:=hx.1;omega)).trans ho) hsz2 (by omega) hsz (by omega)
    hkeep3 (fun x hx=>by
     injection hx with hx
     subst hx
     rcases hlies with h|h
     ·exact Or.inl ⟨h,(hob _ h).2⟩
     ·right;omega)
   rw[cells_mv,HTp.out] at hnext
   have hg8:w7.grownBy w8 (some (w.heap.size+2)):=by rw[hw8];exact grown_set (grown_of_below (Below.refl _ w7) _) _ _
   have hsz8:w8.heap.size=w7.heap.size:=by rw[hw8];simp[World.setCell]
   have hx80:=(HX7.out w7 hgrow w.heap.size (by omega) (fun e=>by have:=(hob _ e).1;omega)).trans HX30.out
   have hx81:=(HX7.out w7 hgrow (w.heap.size+1) (by omega) (fun e=>by have:=(hob _ e).1;omega)).trans HX31.out
   have hx82:w8.heap[w.heap.size+2]? = some (.cells #[.int .u8 T.kind,.string T.text,.int .i64 T.num,.int .i64 pl,.slice (some ⟨g7,0,none⟩) (k+1) cap7] 25 (0,0)):=by rw[hw8,heap_set hx72 4 _];rfl
   have hrel8:MvRel w d bb T.kids n #[.int .u8 T.kind,.string T.text,.int .i64 T.num,.int .i64 T.place,.slice (some ⟨b,off,none⟩) n c] (.int .u8 T.kind) (.string T.text) (.int .i64 T.num) (.int .i64 pl) (.int .i64 ((k:Int)+1)) w8:=by
    refine⟨k+1,_,Fs',.slice (some ⟨g7,0,none⟩) (k+1) cap7,by omega,by go_num,?_,?_,?_,hnext.turn hg8 (by omega),(hg8.block _ (by omega) (by simp)).trans hx80,(hg8.block _ (by omega) (by simp)).trans hx81,hx82⟩
    ·rw[List.flatten_append]
     refine owns_keep (w:=w7) (by simpa using hown') fun g hg=>?_
     have h1:=(hown'.lt g hg).1
     have h2:=(hown'.lt g hg).2
     exact hg8.block g h2 (fun e=>by injection e with e;omega)
    ·rw[hw8];exact hb3.setCell (p:=⟨w.heap.size+2,4,none⟩) (by show w.heap.size≤w.heap.size+2;omega) _
    ·omega
   rw[hw8] at hrel8
   exact⟨hrel8,by simp[intOf];omega⟩
  ·obtain rfl:k=n:=by omega
   have hown:=HOwn1.out
   have hrl:=HRL.out
   have hlen:(T.kids.map (atT (mvP bb))).length=k:=by rw[List.length_map];exact HN.out
   have hfin:=own_fin (d:=d) hlen hown hrl (fun h0=>by
    have hr:=HRow.out
    cases hks:T.kids with
    | nil=>rfl
    | cons x l =>
     have:=(hr 0 x (by rw[hks];rfl)).1
     omega)
   obtain⟨pz,cz,rfl⟩:=hfin.shape
   rw[hlen] at hfin HX2
   have HFin:=Hd hfin
   obtain⟨b0,b1,b2,b3,b4⟩:=cells5 HX1.out
   obtain⟨z0,z1,z2,z3,z4⟩:=cells5 HX2.out
   have g0:=frozen5 HX1.out 0
   have g1:=frozen5 HX1.out 1
   have g2:=frozen5 HX1.out 2
   have g3:=frozen5 HX1.out 3
   have g4:=frozen5 HX1.out 4
   obtain⟨Wz,hWz⟩:∃Wz,Wz=set5 wr (w.heap.size+1) (.int .u8 T.kind) (.string T.text) (.int .i64 T.num) (.int .i64 pl) (.slice pz k cz):=⟨_,rfl⟩
   have hother:∀b,w.heap.size+3≤b→Wz.heap[b]? = wr.heap[b]?:=fun b hb2=>by
    rw[hWz]
    exact set5_other (show b≠w.heap.size+1 by omega) _ _ _ _ _
   have hszz:Wz.heap.size=wr.heap.size:=by rw[hWz,set5_size]
   have hbz:Below w.heap.size w Wz:=by
    rw[hWz];unfold set5
    exact (((((HB1.out.setCell (p:=⟨w.heap.size+1,0,none⟩) (Nat.le_succ _) _).setCell (p:=⟨w.heap.size+1,1,none⟩) (Nat.le_succ _) _).setCell (p:=⟨w.heap.size+1,2,none⟩) (Nat.le_succ _) _).setCell (p:=⟨w.heap.size+1,3,none⟩) (Nat.le_succ _) _).setCell (p:=⟨w.heap.size+1,4,none⟩) (Nat.le_succ _) _)
   have hres:Wz.heap[w.heap.size+1]? = some (.cells #[.int .u8 T.kind,.string T.text,.int .i64 T.num,.int .i64 pl,.slice pz k cz] 25 (0,0)):=by
    rw[hWz]
    exact heap_set5 HX1.out _ _ _ _ _
   have HRes:=Hd hres
   have HBz:=Hd hbz
   have HOth:=Hd hother
   have HSzz:=Hd hszz
   have HWz:=Hd hWz
   clear hk hlt hk0 hb hown hrl hlen hfin hWz hother hszz hbz hres
   go_wp2_with fail
   change bodyPost _ _ _ _ _ (set5 wr (w.heap.size+1) (.int .u8 T.kind) (.string T.text) (.int .i64 T.num) (.int .i64 pl) (.slice pz k cz))
   rw[←HWz.out]
   refine ret_node Tryz.results9 rfl HRes.out rfl ⟨_,rfl,HBz.out,?_⟩
   refine (HFin.out.keep fun b o hb ho=>(HOth.out b (by have:=hb.1;omega)).trans ho).sub fun b hb=>?_
   have h1:=hb.1
   have h2:=hb.2
   exact⟨by omega,by rw[HSzz.out];exact h2⟩
theorem mvN_any (b:Int)(hb:0≤b∧b≤1000):∀d,MvN d b:=by
 intro d
 induction d with
 | zero=>exact mvN_of 0 b hb (fun d' h=>by omega)
 | succ d ih =>
  refine mvN_of (d+1) b hb (fun d' h=>?_)
  have e:d'=d:=by omega
  subst e
  exact ih
end Go.Proofs.YtglbjooofdnbkaaGreatDoor
