/- The parser: rules, behind their word; by contract. Condition: at most 16385 tokens, each of at most 16384 bytes. -/
import Derived.Test.YtglbjooofdnbkaaGreatDoorMX
namespace Go.Proofs.YtglbjooofdnbkaaGreatDoor
set_option maxHeartbeats 4000000
set_option maxRecDepth 100000
open Go.RowKit
def SalRel (w:World) (P L cap:Nat) (ts:List Tok) (tx:ByteArray) (a:Int) (r:Int×PS) (bB bR:Nat) (W:World):Prop:=
 Turns w P L cap ts r.2.1 r.2.2 W∧W.heap[bB]? = some (.cells #[.int .u8 4,.string tx,.int .i64 r.1,.int .i64 a,.slice none 0 0] 25 (0,0))∧W.heap[bR]? = some (.cells zeroN 25 (0,0))
def PUpRel (w:World) (P L cap:Nat) (ts:List Tok) (one:PS→Tree×PS) (stop:ByteArray) (R:List Tree×PS) (tx:ByteArray) (num a:Int) (bB bR:Nat) (W:World):Prop:=
 ∃(g:Nat) (ks:List Tree) (σ:PS) (d:Nat) (rows:List (List Value)) (Fs:Nat→Nat→Prop) (o:Value),upTo ts one stop g ks σ=R∧(σ.2=true∨ts.length-σ.1+1≤g)∧ks.length≤σ.1+(if σ.2=true then 1 else 0) ∧
  Turns w P L cap ts σ.1 σ.2 W∧W.heap[bR]? = some (.cells zeroN 25 (0,0))∧W.heap[bB]? = some (.cells #[.int .u8 4,.string tx,.int .i64 num,.int .i64 a,o] 25 (0,0)) ∧
  W.ownsRow (bR+1) 25 5 o ks.length rows.flatten∧RowsOwn W (bR+1) d ks ks.length o.ownBlock rows Fs
def stepsOf (P:Nat) (W:World):Nat:=leftOf P W*2+(match W.cell? ⟨P,1,none⟩ with|some (.bool true)=>0|_=>1)
theorem PAt.steps {w:World}{P L cap:Nat}{ts:List Tok}{k:Nat}{bad:Bool}(h:PAt w P L cap ts k bad):stepsOf P w=(ts.length-k)*2+(if bad=true then 0 else 1):=by
 obtain⟨_,_,_,_,_,c1,_⟩:=h.cells
 unfold stepsOf
 rw[h.left,c1]
 cases bad<;>rfl
theorem salM_small (ts:List Tok)(σ:PS):-2147483647≤(salM ts σ).1∧(salM ts σ).1≤2147483647:=by
 unfold salM
 have h1:=numM_small ts (nextM ts σ)
 have h2:=numM_small ts (nextM ts (nextM ts σ))
 (repeat' split)<;>dsimp only<;>omega
theorem prule_any {ts:List Tok}(hts:TsOk ts):RuleOk ts (ruleM ts):=by
 intro a σ w P L cap ha0 ha1 h
 have hP:=h.lt.1
 have hL:=h.lt.2
 have HTS:=Hd hts
 have HCond:=Hd (pcond_any hts (parg_any hts) (argM_ge ts))
 have HAct:=Hd (pact_any hts)
 obtain⟨i0,hi0,hz0,hz1,hz2⟩:=info_parts infoNode
 obtain⟨wA,hwA⟩:∃wA,wA=(w.alloc (.cells #[.int .u8 0,.string ⟨#[]⟩,.int .i64 0,.int .i64 a,.slice none 0 0] 25)).alloc (.cells zeroN 25):=⟨_,rfl⟩
 obtain⟨bB,hbB⟩:∃b,w.heap.size=b:=⟨_,rfl⟩
 obtain⟨bR,hbR⟩:∃b,w.heap.size+1=b:=⟨_,rfl⟩
 have hbA:Below w.heap.size w wA:=by rw[hwA];exact below_two w _ _
 have HTA:=Hd (h.turns hbA)
 obtain⟨X1,X2,_⟩:=two_new' w (.cells #[.int .u8 0,.string ⟨#[]⟩,.int .i64 0,.int .i64 a,.slice none 0 0] 25) (.cells zeroN 25)
 rw[←hwA,hbB] at X1
 rw[←hwA,hbR] at X2
 have HNA:=Hd X1
 have HXA:=Hd X2
 have HNm:=Hd (pname_any hts HTA.out.2 4 (by omega))
 have hfit:(ofM ts σ 2 4).1.text.size≤16384:=(tokM_ok hts _).2.1
 obtain⟨R,hR⟩:∃R,ruleM ts a σ=R:=⟨_,rfl⟩
 rw[hR]
 unfold ruleM at hR
 dsimp only at hR
 generalize ofM ts σ 2 4=nm at *
 have HR:=Hd hR
 have HFit:=Hd hfit
 clear X1 X2 hR hts h hbA hfit
 go_enter Tryz.func79,Tryz.ntmps79
 go_upto_region 1 with fail
 change Code.wp _ _ _ _ ((w.alloc (.cells #[.int .u8 0,.string ⟨#[]⟩,.int .i64 0,.int .i64 a,.slice none 0 0] 25)).alloc (.cells zeroN 25))
 rw[←hwA]
 have hbR2:bB+1=bR:=by omega
 rw[hbR2]
 have hwB:w.heap.size≤bB:=by omega
 have hBR:bB<bR:=by omega
 have hlA:bR<wA.heap.size:=(Array.getElem?_eq_some_iff.1 HXA.out).1
 have HL:Hid (L<w.heap.size):=hL
 clear hwA hbB hbR hbR2
 go_wp2_with fail
 refine Calls.mono HNm.out ?_
 rintro e w4 ⟨d,s,rfl,hT4,ho,hf⟩
 have HT4:=Hd (HTA.out.trans hT4)
 have HX4:=Hd (hT4.box HXA.out hP (by omega))
 have HN4:=Hd (hT4.box HNA.out hP (by omega))
 have hl4:bR<w4.heap.size:=(Array.getElem?_eq_some_iff.1 HX4.out).1
 have hg4:wA.heap.size≤w4.heap.size:=hT4.1.size
 obtain⟨p,c,rfl⟩:=ho.shape
 have hFT:=run_nodeText nm.1.kind nm.1.text nm.1.num nm.1.place nm.1.kids.length p c w4
 clear hT4 ho hf
 obtain⟨w5,hw5⟩:∃w5,w5=((w4.setCell ⟨bB,0,none⟩ (.int .u8 4)).setCell ⟨bB,1,none⟩ (.string nm.1.text)):=⟨_,rfl⟩
 have hs5:w5.heap.size=w4.heap.size:=by rw[hw5];simp[World.setCell]
 have hl5:bB<w5.heap.size:=by omega
 have HT5:Hid (Turns w P L cap ts nm.2.1 nm.2.2 w5):=by rw[hw5];exact ((HT4.out.setCell hP HL.out (by omega) 0 _).setCell hP HL.out (by omega) 1 _)
 have HX5:Hid (w5.heap[bR]? = some (.cells zeroN 25 (0,0))):=by rw[hw5];exact ((Below.heap_setCell _ _ _ _ (show bR≠bB by omega)).trans ((Below.heap_setCell _ _ _ _ (show bR≠bB by omega)).trans HX4.out))
 have HN5:Hid (w5.heap[bB]? = some (.cells #[.int .u8 4,.string nm.1.text,.int .i64 0,.int .i64 a,.slice none 0 0] 25 (0,0))):=by rw[hw5];exact (heap_set (heap_set HN4.out 0 _) 1 _)
 have f0:=frozen5 HN4.out 0
 have f1:=frozen5 HN4.out 1
 obtain⟨n0,n1,n2,n3,n4⟩:=cells5 HN4.out
 have H5:=Hd hw5
 clear hw5
 go_upto_region 2 with fail
 change Code.wp _ _ _ _ ((w4.setCell ⟨bB,0,none⟩ (.int .u8 4)).setCell ⟨bB,1,none⟩ (.string nm.1.text))
 rw[←H5.out]
 clear n0 n1 n2 n3 n4 f0 f1
 clear hFT
 have hq5:w4.heap.size≤w5.heap.size:=by omega
 clear hs5
 obtain⟨σ2,hσ2⟩:∃x,nm.2=x:=⟨_,rfl⟩
 rw[hσ2] at HT5 HR
 obtain⟨sa,hsa⟩:∃sa,salM ts σ2=sa:=⟨_,rfl⟩
 rw[hsa] at HR
 have HSm:Hid (-2147483647≤sa.1∧sa.1≤2147483647):=by rw[←hsa];exact salM_small ts σ2
 unfold salM at hsa
 have HSa:=Hd hsa
 clear hsa
 have HTB:=Hd (HT5.out.alloc (.cells #[.string tSal] 9))
 have HNB:=Hd ((Below.heap_alloc w5 (.cells #[.string tSal] 9) bB (by omega)).trans HN5.out)
 have HXB:=Hd ((Below.heap_alloc w5 (.cells #[.string tSal] 9) bR (by omega)).trans HX5.out)
 have HSk:=Hd (pskip_res HTB.out.2 w5.heap.size 0 1 1 [tSal] (textsAt_new [tSal]) rfl (by omega))
 go_wp2_with fail
 refine Calls.mono HSk.out ?_
 rintro e w6 ⟨rfl,ht⟩
 have HT6:=Hd (HTB.out.trans ht)
 have HX6:=Hd (ht.box HXB.out hP (by omega))
 have HN6:=Hd (ht.box HNB.out hP (by omega))
 have hl6:bR<w6.heap.size:=(Array.getElem?_eq_some_iff.1 HX6.out).1
 clear ht HTB HNB HXB HSk
 go_upto_if 15 with fail
 go_cut [] from 5 to 27 (fun wx=>SalRel w P L cap ts nm.1.text a sa bB bR wx)
 case rest =>
  obtain⟨hTc,hNc,hXc⟩:=hcut
  have HTc:=Hd hTc
  have HNc:=Hd hNc
  have HXc:=Hd hXc
  have hlc:bR<wc.heap.size:=(Array.getElem?_eq_some_iff.1 hXc).1
  have HW:=Hd (pwant_res hTc.2 tLeft)
  clear hTc hNc hXc
  go_wp2_with fail
  refine Calls.mono HW.out ?_
  rintro e wd ⟨rfl,hTd⟩
  have HTd:=Hd (HTc.out.trans hTd)
  have HXd:=Hd (hTd.box HXc.out hP (by omega))
  have HNd:=Hd (hTd.box HNc.out hP (by omega))
  have hld:bR<wd.heap.size:=(Array.getElem?_eq_some_iff.1 HXd.out).1
  obtain⟨σd,hσd⟩:∃x,wantM ts sa.2 tLeft=x:=⟨_,rfl⟩
  rw[hσd] at HTd HR
  obtain⟨Rc,hRc⟩:∃x,upTo ts (condM ts (argM ts)) tTo (ts.length+1) [] σd=x:=⟨_,rfl⟩
  rw[hRc] at HR
  have HRel:Hid (PUpRel w P L cap ts (condM ts (argM ts)) tTo Rc nm.1.text sa.1 a bB bR wd):=
   ⟨ts.length+1,[],σd,0,[],fun _ _=>False,.slice none 0 0,hRc,Or.inr (by omega),Nat.zero_le _,HTd.out,HXd.out,HNd.out,World.ownsRow_nil _ _ _ _,rows_none _ _ _ _⟩
  clear hTd hσd hRc
  go_wp2_with fail
  go_loopw [32] (fun _ wr=>PUpRel w P L cap ts (condM ts (argM ts)) tTo Rc nm.1.text sa.1 a bB bR wr) (fun _ wr=>stepsOf P wr)
  case atStart=>exact HRel.out
  case round =>
   obtain⟨g,ks,σc,dd,rows,Fs,o,hup,hg,hlen,hT,hx,hn,hown,hrows⟩:=hrel
   have HTr:=Hd hT
   have HUp:=Hd hup
   have HG:=Hd hg
   have HLen:=Hd hlen
   have HXr:=Hd hx
   have HNr:=Hd hn
   have HOwn:=Hd hown
   have HRows:=Hd hrows
   have HSt:=Hd hT.2.steps
   have HGe1:Hid (σc.1≤(condM ts (argM ts) σc).2.1):=condM_ge (argM_ge ts) σc
   clear hup hg hlen hT hx hn hown hrows
   go_upto_region 8 with fail
   go_cut [45] from 32 to 45 (fun v wx=>v=.bool (!σc.2&&!isM ts σc [tTo])∧Below wr.heap.size wr wx)
   case rest =>
    obtain⟨rfl,hbx⟩:=hcut
    have HTx:=Hd (HTr.out.of_below hbx)
    have HXx:=Hd (heap_below hbx HXr.out (Array.getElem?_eq_some_iff.1 HXr.out).1)
    have HNx:=Hd (heap_below hbx HNr.out (Array.getElem?_eq_some_iff.1 HNr.out).1)
    have hPR:P<bR+1:=by omega
    have HOwnx:=Hd (ownsRow_turn HOwn.out (grown_of_below hbx (some P)) hPR)
    have HRowsx:=Hd (HRows.out.turn (grown_of_below hbx (some P)) hPR)
    have hlx:bR<wc.heap.size:=(Array.getElem?_eq_some_iff.1 HXx.out).1
    clear hbx HTr HXr HNr HOwn HRows
    obtain⟨b,hb⟩:∃b,(!σc.2&&!isM ts σc [tTo])=b:=⟨_,rfl⟩
    rw[hb]
    have HB:=Hd hb
    clear hb
    cases b with
    | true =>
     have hnb:σc.2=false:=by have:=HB.out;cases h:σc.2<;>simp[h] at this ⊢
     have hns:isM ts σc [tTo]=false:=by have:=HB.out;rw[hnb] at this;simpa using this
     have hkc:=HTx.out.2.k
     have hkn:=HTx.out.2.n
     have hll:=HLen.out
     rw[hnb] at hll
     simp only[Bool.false_eq_true,if_false,Nat.add_zero] at hll
     obtain⟨g',hg',hR2⟩:∃g',(((condM ts (argM ts)) σc).2.2=true∨ts.length-((condM ts (argM ts)) σc).2.1+1≤g')∧upTo ts (condM ts (argM ts)) tTo g' (ks++[((condM ts (argM ts)) σc).1]) ((condM ts (argM ts)) σc).2=Rc:=by
      have h1:=HUp.out
      have h2:=HG.out
      rw[hnb] at h2
      have h2':ts.length-σc.1+1≤g:=by rcases h2 with h|h;cases h;exact h
      cases g with
      | zero=>omega
      | succ g =>
       unfold upTo at h1
       rw[if_neg (by rw[hnb];decide),if_neg (by rw[hns];decide)] at h1
       refine⟨g,?_,h1⟩
       rcases (condM_on HTS.out (argM_ge ts) (fun _ h=>argM_bad h) hkc) with h|h
       ·exact Or.inl h
       ·exact Or.inr (by omega)
     have hon:=(condM_on HTS.out (argM_ge ts) (fun _ h=>argM_bad h) hkc)
     have HCall:=Hd (HCond.out σc wc.drew P L cap HTx.out.2.drew)
     have HG':=Hd hg'
     have HR2:=Hd hR2
     have HOn:=Hd hon
     have HNb:=Hd hnb
     clear hg' hR2 hon hns hnb
     generalize (condM ts (argM ts)) σc=r at *
     obtain⟨d0,d1',d2',d3,d4⟩:=cells5 HNx.out
     have hbP:bB≠P:=by omega
     have C4:=fun x:RE.Gr wc P=>x.cell d4 hbP
     have hPx:P<wc.heap.size:=HTx.out.2.lt.1
     clear d0 d1' d2' d3 d4
     go_wp2_with fail
     refine RE.wp_region_eff (by kernel_rfl) 5 [3,4] [3,4] (fun s W=>if s=0 then W=wc.drew else Turns wc P L cap ts r.2.1 r.2.2 W) (fun W W'=>W.grownBy W' (some P))
      (fun i xs=>if i=3 then .agg #[.int .u8 r.1.kind,.string r.1.text,.int .i64 r.1.num,.int .i64 r.1.place,xs.getD 0 undef] else .slice (some ⟨RE.natOf xs,0,none⟩) 1 1)
      (fun i W xs=>if i=3 then GotN wc.heap.size r.1 W xs else GotL wc.heap.size r.1 W xs) (by kernel_rfl) (fun i h1 h2=>by rw[h1] at h2;cases h2) ?_ rfl ?_
     ·intro k W W' xs h _ hg
      split at h
      ·rw[if_pos (by assumption)];exact h.grown hPx hg
      ·rw[if_neg (by assumption)];exact h.grown hPx hg
     simp only[List.take_succ_cons,List.take_zero,List.drop_succ_cons,List.drop_zero,List.length_cons,List.length_nil,Nat.reduceAdd]
     have hcl:∀(n s:Nat) (W:World),s≤n→(if s=0 then W=wc.drew else Turns wc P L cap ts r.2.1 r.2.2 W)→∃x:RE.Gr wc P,W=x.1:=fun n s W _ h=>by
      split at h
      ·exact⟨⟨W,by rw[h];exact grown_drewN (World.grownBy.refl wc _) 1⟩,rfl⟩
      ·exact⟨⟨W,h.1⟩,rfl⟩
     have HCl:=Hd hcl
     clear hcl
     repeat (refine RE.wpE_read (fun W=>∃x:RE.Gr wc P,W=x.1) (HCl.out _) rfl rfl rfl rfl ?_;go_big_quiet_step (fail);refine wpQuiet_nil ?_)
     refine RE.wpE_turn rfl rfl ?_ (fun xs3=>?_)
     ·intro W _ hS _
      obtain rfl:W=wc.drew:=hS rfl
      refine RE.upon_call 105 _ _ rfl (enters_of Tryz.func105 (by kernel_rfl) rfl) #[.pointer (some ⟨P,0,none⟩)] (by simp[Act.eval]) (HCall.out.mono ?_)
      rintro e W' ⟨d,s,rfl,hT,ho,hf⟩
      exact⟨_,rfl,[s],rfl,hT.of_drew,hT.1,⟨d,s,rfl,ho,hf⟩⟩
     simp only[Act.put,List.setIfInBounds_toArray,List.set_cons_zero,List.set_cons_succ]
     refine RE.wpE_turn rfl rfl ?_ (fun xs4=>?_)
     ·intro W _ hS hφ
      have hT:Turns wc P L cap ts r.2.1 r.2.2 W:=hS rfl
      obtain⟨d,s,rfl,ho,hf⟩:GotN wc.heap.size r.1 W xs3:=hφ 3 xs3 (by kernel_rfl) rfl
      obtain⟨p,c,rfl⟩:=ho.shape
      refine RE.Upon.told (v:=.slice (some ⟨W.heap.size,0,none⟩) 1 1) (w':=W.alloc (.cells (nodeCells r.1 (.slice p r.1.kids.length c)).toArray 25)) ?_ ⟨[.int .i64 W.heap.size],rfl,hT.alloc _,?_,?_⟩
      ·unfold RE.Upon
       go_simp
       rfl
      ·exact grown_of_below ((Below.refl _ W).alloc (Nat.le_refl _) _) _
      ·refine⟨d,W.heap.size,W.heap.size,_,rfl,heap_alloc_new W _,?_,hf,hT.1.size,Nat.le_refl _⟩
       exact ho.below (fun b hb=>hb.2) ((Below.refl _ W).alloc (Nat.le_refl _) _)
     simp only[Act.put,List.setIfInBounds_toArray,List.set_cons_zero,List.set_cons_succ]
     refine RE.wpE_nil ?_
     intro W3 hS hE
     have hT3:Turns wc P L cap ts r.2.1 r.2.2 W3:=hS
     obtain⟨d2,gg,N,s2,rfl,hgg,ho2,hf2,hN1,hN2⟩:=(show GotL wc.heap.size r.1 W3 xs4 from hE 4 xs4 rfl)
     have hl3:wc.heap.size≤W3.heap.size:=hT3.1.size
     have hown3:=ownsRow_turn HOwnx.out hT3.1 (by omega)
     refine wpList_append_lies W3 rfl (.tmp 47) (.tmp 50) 23 rfl (bR+1) 25 i0 _ 5 64 Tryz.underlying23 hi0 hz0 hz1 hz2 rfl (by decide) o ks.length rows.flatten rfl hown3 ⟨gg,0,none⟩ 1 1 (nodeCells r.1 s2) rfl rfl
      (fun j u hu=>by rw[Addr.add_mid,cell_of_row _ _ _ _ _ _ hgg,Nat.zero_add];simpa using hu) (by have:=ho2.shape;obtain⟨p,c,rfl⟩:=this;simp[Value.oneCell',nodeCells]) (by decide) (by unfold maxLen;omega) (by omega) (by omega) _ rfl ?_
     intro g7 cap7 w7 happ hgrow hlies _
     obtain⟨d',rows',Fs',u1,u2,u3,u4,u5,u6⟩:=up_next (w:=w) hP HL.out hwB (show bB<(bR+1) by omega) (by omega) HTx.out HNx.out HOwnx.out HRowsx.out hT3 hgg ho2 hf2 hN1 hN2 happ hgrow hlies
     have x4:=frozen5 u6 4
     obtain⟨d0,d1',d2',d3,d4⟩:=cells5 u6
     obtain⟨Wn,hWn⟩:∃Wn,Wn=w7.setCell ⟨bB,4,none⟩ (.slice (some ⟨g7,0,none⟩) (ks.length+1) cap7):=⟨_,rfl⟩
     rw[←hWn] at u1 u2 u3 u4 u5
     have hlen':(ks++[r.1]).length≤r.2.1+(if r.2.2=true then 1 else 0):=by
      have h1:=u1.2.k
      rw[List.length_append,List.length_singleton]
      rcases HOn.out with h|h
      ·rw[if_pos h]
       have:=HGe1.out
       omega
      ·split<;>omega
     have HRel2:Hid (PUpRel w P L cap ts (condM ts (argM ts)) tTo Rc nm.1.text sa.1 a bB bR Wn):=
      ⟨g',_,r.2,d',rows',Fs',_,HR2.out,HG'.out,hlen',u1,(u2 bR (by omega) (by omega) (by omega)).trans HXx.out,u3,u4,u5⟩
     have HMeas:Hid (stepsOf P Wn<stepsOf P wr):=by
      show _<_
      rw[u1.2.steps,HSt.out,if_neg (show ¬σc.2=true by rw[HNb.out];decide)]
      have h1:=u1.2.k
      have h3:=HGe1.out
      rcases HOn.out with h|h
      ·rw[if_pos h];omega
      ·split<;>omega
     have HWn:=Hd hWn
     clear u1 u2 u3 u4 u5 hlen' hlies hgrow happ hE hS hT3 hown3 hgg ho2 C4
     go_wp2_with fail
     rw[←HWn.out]
     exact⟨HRel2.out,HMeas.out⟩
    | false =>
     have hRR:(ks,σc)=Rc:=by
      rw[←HUp.out]
      have h2:=HB.out
      cases g with
      | zero=>rfl
      | succ g =>
       unfold upTo
       by_cases hbb:σc.2=true
       ·rw[if_pos hbb]
       ·rw[if_neg hbb,if_pos (by simpa [hbb] using h2)]
     subst hRR
     have HW2:=Hd (pwant_res HTx.out.2 tTo)
     dsimp only at HR
     go_wp2_with fail
     refine Calls.mono HW2.out ?_
     rintro e we ⟨rfl,hTe⟩
     have HTe:=Hd (HTx.out.trans hTe)
     have HXe:=Hd (hTe.box HXx.out hP (by omega))
     have HNe:=Hd (hTe.box HNx.out hP (by omega))
     have HOwne:=Hd (ownsRow_turn HOwnx.out hTe.1 hPR)
     have HRowse:=Hd (HRowsx.out.turn hTe.1 hPR)
     have hle:bR<we.heap.size:=(Array.getElem?_eq_some_iff.1 HXe.out).1
     have hwge:=wantM_ge ts σc tTo
     have hwb:σc.2=true→(wantM ts σc tTo).2=true:=fun h=>wantM_bad h tTo
     clear hTe
     obtain⟨σe,hσe⟩:∃x,wantM ts σc tTo=x:=⟨_,rfl⟩
     rw[hσe] at HTe HR hwge hwb
     obtain⟨Rz,hRz⟩:∃x,upTo ts (actM ts) tRight (ts.length+1) ks σe=x:=⟨_,rfl⟩
     rw[hRz] at HR
     have hlene:ks.length≤σe.1+(if σe.2=true then 1 else 0):=by
      have h1:=HLen.out
      by_cases h:σc.2=true
      ·rw[if_pos h] at h1;rw[if_pos (hwb h)];omega
      ·rw[if_neg h] at h1;omega
     have HRelZ:Hid (PUpRel w P L cap ts (actM ts) tRight Rz nm.1.text sa.1 a bB bR we):=
      ⟨ts.length+1,ks,σe,dd,rows,Fs,o,hRz,Or.inr (by omega),hlene,HTe.out,HXe.out,HNe.out,HOwne.out,HRowse.out⟩
     clear hσe hRz hlene hwge hwb HUp HG HLen HB HOwne HRowse HOwnx HRowsx HNx HXx HTx HNe HXe HTe
     clear hlx hPR
     go_wp2_with fail
     go_loopw [57] (fun _ wr=>PUpRel w P L cap ts (actM ts) tRight Rz nm.1.text sa.1 a bB bR wr) (fun _ wr=>stepsOf P wr)
     case atStart=>exact HRelZ.out
     case round =>
      obtain⟨g,ks,σc,dd,rows,Fs,o,hup,hg,hlen,hT,hx,hn,hown,hrows⟩:=hrel
      have HTr:=Hd hT
      have HUp:=Hd hup
      have HG:=Hd hg
      have HLen:=Hd hlen
      have HXr:=Hd hx
      have HNr:=Hd hn
      have HOwn:=Hd hown
      have HRows:=Hd hrows
      have HSt:=Hd hT.2.steps
      have HGe2:Hid (σc.1≤(actM ts σc).2.1):=actM_ge ts σc
      clear hup hg hlen hT hx hn hown hrows
      go_upto_region 11 with fail
      go_cut [70] from 57 to 70 (fun v wx=>v=.bool (!σc.2&&!isM ts σc [tRight])∧Below wr.heap.size wr wx)
      case rest =>
       obtain⟨rfl,hbx⟩:=hcut
       have HTx:=Hd (HTr.out.of_below hbx)
       have HXx:=Hd (heap_below hbx HXr.out (Array.getElem?_eq_some_iff.1 HXr.out).1)
       have HNx:=Hd (heap_below hbx HNr.out (Array.getElem?_eq_some_iff.1 HNr.out).1)
       have hPR:P<bR+1:=by omega
       have HOwnx:=Hd (ownsRow_turn HOwn.out (grown_of_below hbx (some P)) hPR)
       have HRowsx:=Hd (HRows.out.turn (grown_of_below hbx (some P)) hPR)
       have hlx:bR<wc.heap.size:=(Array.getElem?_eq_some_iff.1 HXx.out).1
       clear hbx HTr HXr HNr HOwn HRows
       obtain⟨b,hb⟩:∃b,(!σc.2&&!isM ts σc [tRight])=b:=⟨_,rfl⟩
       rw[hb]
       have HB:=Hd hb
       clear hb
       cases b with
       | true =>
        have hnb:σc.2=false:=by have:=HB.out;cases h:σc.2<;>simp[h] at this ⊢
        have hns:isM ts σc [tRight]=false:=by have:=HB.out;rw[hnb] at this;simpa using this
        have hkc:=HTx.out.2.k
        have hkn:=HTx.out.2.n
        have hll:=HLen.out
        rw[hnb] at hll
        simp only[Bool.false_eq_true,if_false,Nat.add_zero] at hll
        obtain⟨g',hg',hR2⟩:∃g',(((actM ts) σc).2.2=true∨ts.length-((actM ts) σc).2.1+1≤g')∧upTo ts (actM ts) tRight g' (ks++[((actM ts) σc).1]) ((actM ts) σc).2=Rz:=by
         have h1:=HUp.out
         have h2:=HG.out
         rw[hnb] at h2
         have h2':ts.length-σc.1+1≤g:=by rcases h2 with h|h;cases h;exact h
         cases g with
         | zero=>omega
         | succ g =>
          unfold upTo at h1
          rw[if_neg (by rw[hnb];decide),if_neg (by rw[hns];decide)] at h1
          refine⟨g,?_,h1⟩
          rcases (actM_on HTS.out hkc) with h|h
          ·exact Or.inl h
          ·exact Or.inr (by omega)
        have hon:=(actM_on HTS.out hkc)
        have HCall:=Hd (HAct.out σc wc.drew P L cap HTx.out.2.drew)
        have HG':=Hd hg'
        have HR2:=Hd hR2
        have HOn:=Hd hon
        have HNb:=Hd hnb
        clear hg' hR2 hon hns hnb
        generalize (actM ts) σc=r at *
        obtain⟨d0,d1',d2',d3,d4⟩:=cells5 HNx.out
        have hbP:bB≠P:=by omega
        have C4:=fun x:RE.Gr wc P=>x.cell d4 hbP
        have hPx:P<wc.heap.size:=HTx.out.2.lt.1
        clear d0 d1' d2' d3 d4
        go_wp2_with fail
        refine RE.wp_region_eff (by kernel_rfl) 5 [3,4] [3,4] (fun s W=>if s=0 then W=wc.drew else Turns wc P L cap ts r.2.1 r.2.2 W) (fun W W'=>W.grownBy W' (some P))
         (fun i xs=>if i=3 then .agg #[.int .u8 r.1.kind,.string r.1.text,.int .i64 r.1.num,.int .i64 r.1.place,xs.getD 0 undef] else .slice (some ⟨RE.natOf xs,0,none⟩) 1 1)
         (fun i W xs=>if i=3 then GotN wc.heap.size r.1 W xs else GotL wc.heap.size r.1 W xs) (by kernel_rfl) (fun i h1 h2=>by rw[h1] at h2;cases h2) ?_ rfl ?_
        ·intro k W W' xs h _ hg
         split at h
         ·rw[if_pos (by assumption)];exact h.grown hPx hg
         ·rw[if_neg (by assumption)];exact h.grown hPx hg
        simp only[List.take_succ_cons,List.take_zero,List.drop_succ_cons,List.drop_zero,List.length_cons,List.length_nil,Nat.reduceAdd]
        have hcl:∀(n s:Nat) (W:World),s≤n→(if s=0 then W=wc.drew else Turns wc P L cap ts r.2.1 r.2.2 W)→∃x:RE.Gr wc P,W=x.1:=fun n s W _ h=>by
         split at h
         ·exact⟨⟨W,by rw[h];exact grown_drewN (World.grownBy.refl wc _) 1⟩,rfl⟩
         ·exact⟨⟨W,h.1⟩,rfl⟩
        have HCl:=Hd hcl
        clear hcl
        repeat (refine RE.wpE_read (fun W=>∃x:RE.Gr wc P,W=x.1) (HCl.out _) rfl rfl rfl rfl ?_;go_big_quiet_step (fail);refine wpQuiet_nil ?_)
        refine RE.wpE_turn rfl rfl ?_ (fun xs3=>?_)
        ·intro W _ hS _
         obtain rfl:W=wc.drew:=hS rfl
         refine RE.upon_call 106 _ _ rfl (enters_of Tryz.func106 (by kernel_rfl) rfl) #[.pointer (some ⟨P,0,none⟩)] (by simp[Act.eval]) (HCall.out.mono ?_)
         rintro e W' ⟨d,s,rfl,hT,ho,hf⟩
         exact⟨_,rfl,[s],rfl,hT.of_drew,hT.1,⟨d,s,rfl,ho,hf⟩⟩
        simp only[Act.put,List.setIfInBounds_toArray,List.set_cons_zero,List.set_cons_succ]
        refine RE.wpE_turn rfl rfl ?_ (fun xs4=>?_)
        ·intro W _ hS hφ
         have hT:Turns wc P L cap ts r.2.1 r.2.2 W:=hS rfl
         obtain⟨d,s,rfl,ho,hf⟩:GotN wc.heap.size r.1 W xs3:=hφ 3 xs3 (by kernel_rfl) rfl
         obtain⟨p,c,rfl⟩:=ho.shape
         refine RE.Upon.told (v:=.slice (some ⟨W.heap.size,0,none⟩) 1 1) (w':=W.alloc (.cells (nodeCells r.1 (.slice p r.1.kids.length c)).toArray 25)) ?_ ⟨[.int .i64 W.heap.size],rfl,hT.alloc _,?_,?_⟩
         ·unfold RE.Upon
          go_simp
          rfl
         ·exact grown_of_below ((Below.refl _ W).alloc (Nat.le_refl _) _) _
         ·refine⟨d,W.heap.size,W.heap.size,_,rfl,heap_alloc_new W _,?_,hf,hT.1.size,Nat.le_refl _⟩
          exact ho.below (fun b hb=>hb.2) ((Below.refl _ W).alloc (Nat.le_refl _) _)
        simp only[Act.put,List.setIfInBounds_toArray,List.set_cons_zero,List.set_cons_succ]
        refine RE.wpE_nil ?_
        intro W3 hS hE
        have hT3:Turns wc P L cap ts r.2.1 r.2.2 W3:=hS
        obtain⟨d2,gg,N,s2,rfl,hgg,ho2,hf2,hN1,hN2⟩:=(show GotL wc.heap.size r.1 W3 xs4 from hE 4 xs4 rfl)
        have hl3:wc.heap.size≤W3.heap.size:=hT3.1.size
        have hown3:=ownsRow_turn HOwnx.out hT3.1 (by omega)
        refine wpList_append_lies W3 rfl (.tmp 72) (.tmp 75) 23 rfl (bR+1) 25 i0 _ 5 64 Tryz.underlying23 hi0 hz0 hz1 hz2 rfl (by decide) o ks.length rows.flatten rfl hown3 ⟨gg,0,none⟩ 1 1 (nodeCells r.1 s2) rfl rfl
         (fun j u hu=>by rw[Addr.add_mid,cell_of_row _ _ _ _ _ _ hgg,Nat.zero_add];simpa using hu) (by have:=ho2.shape;obtain⟨p,c,rfl⟩:=this;simp[Value.oneCell',nodeCells]) (by decide) (by unfold maxLen;omega) (by omega) (by omega) _ rfl ?_
        intro g7 cap7 w7 happ hgrow hlies _
        obtain⟨d',rows',Fs',u1,u2,u3,u4,u5,u6⟩:=up_next (w:=w) hP HL.out hwB (show bB<(bR+1) by omega) (by omega) HTx.out HNx.out HOwnx.out HRowsx.out hT3 hgg ho2 hf2 hN1 hN2 happ hgrow hlies
        have x4:=frozen5 u6 4
        obtain⟨d0,d1',d2',d3,d4⟩:=cells5 u6
        obtain⟨Wn,hWn⟩:∃Wn,Wn=w7.setCell ⟨bB,4,none⟩ (.slice (some ⟨g7,0,none⟩) (ks.length+1) cap7):=⟨_,rfl⟩
        rw[←hWn] at u1 u2 u3 u4 u5
        have hlen':(ks++[r.1]).length≤r.2.1+(if r.2.2=true then 1 else 0):=by
         have h1:=u1.2.k
         rw[List.length_append,List.length_singleton]
         rcases HOn.out with h|h
         ·rw[if_pos h]
          have:=HGe2.out
          omega
         ·split<;>omega
        have HRel2:Hid (PUpRel w P L cap ts (actM ts) tRight Rz nm.1.text sa.1 a bB bR Wn):=
         ⟨g',_,r.2,d',rows',Fs',_,HR2.out,HG'.out,hlen',u1,(u2 bR (by omega) (by omega) (by omega)).trans HXx.out,u3,u4,u5⟩
        have HMeas:Hid (stepsOf P Wn<stepsOf P wr):=by
         show _<_
         rw[u1.2.steps,HSt.out,if_neg (show ¬σc.2=true by rw[HNb.out];decide)]
         have h1:=u1.2.k
         have h3:=HGe2.out
         rcases HOn.out with h|h
         ·rw[if_pos h];omega
         ·split<;>omega
        have HWn:=Hd hWn
        clear u1 u2 u3 u4 u5 hlen' hlies hgrow happ hE hS hT3 hown3 hgg ho2 C4
        go_wp2_with fail
        rw[←HWn.out]
        exact⟨HRel2.out,HMeas.out⟩
       | false =>
        have hRR:(ks,σc)=Rz:=by
         rw[←HUp.out]
         have h2:=HB.out
         cases g with
         | zero=>rfl
         | succ g =>
          unfold upTo
          by_cases hbb:σc.2=true
          ·rw[if_pos hbb]
          ·rw[if_neg hbb,if_pos (by simpa [hbb] using h2)]
        subst hRR
        have HW2:=Hd (pwant_res HTx.out.2 tRight)
        dsimp only at HR
        go_wp2_with fail
        refine Calls.mono HW2.out ?_
        rintro e wz ⟨rfl,hTz⟩
        have HTz:=Hd (HTx.out.trans hTz)
        have HXz:=Hd (hTz.box HXx.out hP (by omega))
        have HNz:=Hd (hTz.box HNx.out hP (by omega))
        have hown:=ownsRow_turn HOwnx.out hTz.1 hPR
        have hrows:=HRowsx.out.turn hTz.1 hPR
        have hO:=own_fin (d:=dd+1) rfl hown hrows (fun h=>by omega)
        obtain⟨p,c,rfl⟩:=hO.shape
        have HO:=Hd hO
        have hlz:bR<wz.heap.size:=(Array.getElem?_eq_some_iff.1 HXz.out).1
        clear hTz hO hown hrows
        obtain⟨n0,n1,n2,n3,n4⟩:=cells5 HNz.out
        obtain⟨a0,a1,a2,a3,a4⟩:=cells5 HXz.out
        have z0:=frozen5 HXz.out 0
        have z1:=frozen5 HXz.out 1
        have z2:=frozen5 HXz.out 2
        have z3:=frozen5 HXz.out 3
        have z4:=frozen5 HXz.out 4
        go_wp2_with fail
        refine ret_node Tryz.results79 rfl (heap_set5 HXz.out _ _ _ _ _) rfl ?_
        rw[←HR.out]
        have hfit:Fits (.mk 4 nm.1.text sa.1 a ks):=by
         have h1:=HFit.out
         have h2:=HSm.out
         refine⟨by show 4<256;omega,by show nm.1.text.size≤maxLen;unfold maxLen;omega,by show (-9223372036854775808:Int)≤sa.1;omega,by show sa.1<9223372036854775808;omega,by show (-9223372036854775808:Int)≤a;omega,by show a<9223372036854775808;omega⟩
        exact NodeRes.stored (r:=(.mk 4 nm.1.text sa.1 a ks,wantM ts σc tRight)) (B:=bR+1) hP HL.out HTz.out HO.out hfit (by omega) (by omega) _ _ _ _ _
      case first =>
       obtain⟨_,_,_,_,_,c1,_,_⟩:=HTr.out.2.cells
       have hbw:Below wr.heap.size wr (wr.alloc (.cells #[.string tRight] 9)):=(Below.refl _ wr).alloc (Nat.le_refl _) _
       have HIs:=Hd (pis_any (HTr.out.2.below hbw) (tokM_at HTr.out.2.k) wr.heap.size 0 1 1 [tRight] (textsAt_new [tRight]) rfl (by omega))
       have HBw:=Hd hbw
       clear hbw
       cases hb:σc.2 with
       | true =>
        rw[hb] at c1
        have HBb:=Hd hb
        clear hb
        go_wp2_with fail
        go_meet
        case rel=>exact⟨by rw[HBb.out];rfl,Below.refl _ _⟩
       | false =>
        rw[hb] at c1 HIs
        have hi:isM ts σc [tRight]=(!false&&isT (tokM ts σc.1) [tRight]):=by unfold isM;rw[hb]
        generalize (!false&&isT (tokM ts σc.1) [tRight])=bi at *
        have HBb:=Hd hb
        have HI:=Hd hi
        clear hb hi
        go_wp2_with fail
        refine Calls.mono HIs.out ?_
        rintro e wx ⟨rfl,hbx⟩
        have HBx:=Hd hbx
        clear hbx
        go_wp2_with fail
        go_meet
        case rel=>exact⟨by rw[HBb.out,HI.out];cases bi<;>rfl,HBw.out.trans (HBx.out.mono HBw.out.size)⟩
   case first =>
    obtain⟨_,_,_,_,_,c1,_,_⟩:=HTr.out.2.cells
    have hbw:Below wr.heap.size wr (wr.alloc (.cells #[.string tTo] 9)):=(Below.refl _ wr).alloc (Nat.le_refl _) _
    have HIs:=Hd (pis_any (HTr.out.2.below hbw) (tokM_at HTr.out.2.k) wr.heap.size 0 1 1 [tTo] (textsAt_new [tTo]) rfl (by omega))
    have HBw:=Hd hbw
    clear hbw
    cases hb:σc.2 with
    | true =>
     rw[hb] at c1
     have HBb:=Hd hb
     clear hb
     go_wp2_with fail
     go_meet
     case rel=>exact⟨by rw[HBb.out];rfl,Below.refl _ _⟩
    | false =>
     rw[hb] at c1 HIs
     have hi:isM ts σc [tTo]=(!false&&isT (tokM ts σc.1) [tTo]):=by unfold isM;rw[hb]
     generalize (!false&&isT (tokM ts σc.1) [tTo])=bi at *
     have HBb:=Hd hb
     have HI:=Hd hi
     clear hb hi
     go_wp2_with fail
     refine Calls.mono HIs.out ?_
     rintro e wx ⟨rfl,hbx⟩
     have HBx:=Hd hbx
     clear hbx
     go_wp2_with fail
     go_meet
     case rel=>exact⟨by rw[HBb.out,HI.out];cases bi<;>rfl,HBw.out.trans (HBx.out.mono HBw.out.size)⟩
 case first =>
  by_cases hm:isM ts σ2 [tSal]=true
  ·have hR:=HSa.out
   rw[if_pos hm] at hR
   have hsk:skipM ts σ2 [tSal]=nextM ts σ2:=by unfold skipM;rw[if_pos hm]
   rw[hsk] at HT6
   have hm':isM ts σ2 [tSal]=true:=by simpa using hm
   rw[hm']
   have HS1:=Hd hR
   clear hR hsk hm hm'
   obtain⟨σ3,hσ3⟩:∃x,nextM ts σ2=x:=⟨_,rfl⟩
   rw[hσ3] at HT6 HS1
   clear hσ3
   have HTB:=Hd (HT6.out.alloc (.cells #[.string tMinus] 9))
   have HNB:=Hd ((Below.heap_alloc w6 (.cells #[.string tMinus] 9) bB (by omega)).trans HN6.out)
   have HXB:=Hd ((Below.heap_alloc w6 (.cells #[.string tMinus] 9) bR (by omega)).trans HX6.out)
   have HSk:=Hd (pskip_res HTB.out.2 w6.heap.size 0 1 1 [tMinus] (textsAt_new [tMinus]) rfl (by omega))
   go_wp2_with fail
   refine Calls.mono HSk.out ?_
   rintro e w7 ⟨rfl,ht⟩
   have HT7:=Hd (HTB.out.trans ht)
   have HX7:=Hd (ht.box HXB.out hP (by omega))
   have HN7:=Hd (ht.box HNB.out hP (by omega))
   have hl7:bR<w7.heap.size:=(Array.getElem?_eq_some_iff.1 HX7.out).1
   clear ht HTB HNB HXB HSk
   by_cases hm:isM ts σ3 [tMinus]=true
   ·have hR:=HS1.out
    rw[if_pos hm] at hR
    have hsk:skipM ts σ3 [tMinus]=nextM ts σ3:=by unfold skipM;rw[if_pos hm]
    rw[hsk] at HT7
    have hm':isM ts σ3 [tMinus]=true:=by simpa using hm
    rw[hm']
    have HS2:=Hd hR
    clear hR hsk hm hm'
    have HNu:=Hd (pnumber_any HTS.out (σ:=(nextM ts σ3)) HT7.out.2)
    have hsm:=numM_small ts (nextM ts σ3)
    generalize numM ts (nextM ts σ3)=nu at *
    have hsm2:(nu.1:Int)≤2147483647:=by omega
    go_wp2_with fail
    refine Calls.mono HNu.out ?_
    rintro e w8 ⟨rfl,hT8⟩
    have HT8:=Hd (HT7.out.trans hT8)
    have HX8:=Hd (hT8.box HX7.out hP (by omega))
    have HN8:=Hd (hT8.box HN7.out hP (by omega))
    have hl8:bR<w8.heap.size:=(Array.getElem?_eq_some_iff.1 HX8.out).1
    have hg8:w7.heap.size≤w8.heap.size:=hT8.1.size
    clear hT8
    obtain⟨w9,hw9⟩:∃w9,w9=(w8.setCell ⟨bB,2,none⟩ (.int .i64 (-(nu.1:Int)))):=⟨_,rfl⟩
    have hs9:w9.heap.size=w8.heap.size:=by rw[hw9];simp[World.setCell]
    have hl9:bB<w9.heap.size:=by omega
    have HT9:Hid (Turns w P L cap ts nu.2.1 nu.2.2 w9):=by rw[hw9];exact (HT8.out.setCell hP HL.out (by omega) 2 _)
    have HX9:Hid (w9.heap[bR]? = some (.cells zeroN 25 (0,0))):=by rw[hw9];exact ((Below.heap_setCell _ _ _ _ (show bR≠bB by omega)).trans HX8.out)
    have HN9:Hid (w9.heap[bB]? = some (.cells #[.int .u8 4,.string nm.1.text,.int .i64 (-(nu.1:Int)),.int .i64 a,.slice none 0 0] 25 (0,0))):=by rw[hw9];exact (heap_set HN8.out 2 _)
    have f2:=frozen5 HN8.out 2
    obtain⟨n0,n1,n2,n3,n4⟩:=cells5 HN8.out
    have H9:=Hd hw9
    clear hw9
    go_wp2_with fail
    go_meet
    case rel =>
    rw[←H9.out]
    clear n0 n1 n2 n3 n4 f2
    rw[←HS2.out]
    exact⟨HT9.out,HN9.out,HX9.out⟩
   ·have hR:=HS1.out
    rw[if_neg hm] at hR
    have hsk:skipM ts σ3 [tMinus]=σ3:=by unfold skipM;rw[if_neg hm]
    rw[hsk] at HT7
    have hm':isM ts σ3 [tMinus]=false:=by simpa using hm
    rw[hm']
    have HS2:=Hd hR
    clear hR hsk hm hm'
    have HNu:=Hd (pnumber_any HTS.out (σ:=σ3) HT7.out.2)
    have hsm:=numM_small ts σ3
    generalize numM ts σ3=nu at *
    have hsm2:(nu.1:Int)≤2147483647:=by omega
    go_wp2_with fail
    refine Calls.mono HNu.out ?_
    rintro e w8 ⟨rfl,hT8⟩
    have HT8:=Hd (HT7.out.trans hT8)
    have HX8:=Hd (hT8.box HX7.out hP (by omega))
    have HN8:=Hd (hT8.box HN7.out hP (by omega))
    have hl8:bR<w8.heap.size:=(Array.getElem?_eq_some_iff.1 HX8.out).1
    have hg8:w7.heap.size≤w8.heap.size:=hT8.1.size
    clear hT8
    obtain⟨w9,hw9⟩:∃w9,w9=(w8.setCell ⟨bB,2,none⟩ (.int .i64 nu.1)):=⟨_,rfl⟩
    have hs9:w9.heap.size=w8.heap.size:=by rw[hw9];simp[World.setCell]
    have hl9:bB<w9.heap.size:=by omega
    have HT9:Hid (Turns w P L cap ts nu.2.1 nu.2.2 w9):=by rw[hw9];exact (HT8.out.setCell hP HL.out (by omega) 2 _)
    have HX9:Hid (w9.heap[bR]? = some (.cells zeroN 25 (0,0))):=by rw[hw9];exact ((Below.heap_setCell _ _ _ _ (show bR≠bB by omega)).trans HX8.out)
    have HN9:Hid (w9.heap[bB]? = some (.cells #[.int .u8 4,.string nm.1.text,.int .i64 nu.1,.int .i64 a,.slice none 0 0] 25 (0,0))):=by rw[hw9];exact (heap_set HN8.out 2 _)
    have f2:=frozen5 HN8.out 2
    obtain⟨n0,n1,n2,n3,n4⟩:=cells5 HN8.out
    have H9:=Hd hw9
    clear hw9
    go_wp2_with fail
    go_meet
    case rel =>
    rw[←H9.out]
    clear n0 n1 n2 n3 n4 f2
    rw[←HS2.out]
    exact⟨HT9.out,HN9.out,HX9.out⟩
  ·have hR:=HSa.out
   rw[if_neg hm] at hR
   have hsk:skipM ts σ2 [tSal]=σ2:=by unfold skipM;rw[if_neg hm]
   rw[hsk] at HT6
   have hm':isM ts σ2 [tSal]=false:=by simpa using hm
   rw[hm']
   have HS1:=Hd hR
   clear hR hsk hm hm'
   go_wp2_with fail
   go_meet
   case rel =>
   rw[←HS1.out]
   exact⟨HT6.out,HN6.out,HX6.out⟩
end Go.Proofs.YtglbjooofdnbkaaGreatDoor
