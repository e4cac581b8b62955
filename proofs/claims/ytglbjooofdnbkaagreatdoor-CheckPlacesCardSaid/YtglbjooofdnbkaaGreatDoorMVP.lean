/- Several texts joined, each with its own sentence and conditions ahead of it: ParsA, OwnA, OwnB. -/
import Derived.Test.YtglbjooofdnbkaaGreatDoorMC
import Derived.Test.YtglbjooofdnbkaaGreatDoorMF
import Derived.Test.YtglbjooofdnbkaaGreatDoorMT
import Derived.Handy
import Derived.Test.YtglbjooofdnbkaaGreatDoorMP
import Derived.Test.YtglbjooofdnbkaaGreatDoorMA
import Derived.Deep.AppendLies
namespace Go.Proofs.YtglbjooofdnbkaaGreatDoor
open Go.RowKit
structure PAt (w:World) (P L cap:Nat) (ts:List Tok) (k:Nat) (bad:Bool):Prop where
 p:∃m c,m+k=ts.length∧c+k=cap∧w.heap[P]? = some (.cells #[.slice (some ⟨L,k*3,none⟩) m c,.bool bad] 116 (0,0))
 l:∃cs:Array Value,w.heap[L]? = some (.cells cs 119 (0,0))∧∀(j:Nat) (u:Value),(lexCells ts)[j]? = some u→cs[j]? = some u
 k:k<ts.length
 n:ts.length≤16385
 c:ts.length≤cap
 m:cap≤maxLen
theorem PAt.lt {w:World}{P L cap:Nat}{ts:List Tok}{k:Nat}{bad:Bool}(h:PAt w P L cap ts k bad):P<w.heap.size∧L<w.heap.size:=by
 obtain⟨m,c,_,_,h1⟩:=h.p
 obtain⟨cs,h2,_⟩:=h.l
 exact⟨(Array.getElem?_eq_some_iff.1 h1).1,(Array.getElem?_eq_some_iff.1 h2).1⟩
theorem PAt.ne {w:World}{P L cap:Nat}{ts:List Tok}{k:Nat}{bad:Bool}(h:PAt w P L cap ts k bad):P≠L:=by
 obtain⟨m,c,_,_,h1⟩:=h.p
 obtain⟨cs,h2,_⟩:=h.l
 exact ne_of_type h1 h2 (by decide)
theorem PAt.keep {w w':World}{P L cap:Nat}{ts:List Tok}{k:Nat}{bad:Bool}(h:PAt w P L cap ts k bad)(hP:w'.heap[P]? = w.heap[P]?)(hL:w'.heap[L]? = w.heap[L]?):PAt w' P L cap ts k bad:=by
 obtain⟨m,c,e1,e2,h1⟩:=h.p
 obtain⟨cs,h2,h3⟩:=h.l
 exact⟨⟨m,c,e1,e2,hP.trans h1⟩,⟨cs,hL.trans h2,h3⟩,h.k,h.n,h.c,h.m⟩
theorem PAt.below {w w':World}{P L cap:Nat}{ts:List Tok}{k:Nat}{bad:Bool}(h:PAt w P L cap ts k bad)(hb:Below w.heap.size w w'):PAt w' P L cap ts k bad:=
 h.keep (hb.block P h.lt.1) (hb.block L h.lt.2)
theorem PAt.drew {w:World}{P L cap:Nat}{ts:List Tok}{k:Nat}{bad:Bool}(h:PAt w P L cap ts k bad):PAt w.drew P L cap ts k bad:=h.keep rfl rfl
theorem lexCells_tok:∀(ts:List Tok)(k:Nat)(t:Tok),ts[k]? = some t→∀j u,(tokCells t)[j]? = some u→(lexCells ts)[k*3+j]? = some u:=by
 intro ts
 induction ts with
 | nil=>intro k t h;simp at h
 | cons x r ih =>
  intro k t h j u hu
  have e:lexCells (x::r)=tokCells x++lexCells r:=by unfold lexCells;rw[List.flatMap_cons]
  have hl:(tokCells x).length=3:=rfl
  have hj:j<3:=(List.getElem?_eq_some_iff.1 hu).1
  rw[e]
  cases k with
  | zero =>
   simp at h
   subst h
   rw[List.getElem?_append_left (by omega),Nat.zero_mul,Nat.zero_add]
   exact hu
  | succ k =>
   rw[List.getElem?_append_right (by omega),hl]
   have:=ih k t (by simpa using h) j u hu
   rw[show (k+1)*3+j-3=k*3+j by omega]
   exact this
theorem PAt.tok {w:World}{P L cap:Nat}{ts:List Tok}{k:Nat}{bad:Bool}{t:Tok}(h:PAt w P L cap ts k bad)(ht:ts[k]? = some t) :
  w.cell? ⟨L,k*3,none⟩=some (.int .u8 t.1)∧w.cell? ⟨L,k*3+1,none⟩=some (.string t.2.1)∧w.cell? ⟨L,k*3+2,none⟩=some (.int .i64 t.2.2):=by
 obtain⟨cs,h2,h3⟩:=h.l
 have e:∀j u,(tokCells t)[j]? = some u→w.cell? ⟨L,k*3+j,none⟩=some u:=fun j u hu=>by
  rw[cell_of_row _ _ _ _ _ _ h2];exact h3 _ _ (lexCells_tok ts k t ht j u hu)
 exact⟨e 0 _ rfl,e 1 _ rfl,e 2 _ rfl⟩
theorem PAt.cells {w:World}{P L cap:Nat}{ts:List Tok}{k:Nat}{bad:Bool}(h:PAt w P L cap ts k bad) :
  ∃m c,m+k=ts.length∧c+k=cap∧w.cell? ⟨P,0,none⟩=some (.slice (some ⟨L,k*3,none⟩) m c)∧w.cell? ⟨P,1,none⟩=some (.bool bad)∧w.frozen? ⟨P,0,none⟩=false∧w.frozen? ⟨P,1,none⟩=false:=by
 obtain⟨m,c,e1,e2,h1⟩:=h.p
 exact⟨m,c,e1,e2,by simp[World.cell?,h1],by simp[World.cell?,h1],by simp[World.frozen?,h1],by simp[World.frozen?,h1]⟩
theorem pnow_any {w:World}{P L cap:Nat}{ts:List Tok}{k:Nat}{bad:Bool}{t:Tok}(h:PAt w P L cap ts k bad)(ht:ts[k]? = some t) :
  Calls Tryz.prog 44 #[.pointer (some ⟨P,0,none⟩)] w fun e w'=>e=.returned (.agg #[.int .u8 t.1,.string t.2.1,.int .i64 t.2.2])∧Below w.heap.size w w':=by
 obtain⟨m,c,e1,e2,c0,c1,_,_⟩:=h.cells
 obtain⟨t0,t1,t2⟩:=h.tok ht
 have hm:(0:Int)<m:=by have:=h.k;omega
 have hm':0<m:=by omega
 have hP:=h.lt
 have hP1:=hP.1
 have hL1:=hP.2
 clear h ht hP e1 e2
 generalize k*3=o at *
 generalize t.1=tk at *
 generalize t.2.1=tx at *
 generalize t.2.2=tp at *
 go_enter Tryz.func44,Tryz.ntmps44
 go_wp2
 exact bodyPost_ret (v:=.agg #[.int .u8 tk,.string tx,.int .i64 tp]) (by simp[results,Tryz.results44,go_sem]) rfl ⟨rfl,(Below.refl _ w).alloc (Nat.le_refl _) _⟩
def nextK (n k:Nat) (bad:Bool):Nat:=if bad=false∧k+1<n then k+1 else k
theorem nextK_lt {n k:Nat}{bad:Bool}(h:k<n):nextK n k bad<n:=by unfold nextK;split<;>omega
theorem nextK_ge {n k:Nat}{bad:Bool}:k≤nextK n k bad:=by unfold nextK;split<;>omega
theorem nextK_bad {n k:Nat}:nextK n k true=k:=by unfold nextK;rw[if_neg];rintro ⟨h,_⟩;cases h
theorem nextK_end {n k:Nat}{bad:Bool}(h:¬k+1<n):nextK n k bad=k:=by unfold nextK;rw[if_neg];rintro ⟨_,h'⟩;exact h h'
theorem nextK_on {n k:Nat}(h:k+1<n):nextK n k false=k+1:=by unfold nextK;rw[if_pos ⟨rfl,h⟩]
def Turns (w:World) (P L cap:Nat) (ts:List Tok) (k:Nat) (bad:Bool) (w':World):Prop:=w.grownBy w' (some P)∧PAt w' P L cap ts k bad
theorem PAt.set {w w':World}{P L cap:Nat}{ts:List Tok}{k k':Nat}{bad bad':Bool}(h:PAt w P L cap ts k bad)(hL:w'.heap[L]? = w.heap[L]?)(hk:k'<ts.length)
  (hp:∃m c,m+k'=ts.length∧c+k'=cap∧w'.heap[P]? = some (.cells #[.slice (some ⟨L,k'*3,none⟩) m c,.bool bad'] 116 (0,0))):PAt w' P L cap ts k' bad':=by
 obtain⟨cs,h2,h3⟩:=h.l
 exact⟨hp,⟨cs,hL.trans h2,h3⟩,hk,h.n,h.c,h.m⟩
theorem pnext_any {w:World}{P L cap:Nat}{ts:List Tok}{k:Nat}{bad:Bool}(h:PAt w P L cap ts k bad) :
  Calls Tryz.prog 101 #[.pointer (some ⟨P,0,none⟩)] w fun e w'=>e=.returned (.tuple #[])∧Turns w P L cap ts (nextK ts.length k bad) bad w':=by
 obtain⟨m,c,e1,e2,c0,c1,f0,f1⟩:=h.cells
 have H:=Hd h
 have hcm:c≤maxLen:=by have:=h.m;omega
 have hmc:m≤c:=by have:=h.c;omega
 unfold maxLen at hcm
 have hP1:=h.lt.1
 cases bad with
 | true =>
  have HK:=Hd (nextK_bad (n:=ts.length) (k:=k))
  clear h e1 e2
  go_enter Tryz.func101,Tryz.ntmps101
  go_wp2
  go_returns
  exact⟨rfl,World.grownBy.refl w _,by rw[HK.out];exact H.out⟩
 | false =>
  by_cases hlt:k+1<ts.length
  ·have HK:=Hd (nextK_on hlt)
   have HE1:=Hd e1
   have HE2:=Hd e2
   have HLT:=Hd hlt
   have hm1:(1:Int)<m:=by omega
   have hm2:1<m:=by omega
   have hm3:(1:Int)≤m:=by omega
   have hc1:¬(c=1):=by omega
   clear h e1 e2 hlt
   obtain⟨o,ho⟩:∃o,k*3=o:=⟨_,rfl⟩
   rw[ho] at c0
   have HO:=Hd ho
   clear ho
   go_enter Tryz.func101,Tryz.ntmps101
   go_wp2
   go_returns
   refine⟨rfl,grown_set (World.grownBy.refl w _) _ _,?_⟩
   rw[HK.out]
   obtain⟨m',c',x1,x2,hp⟩:=H.out.p
   have hmm:m'=m:=by have:=HE1.out;omega
   have hcc:c'=c:=by have:=HE2.out;omega
   subst hmm hcc
   refine H.out.set (Below.heap_setCell w _ _ L (fun e=>H.out.ne e.symm)) HLT.out ⟨m'-1,c'-1,by omega,by omega,?_⟩
   rw[heap_set hp 0,show (k+1)*3=o+3 by have:=HO.out;omega]
   rfl
  ·have HK:=Hd (nextK_end (bad:=false) hlt)
   have hm1:decide ((1:Int)<m)=false:=by simp;omega
   have hm2:decide (1<m)=false:=by simp;omega
   clear h e1 e2 hlt
   go_enter Tryz.func101,Tryz.ntmps101
   go_wp2
   go_returns
   exact⟨rfl,World.grownBy.refl w _,by rw[HK.out];exact H.out⟩
def isT (t:Tok) (texts:List ByteArray):Bool:=(t.1==6||t.1==1)&&texts.any (fun s=>!s.toList.isEmpty&&s.toList==t.2.1.toList)
def TextsAt (w:World) (B off:Nat) (texts:List ByteArray):Prop:=B<w.heap.size∧∀(i:Nat) (s:ByteArray),texts[i]? = some s→w.cell? ⟨B,off+i,none⟩=some (.string s)
theorem isT_step {t:Tok}{texts:List ByteArray}{j:Nat}{s:ByteArray}(hs:texts[j]? = some s)(h:isT t (texts.take j)=false) :
  isT t (texts.take (j+1))=((t.1==6||t.1==1)&&(!s.toList.isEmpty&&s.toList==t.2.1.toList)):=by
 unfold isT at h ⊢
 rw[List.take_add_one,hs,List.any_append]
 cases hk:(t.1==6||t.1==1)
 ·rfl
 ·rw[hk] at h
  simp only[Bool.true_and] at h ⊢
  rw[h];simp
theorem isT_yes {t:Tok}{texts:List ByteArray}{j:Nat}{s:ByteArray}(hs:texts[j]? = some s)(hk:(t.1==6||t.1==1)=true)(h:(!s.toList.isEmpty&&s.toList==t.2.1.toList)=true):isT t texts=true:=by
 unfold isT
 rw[hk,Bool.true_and,List.any_eq_true]
 exact⟨s,List.mem_of_getElem? hs,h⟩
theorem pis_any {w:World}{P L cap:Nat}{ts:List Tok}{k:Nat}{bad:Bool}{t:Tok}(h:PAt w P L cap ts k bad)(ht:ts[k]? = some t)(B off n c:Nat)(texts:List ByteArray)(hB:TextsAt w B off texts)(hn:texts.length=n)(hn2:n≤100) :
  Calls Tryz.prog 100 #[.pointer (some ⟨P,0,none⟩),.slice (some ⟨B,off,none⟩) n c] w fun e w'=>e=.returned (.bool (!bad&&isT t texts))∧Below w.heap.size w w':=by
 have HC:=Hd (pnow_any h ht)
 have HB:=Hd hB
 have HN:=Hd hn
 have H:=Hd h
 have HSt:=Hd (fun (j:Nat) (s:ByteArray)=>@isT_step t texts j s)
 have HYes:=Hd (fun (j:Nat) (s:ByteArray)=>@isT_yes t texts j s)
 clear h ht hB hn
 obtain⟨isF,hisF⟩:∃isF:List ByteArray→Bool,isF=isT t:=⟨_,rfl⟩
 have H0:Hid (isF (texts.take 0)=false):=by show _=_;rw[hisF];unfold isT;simp
 rw[←hisF] at HSt HYes ⊢
 clear hisF
 obtain⟨tk,tx,tp⟩:=t
 go_enter Tryz.func100,Tryz.ntmps100
 go_wp2_with fail
 refine Calls.mono HC.out ?_
 rintro e w1 ⟨rfl,hb1⟩
 go_wp2_with fail
 obtain⟨W0,hW0⟩:∃W0,W0=(w1.alloc (.cells #[.int .u8 tk,.string tx,.int .i64 tp] 119)):=⟨_,rfl⟩
 have hb0:Below w.heap.size w W0:=by rw[hW0];exact hb1.alloc hb1.size _
 have x:=heap_alloc_new w1 (.cells #[.int .u8 tk,.string tx,.int .i64 tp] 119)
 rw[←hW0] at x ⊢
 have HX:=Hd x
 have HB0:=Hd hb0
 clear hW0 x hb0
 go_loop [12] (fun i=>∃j:Nat,j≤n∧i=.int .i64 j∧isF (texts.take j)=false) (fun i=>n-(intOf i).toNat)
 case atStart=>exact⟨0,Nat.zero_le _,rfl,H0.out⟩
 case round =>
  obtain⟨j,hj,rfl,hno⟩:=hrel
  have HNO:=Hd hno
  clear hno
  by_cases hlt:j<n
  ·obtain⟨s,hs⟩:∃s,texts[j]? = some s:=⟨texts[j]'(by rw[HN.out];exact hlt),List.getElem?_eq_getElem (by rw[HN.out];exact hlt)⟩
   have c0:=(HB0.out.cell (p:=⟨B,off+j,none⟩) HB.out.1).trans (HB.out.2 j s hs)
   obtain⟨x0,x1,x2,_,_,_⟩:=cells3 HX.out
   obtain⟨_,_,_,_,_,c1,_,_⟩:=(H.out.below HB0.out).cells
   have HS:=Hd hs
   have HNext:=Hd (HSt.out j s hs HNO.out)
   have HHit:=Hd (HYes.out j s hs)
   clear hs HSt HYes
   have no:∀b:Bool,isF (texts.take (j+1))=b→b=false→((∃j':Nat,j'≤n∧Value.int .i64 ((j:Int)+1)=.int .i64 j'∧isF (texts.take j')=false)∧n-(intOf (.int .i64 ((j:Int)+1))).toNat<n-(intOf (.int .i64 j)).toNat):=fun b hb hb' =>
    ⟨⟨j+1,by omega,by go_num,hb.trans hb'⟩,by simp[intOf];omega⟩
   have HNo:=Hd no
   clear no
   by_cases h1:s.toList=[]
   ·have HH:=Hd h1
    go_wp2_with fail
    exact HNo.out _ HNext.out (by rw[HH.out];simp)
   ·by_cases h2:s.toList=tx.toList
    ·have h3:¬tx.toList=[]:=by rw[←h2];exact h1
     have h4:(!tx.toList.isEmpty)=true:=by cases hx:tx.toList with|nil=>exact absurd hx h3|cons _ _=>rfl
     have HH:Hid ((!s.toList.isEmpty&&s.toList==tx.toList)=true):=by show _=_;rw[h2];simp[h3]
     by_cases hk:tk=6
     ·have hk':((tk:Int)==6)=true:=by rw[hk];rfl
      have hyes:=HHit.out (by show (tk==6||tk==1)=true;rw[hk];rfl) HH.out
      have HY:=Hd hyes
      clear hk hyes
      go_wp2_with fail
      go_ret
      exact⟨by rw[HY.out,Bool.and_true];rfl,HB0.out⟩
     ·have hk':((tk:Int)==6)=false:=by simp;omega
      by_cases hk1:tk=1
      ·have hk1':((tk:Int)==1)=true:=by rw[hk1];rfl
       have hyes:=HHit.out (by show (tk==6||tk==1)=true;rw[hk1];rfl) HH.out
       have HY:=Hd hyes
       clear hk hk1 hyes
       go_wp2_with fail
       go_ret
       exact⟨by rw[HY.out,Bool.and_true];rfl,HB0.out⟩
      ·have hk1':((tk:Int)==1)=false:=by simp;omega
       have HN2:Hid (((tk==6||tk==1)&&(!s.toList.isEmpty&&s.toList==tx.toList))=false):=by show _=_;simp[hk,hk1]
       clear hk hk1
       go_wp2_with fail
       exact HNo.out _ HNext.out HN2.out
    ·have HN2:Hid (((tk==6||tk==1)&&(!s.toList.isEmpty&&s.toList==tx.toList))=false):=by show _=_;simp[h2]
     go_wp2_with fail
     exact HNo.out _ HNext.out HN2.out
  ·obtain rfl:j=n:=by omega
   have e:texts.take j=texts:=by rw[←HN.out];exact List.take_length
   have HF:Hid (isF texts=false):=by show _=_;rw[←e];exact HNO.out
   clear e
   go_wp2_with fail
   go_ret
   exact⟨by rw[HF.out,Bool.and_false];rfl,HB0.out⟩
theorem Turns.trans {w w1 w2:World}{P L cap:Nat}{ts:List Tok}{k k2:Nat}{bad bad2:Bool}(h:Turns w P L cap ts k bad w1)(h2:Turns w1 P L cap ts k2 bad2 w2):Turns w P L cap ts k2 bad2 w2:=
 ⟨World.grownBy.trans h.1 h2.1,h2.2⟩
theorem Turns.of_below {w w1 w2:World}{P L cap:Nat}{ts:List Tok}{k:Nat}{bad:Bool}(h:Turns w P L cap ts k bad w1)(hb:Below w1.heap.size w1 w2):Turns w P L cap ts k bad w2:=
 ⟨grown_below h.1 hb,h.2.below hb⟩
theorem Turns.of_drew {w w1:World}{P L cap:Nat}{ts:List Tok}{k:Nat}{bad:Bool}(h:Turns w.drew P L cap ts k bad w1):Turns w P L cap ts k bad w1:=
 ⟨World.grownBy.trans (grown_drewN (World.grownBy.refl w _) 1) h.1,h.2⟩
theorem PAt.turns {w w1:World}{P L cap:Nat}{ts:List Tok}{k:Nat}{bad:Bool}(h:PAt w P L cap ts k bad)(hb:Below w.heap.size w w1):Turns w P L cap ts k bad w1:=
 ⟨grown_of_below hb _,h.below hb⟩
def skipK (ts:List Tok) (k:Nat) (bad:Bool) (t:Tok) (texts:List ByteArray):Nat:=if (!bad&&isT t texts)=true then nextK ts.length k bad else k
theorem pskip_any {w:World}{P L cap:Nat}{ts:List Tok}{k:Nat}{bad:Bool}{t:Tok}(h:PAt w P L cap ts k bad)(ht:ts[k]? = some t)(B off n c:Nat)(texts:List ByteArray)(hB:TextsAt w B off texts)(hn:texts.length=n)(hn2:n≤100) :
  Calls Tryz.prog 74 #[.pointer (some ⟨P,0,none⟩),.slice (some ⟨B,off,none⟩) n c] w fun e w'=>e=.returned (.bool (!bad&&isT t texts))∧Turns w P L cap ts (skipK ts k bad t texts) bad w':=by
 have HC:=Hd (pis_any h ht B off n c texts hB hn hn2)
 have H:=Hd h
 unfold skipK
 clear h ht hB hn
 generalize (!bad&&isT t texts)=b at *
 go_enter Tryz.func74,Tryz.ntmps74
 go_wp2_with fail
 refine Calls.mono HC.out ?_
 rintro e w1 ⟨rfl,hb1⟩
 cases b with
 | false =>
  have HB:=Hd hb1
  clear hb1
  go_wp2_with fail
  go_ret
  exact⟨rfl,H.out.turns HB.out⟩
 | true =>
  have HB:=Hd hb1
  have HN:=Hd (pnext_any (H.out.below hb1))
  clear hb1
  go_wp2_with fail
  refine Calls.mono HN.out ?_
  rintro e w2 ⟨rfl,ht2⟩
  have HT:=Hd ht2
  clear ht2
  go_wp2_with fail
  go_ret
  exact⟨rfl,(H.out.turns HB.out).trans HT.out⟩
def wantK (ts:List Tok) (k:Nat) (bad:Bool) (t:Tok) (x:ByteArray):Nat:=skipK ts k bad t [x]
def wantB (bad:Bool) (t:Tok) (x:ByteArray):Bool:=!(!bad&&isT t [x])
theorem textsAt_new {w:World}(l:List ByteArray):TextsAt (w.alloc (.cells (l.map Value.string).toArray 9)) w.heap.size 0 l:=
 ⟨by simp,fun i s hs=>by
  have hb:(w.alloc (.cells (l.map Value.string).toArray 9)).heap[w.heap.size]? = some (.cells (l.map Value.string).toArray 9 (0,0)):=heap_alloc_new w _
  rw[cell_of_row _ _ _ _ _ _ hb];simp[hs]⟩
theorem PAt.setBad {w:World}{P L cap:Nat}{ts:List Tok}{k:Nat}{bad:Bool}(h:PAt w P L cap ts k bad)(b:Bool):Turns w P L cap ts k b (w.setCell ⟨P,1,none⟩ (.bool b)):=by
 refine⟨grown_set (World.grownBy.refl w _) _ _,?_⟩
 obtain⟨m,c,e1,e2,hp⟩:=h.p
 refine h.set (Below.heap_setCell w _ _ L (fun e=>h.ne e.symm)) h.k ⟨m,c,e1,e2,?_⟩
 rw[heap_set hp 1];rfl
theorem pwant_any {w:World}{P L cap:Nat}{ts:List Tok}{k:Nat}{bad:Bool}{t:Tok}(h:PAt w P L cap ts k bad)(ht:ts[k]? = some t)(x:ByteArray) :
  Calls Tryz.prog 78 #[.pointer (some ⟨P,0,none⟩),.string x] w fun e w'=>e=.returned (.tuple #[])∧Turns w P L cap ts (wantK ts k bad t x) (wantB bad t x) w':=by
 have hb0:Below w.heap.size w (w.alloc (.cells #[.string x] 9)):=(Below.refl _ w).alloc (Nat.le_refl _) _
 have HC:=Hd (pskip_any (h.below hb0) ht w.heap.size 0 1 1 [x] (textsAt_new [x]) rfl (by omega))
 have H:=Hd (h.turns hb0)
 unfold wantK wantB
 clear h ht hb0
 generalize skipK ts k bad t [x]=k' at *
 obtain⟨b,hb⟩:∃b,(!bad&&isT t [x])=b:=⟨_,rfl⟩
 rw[hb] at HC ⊢
 have HBb:=Hd hb
 clear hb
 go_enter Tryz.func78,Tryz.ntmps78
 go_wp2_with fail
 refine Calls.mono HC.out ?_
 rintro e w1 ⟨rfl,ht1⟩
 have HT:=Hd (H.out.trans ht1)
 clear ht1
 cases b with
 | true =>
  go_wp2_with fail
  go_returns
  have hbad:bad=false:=by have:=HBb.out;cases bad<;>simp at this ⊢
  have e:Turns w P L cap ts k' false w1:=by rw[←hbad];exact HT.out
  exact⟨rfl,e⟩
 | false =>
  obtain⟨_,_,_,_,_,c1,f0,f1⟩:=HT.out.2.cells
  go_wp2_with fail
  go_returns
  exact⟨rfl,HT.out.trans (HT.out.2.setBad true)⟩
theorem grownBy_keep {w w':World}{P i:Nat}{o:Obj}(hg:w.grownBy w' (some P))(h:w.heap[i]? = some o)(hne:P≠i):w'.heap[i]? = some o:=heap_grown hg h (by rintro e;injection e with e;exact hne e.symm)
theorem Turns.setCell {w W:World}{P L cap:Nat}{ts:List Tok}{k:Nat}{bad:Bool}(h:Turns w P L cap ts k bad W)(hP:P<w.heap.size)(hL:L<w.heap.size){b:Nat}(hb:w.heap.size≤b)(i:Nat)(v:Value):Turns w P L cap ts k bad (W.setCell ⟨b,i,none⟩ v):=
 ⟨grown_set_far h.1 hb _ _,h.2.keep (Below.heap_setCell W _ _ P (by show P≠b;omega)) (Below.heap_setCell W _ _ L (by show L≠b;omega))⟩
theorem Turns.alloc {w W:World}{P L cap:Nat}{ts:List Tok}{k:Nat}{bad:Bool}(h:Turns w P L cap ts k bad W)(o:Obj):Turns w P L cap ts k bad (W.alloc o):=h.of_below ((Below.refl _ W).alloc (Nat.le_refl _) _)
theorem Turns.box {w W W':World}{P L cap:Nat}{ts:List Tok}{k:Nat}{bad:Bool}(h:Turns W P L cap ts k bad W'){b:Nat}{o:Obj}(ho:W.heap[b]? = some o)(hP:P<w.heap.size)(hb:w.heap.size≤b):W'.heap[b]? = some o:=grownBy_keep h.1 ho (by omega)
def zeroN:Array Value:=#[.int .u8 0,.string ⟨#[]⟩,.int .i64 0,.int .i64 0,.slice none 0 0]
theorem heap_set5 {W:World}{b:Nat}{c0 c1 c2 c3 c4:Value}{t:TypeId}(h:W.heap[b]? = some (.cells #[c0,c1,c2,c3,c4] t (0,0)))(v0 v1 v2 v3 v4:Value) :
  (((((W.setCell ⟨b,0,none⟩ v0).setCell ⟨b,1,none⟩ v1).setCell ⟨b,2,none⟩ v2).setCell ⟨b,3,none⟩ v3).setCell ⟨b,4,none⟩ v4).heap[b]? = some (.cells #[v0,v1,v2,v3,v4] t (0,0)):=by
 rw[heap_set (heap_set (heap_set (heap_set (heap_set h 0 v0) 1 v1) 2 v2) 3 v3) 4 v4]
 rfl
theorem ret_node {fn:Func}{R:Ending→World→Prop}{a:Act}{W:World}{slot T:Nat}{v0 v1 v2 v3 v4:Value}(hr:fn.results=#[.cell slot 25])(hs:a.tmps.getD slot undef=.pointer (some ⟨T,0,none⟩))
  (hT:W.heap[T]? = some (.cells #[v0,v1,v2,v3,v4] 25 (0,0))) (hd:a.defers=[]) (hR:R (.returned (.agg #[v0,v1,v2,v3,v4])) W):bodyPost Tryz.prog fn R .ret a W:=by
 obtain⟨c0,c1,c2,c3,c4⟩:=cells5 hT
 have hs':a.tmps[slot]?.getD undef=.pointer (some ⟨T,0,none⟩):=by simpa using hs
 refine bodyPost_ret (v:=.agg #[v0,v1,v2,v3,v4]) ?_ hd hR
 simp[results,hr,go_sem,hs',c0,c1,c2,c3,c4]
theorem pof_any {w:World}{P L cap:Nat}{ts:List Tok}{k:Nat}{bad:Bool}{t:Tok}(h:PAt w P L cap ts k bad)(ht:ts[k]? = some t)(tok kind:Nat) :
  Calls Tryz.prog 102 #[.pointer (some ⟨P,0,none⟩),.int .u8 tok,.int .u8 kind] w fun e w'=>e=.returned (.agg #[.int .u8 kind,.string t.2.1,.int .i64 0,.int .i64 t.2.2,.slice none 0 0]) ∧
   Turns w P L cap ts (nextK ts.length k (bad||t.1 != tok)) (bad||t.1 != tok) w':=by
 obtain⟨tk,tx,tp⟩:=t
 obtain⟨b,hb⟩:∃b,(bad||tk != tok)=b:=⟨_,rfl⟩
 show Calls _ _ _ _ fun e w'=>e=_∧Turns w P L cap ts (nextK ts.length k (bad||tk != tok)) (bad||tk != tok) w'
 rw[hb]
 have HBq:=Hd hb
 clear hb
 have hb0:Below w.heap.size w (w.alloc (.cells #[.int .u8 0,.string ⟨#[]⟩,.int .i64 0,.int .i64 0,.slice none 0 0] 25)):=(Below.refl _ w).alloc (Nat.le_refl _) _
 have HC:=Hd (pnow_any (h.below hb0) ht)
 have H:=Hd (h.turns hb0)
 have hP:=h.lt.1
 have HL:=Hd (h.lt.2)
 clear h ht hb0
 go_enter Tryz.func102,Tryz.ntmps102
 go_wp2_with fail
 refine Calls.mono HC.out ?_
 rintro e w1 ⟨rfl,hb1⟩
 have HT:=Hd (H.out.of_below hb1)
 have x0:=heap_below hb1 (heap_alloc_new w (.cells #[.int .u8 0,.string ⟨#[]⟩,.int .i64 0,.int .i64 0,.slice none 0 0] 25)) (by simp)
 have hbW:Below w1.heap.size w1 (w1.alloc (.cells #[.int .u8 tk,.string tx,.int .i64 tp] 119)):=(Below.refl _ w1).alloc (Nat.le_refl _) _
 have HX1:=Hd (heap_alloc_new w1 (.cells #[.int .u8 tk,.string tx,.int .i64 tp] 119))
 have HT1:=Hd (HT.out.of_below hbW)
 have HX0:=Hd (heap_below hbW x0 (Array.getElem?_eq_some_iff.1 x0).1)
 obtain⟨_,_,_,_,c0,c1,f0,f1⟩:=HT.out.2.cells
 have hP1:=HT.out.2.lt.1
 have hl1:w.heap.size<w1.heap.size:=(Array.getElem?_eq_some_iff.1 x0).1
 have HXw:=Hd x0
 clear x0 hbW hb1
 have fin:∀(W:World) (b:Bool),Turns w P L cap ts (nextK ts.length k b) b W→∀v0 v1 v2 v3 v4,Turns w P L cap ts (nextK ts.length k b) b (((((W.setCell ⟨w.heap.size,0,none⟩ v0).setCell ⟨w.heap.size,1,none⟩ v1).setCell ⟨w.heap.size,2,none⟩ v2).setCell ⟨w.heap.size,3,none⟩ v3).setCell ⟨w.heap.size,4,none⟩ v4):=fun W b h v0 v1 v2 v3 v4 =>
  ((((h.setCell hP HL.out (Nat.le_refl _) 0 v0).setCell hP HL.out (Nat.le_refl _) 1 v1).setCell hP HL.out (Nat.le_refl _) 2 v2).setCell hP HL.out (Nat.le_refl _) 3 v3).setCell hP HL.out (Nat.le_refl _) 4 v4
 have HFin:=Hd fin
 clear fin
 by_cases hk:tk=tok
 ·have hk':((tk:Int) != tok)=false:=by simp;omega
  obtain rfl:bad=b:=by rw[←HBq.out,hk];simp
  have HN:=Hd (pnext_any HT1.out.2)
  clear hk
  go_wp2_with fail
  refine Calls.mono HN.out ?_
  rintro e w2 ⟨rfl,ht2⟩
  have y0:=ht2.box HX0.out hP (Nat.le_refl _)
  have y1:=ht2.box HX1.out hP (Nat.le_of_lt hl1)
  have HT2:=Hd (HT1.out.trans ht2)
  have HY0:=Hd y0
  obtain⟨a0,a1,a2,a3,a4⟩:=cells5 y0
  have z0:=frozen5 y0 0
  have z1:=frozen5 y0 1
  have z2:=frozen5 y0 2
  have z3:=frozen5 y0 3
  have z4:=frozen5 y0 4
  obtain⟨b0,b1,b2,_,_,_⟩:=cells3 y1
  clear ht2 y0 y1
  go_wp2_with fail
  exact ret_node Tryz.results102 rfl (heap_set5 HY0.out _ _ _ _ _) rfl ⟨rfl,HFin.out _ _ HT2.out _ _ _ _ _⟩
 ·have hk':((tk:Int) != tok)=true:=by simp;omega
  obtain rfl:b=true:=by rw[←HBq.out];simp[hk]
  have hTb:=(HT.out.trans (HT.out.2.setBad true)).alloc (.cells #[.int .u8 tk,.string tx,.int .i64 tp] 119)
  have hX0:=(HT.out.2.setBad true).box HXw.out hP (Nat.le_refl _)
  have hX0':=(Below.heap_alloc _ (.cells #[.int .u8 tk,.string tx,.int .i64 tp] 119) _ (Array.getElem?_eq_some_iff.1 hX0).1).trans hX0
  have hX1:=heap_alloc_new (w1.setCell ⟨P,1,none⟩ (.bool true)) (.cells #[.int .u8 tk,.string tx,.int .i64 tp] 119)
  have hsz:(w1.setCell ⟨P,1,none⟩ (.bool true)).heap.size=w1.heap.size:=by simp[World.setCell]
  rw[hsz] at hX1
  have HN:=Hd (pnext_any hTb.2)
  have HTb:=Hd hTb
  have HXa:=Hd hX0'
  have HXb:=Hd hX1
  clear hk hTb hX0 hX0' hX1 hsz
  go_wp2_with fail
  refine Calls.mono HN.out ?_
  rintro e w2 ⟨rfl,ht2⟩
  have y0:=ht2.box HXa.out hP (Nat.le_refl _)
  have y1:=ht2.box HXb.out hP (Nat.le_of_lt hl1)
  have HT2:=Hd (HTb.out.trans ht2)
  have HY0:=Hd y0
  obtain⟨a0,a1,a2,a3,a4⟩:=cells5 y0
  have z0:=frozen5 y0 0
  have z1:=frozen5 y0 1
  have z2:=frozen5 y0 2
  have z3:=frozen5 y0 3
  have z4:=frozen5 y0 4
  obtain⟨b0,b1,b2,_,_,_⟩:=cells3 y1
  clear ht2 y0 y1
  go_wp2_with fail
  exact ret_node Tryz.results102 rfl (heap_set5 HY0.out _ _ _ _ _) rfl ⟨rfl,HFin.out _ _ HT2.out _ _ _ _ _⟩
def NilOr (w:World) (sl:Value) (F:Nat→Prop):Prop:=sl=.slice none 0 0∨∃(g cap:Nat) (cs:Array Value),F g∧cap≤maxLen∧sl=.slice (some ⟨g,0,none⟩) 0 cap∧w.heap[g]? = some (.cells cs 25 (0,0))∧cs.size=cap*5
theorem NilOr.any {w:World}{sl:Value}{F:Nat→Prop}(h:NilOr w sl F):∃sp cap,sl=.slice sp 0 cap:=by
 rcases h with h|⟨g,cap,_,_,_,h,_⟩
 ·exact⟨none,0,h⟩
 ·exact⟨_,cap,h⟩
theorem NilOr.keep {w w':World}{sl:Value}{F:Nat→Prop}(hk:∀b o,F b→w.heap[b]? = some o→w'.heap[b]? = some o)(h:NilOr w sl F):NilOr w' sl F:=by
 rcases h with h|⟨g,cap,cs,h1,h2,h3,h4,h5⟩
 ·exact Or.inl h
 ·exact Or.inr ⟨g,cap,cs,h1,h2,h3,hk g _ h1 h4,h5⟩
theorem NilOr.sub {w:World}{sl:Value}{F G:Nat→Prop}(h:NilOr w sl F)(hs:∀b,F b→G b):NilOr w sl G:=by
 rcases h with h|⟨g,cap,cs,h1,h2⟩
 ·exact Or.inl h
 ·exact Or.inr ⟨g,cap,cs,hs g h1,h2⟩
def OwnAt (w:World):Nat→List Tree→Value→(Nat→Prop)→Prop
 | 0,ks,sl,F=>ks=[]∧NilOr w sl F
 | d+1,ks,sl,F=>(ks=[]∧NilOr w sl F) ∨
   ∃(g cap:Nat) (cs:Array Value) (Fs:Nat→Nat→Prop),ks≠[]∧F g∧ks.length≤cap∧cap≤maxLen∧sl=.slice (some ⟨g,0,none⟩) ks.length cap∧w.heap[g]? = some (.cells cs 25 (0,0))∧cs.size=cap*5 ∧
    (∀i T,ks[i]? = some T→Fits T∧∃s,(∀m u,(nodeCells T s)[m]? = some u→cs[i*5+m]? = some u)∧OwnAt w d T.kids s (Fs i)) ∧
    (∀i b,Fs i b→F b∧b≠g)∧∀i j b,i≠j→Fs i b→¬Fs j b
theorem OwnAt.keep {w w':World}:∀{d:Nat}{ks:List Tree}{sl:Value}{F:Nat→Prop},(∀b o,F b→w.heap[b]? = some o→w'.heap[b]? = some o)→OwnAt w d ks sl F→OwnAt w' d ks sl F:=by
 intro d
 induction d with
 | zero=>intro ks sl F hk h;exact⟨h.1,h.2.keep hk⟩
 | succ d ih =>
  rintro ks sl F hk (h|⟨g,cap,cs,Fs,h0,h1,h2,h3,h4,h5,h6,h7,h8,h9⟩)
  ·exact Or.inl ⟨h.1,h.2.keep hk⟩
  ·refine Or.inr ⟨g,cap,cs,Fs,h0,h1,h2,h3,h4,hk g _ h1 h5,h6,fun i T hT=>?_,h8,h9⟩
   obtain⟨hf,s,hc,ho⟩:=h7 i T hT
   exact⟨hf,s,hc,ih (fun b o hb=>hk b o (h8 i b hb).1) ho⟩
theorem OwnAt.sub {w:World}{d:Nat}{ks:List Tree}{sl:Value}{F G:Nat→Prop}(h:OwnAt w d ks sl F)(hs:∀b,F b→G b):OwnAt w d ks sl G:=by
 cases d with
 | zero=>exact⟨h.1,h.2.sub hs⟩
 | succ d =>
  rcases h with h|⟨g,cap,cs,Fs,h0,h1,h2,h3,h4,h5,h6,h7,h8,h9⟩
  ·exact Or.inl ⟨h.1,h.2.sub hs⟩
  ·exact Or.inr ⟨g,cap,cs,Fs,h0,hs g h1,h2,h3,h4,h5,h6,h7,fun i b hb=>⟨hs b (h8 i b hb).1,(h8 i b hb).2⟩,h9⟩
theorem OwnAt.below {w w':World}{B d:Nat}{ks:List Tree}{sl:Value}{F:Nat→Prop}(h:OwnAt w d ks sl F)(hF:∀b,F b→b<B)(hb:Below B w w'):OwnAt w' d ks sl F:=
 h.keep fun b _ hf ho=>(hb.block b (hF b hf)).trans ho
theorem OwnAt.kids {w:World}{B:Nat}:∀{d:Nat}{ks:List Tree}{sl:Value}{F:Nat→Prop},OwnAt w d ks sl F→(∀b,F b→b<B)→KidsAt w B d ks sl:=by
 intro d
 induction d with
 | zero=>intro ks sl F h _;exact⟨h.1,h.2.any⟩
 | succ d ih =>
  rintro ks sl F (h|⟨g,cap,cs,Fs,h0,h1,h2,h3,h4,h5,h6,h7,h8,h9⟩) hF
  ·exact Or.inl ⟨h.1,h.2.any⟩
  ·refine Or.inr ⟨g,0,cap,h0,hF g h1,h2,h3,h4,fun i T hT=>?_⟩
   obtain⟨hf,s,hc,ho⟩:=h7 i T hT
   have e:∀m u,(nodeCells T s)[m]? = some u→w.cell? ⟨g,0+i*5+m,none⟩=some u:=fun m u hu=>by
    rw[cell_of_row _ _ _ _ _ _ h5,Nat.zero_add]
    exact hc m u hu
   exact⟨hf,s,e 0 _ rfl,e 1 _ rfl,e 2 _ rfl,e 3 _ rfl,e 4 _ rfl,ih ho fun b hb=>hF b (h8 i b hb).1⟩
theorem OwnAt.more {w:World}:∀{d:Nat}{ks:List Tree}{sl:Value}{F:Nat→Prop},OwnAt w d ks sl F→OwnAt w (d+1) ks sl F:=by
 intro d
 induction d with
 | zero=>rintro ks sl F h;exact Or.inl h
 | succ d ih =>
  rintro ks sl F (h|⟨g,cap,cs,Fs,h0,h1,h2,h3,h4,h5,h6,h7,h8,h9⟩)
  ·exact Or.inl h
  ·refine Or.inr ⟨g,cap,cs,Fs,h0,h1,h2,h3,h4,h5,h6,fun i T hT=>?_,h8,h9⟩
   obtain⟨hf,s,hc,ho⟩:=h7 i T hT
   exact⟨hf,s,hc,ih ho⟩
theorem OwnAt.shape {w:World}{d:Nat}{ks:List Tree}{sl:Value}{F:Nat→Prop}(h:OwnAt w d ks sl F):∃p cap,sl=.slice p ks.length cap:=by
 cases d with
 | zero=>obtain⟨rfl,h⟩:=h;exact h.any
 | succ d =>
  rcases h with ⟨rfl,h⟩|⟨g,cap,cs,Fs,h0,h1,h2,h3,h4,_⟩
  ·exact h.any
  ·exact⟨_,cap,h4⟩
theorem OwnAt.nil {w:World}{d:Nat}{sl:Value}{F:Nat→Prop}(h:OwnAt w d [] sl F):NilOr w sl F:=by
 cases d with
 | zero=>exact h.2
 | succ d =>
  rcases h with h|⟨g,cap,cs,Fs,h0,_⟩
  ·exact h.2
  ·exact absurd rfl h0
def Between (L B:Nat):Nat→Prop:=fun b=>L≤b∧b<B
def RowsOwn (W:World) (L d:Nat) (ks:List Tree) (k:Nat) (own:Option Nat) (rows:List (List Value)) (Fs:Nat→Nat→Prop):Prop:=
 rows.length=k∧(∀r∈rows,r.length=5)∧(∀i T,i<k→ks[i]? = some T→Fits T∧∃s,rows[i]? = some (nodeCells T s)∧OwnAt W d T.kids s (Fs i)) ∧
  (∀i b,Fs i b→L≤b∧b<W.heap.size∧own≠some b)∧(∀i j b,i≠j→Fs i b→¬Fs j b)∧∀i b,Fs i b→i<k
theorem RowsOwn.next {W W':World}{L d k N:Nat}{ks:List Tree}{own own':Option Nat}{rows:List (List Value)}{Fs:Nat→Nat→Prop}{t:Tree}{s:Value}(h:RowsOwn W L d ks k own rows Fs)
  (ht:ks[k]? = some t) (hf:Fits t) (hs:OwnAt W' d t.kids s (Between W.heap.size N)) (hWN:W.heap.size≤N) (hN:N≤W'.heap.size) (hL:L≤W.heap.size) (hsz:W.heap.size≤W'.heap.size)
  (hkeep:∀b,b<W.heap.size→own≠some b→W'.heap[b]? = W.heap[b]?) (hown:∀b,own'=some b→(own=some b∧b<W.heap.size)∨N≤b) :
  ∃Fs',RowsOwn W' L d ks (k+1) own' (rows++[nodeCells t s]) Fs':=by
 obtain⟨h1,h2,h3,h4,h5,h6⟩:=h
 refine⟨fun i b=>if i=k then Between W.heap.size N b else Fs i b,by simp[h1],fun r hr=>?_,fun i T hi hT=>?_,fun i b hb=>?_,fun i j b hij hb hb'=>?_,fun i b hb=>?_⟩
 ·rcases List.mem_append.1 hr with hr|hr
  ·exact h2 r hr
  ·simp at hr;subst hr;rfl
 ·by_cases hik:i=k
  ·subst hik
   rw[ht] at hT
   injection hT with hT
   subst hT
   refine⟨hf,s,?_,?_⟩
   ·rw[List.getElem?_append_right (by omega),h1];simp
   ·simp only[if_true];exact hs
  ·obtain⟨a1,s',a2,a3⟩:=h3 i T (by omega) hT
   refine⟨a1,s',?_,?_⟩
   ·rw[List.getElem?_append_left (by omega)];exact a2
   ·simp only[if_neg hik]
    exact a3.keep fun b o hb ho=>(hkeep b (h4 i b hb).2.1 (h4 i b hb).2.2).trans ho
 ·by_cases hik:i=k
  ·simp only[if_pos hik] at hb
   obtain⟨q1,q2⟩:=hb
   refine⟨by omega,by omega,fun e=>?_⟩
   rcases hown b e with h|h<;>omega
  ·simp only[if_neg hik] at hb
   obtain⟨q1,q2,q3⟩:=h4 i b hb
   refine⟨q1,by omega,fun e=>?_⟩
   rcases hown b e with h|h
   ·exact q3 h.1
   ·omega
 ·by_cases hik:i=k
  ·have hjk:j≠k:=fun e=>hij (hik.trans e.symm)
   simp only[if_pos hik] at hb
   simp only[if_neg hjk] at hb'
   have:=(h4 j b hb').2.1
   have:=hb.1
   omega
  ·simp only[if_neg hik] at hb
   by_cases hjk:j=k
   ·simp only[if_pos hjk] at hb'
    have:=(h4 i b hb).2.1
    have:=hb'.1
    omega
   ·simp only[if_neg hjk] at hb'
    exact h5 i j b hij hb hb'
 ·by_cases hik:i=k
  ·omega
  ·simp only[if_neg hik] at hb
   have:=h6 i b hb
   omega
theorem own_fin {W:World}{L n d:Nat}{ks:List Tree}{v:Value}{rows:List (List Value)}{Fs:Nat→Nat→Prop}(hn:ks.length=n)(hown:W.ownsRow L 25 5 v n rows.flatten)(hr:RowsOwn W L (d-1) ks n v.ownBlock rows Fs)(hd:d=0→ks=[]) :
  OwnAt W d ks v (Between L W.heap.size):=by
 subst hn
 obtain⟨h1,h2,h3,h4,h5,h6⟩:=hr
 rcases hown with ⟨hl,⟨rfl,h0⟩|⟨g,cap,cur,rfl,hg,hc,hcur⟩⟩
 ·have hk:ks=[]:=List.eq_nil_of_length_eq_zero h0
  subst hk
  cases d with
  | zero=>exact⟨rfl,Or.inl rfl⟩
  | succ d=>exact Or.inl ⟨rfl,Or.inl rfl⟩
 ·cases d with
  | zero =>
   have hk:=hd rfl
   subst hk
   obtain⟨c1,c2,c3,c4⟩:=hcur
   exact⟨rfl,Or.inr ⟨g,cap,cur,⟨hg,(Array.getElem?_eq_some_iff.1 hc).1⟩,c2,rfl,hc,c3⟩⟩
  | succ d =>
   by_cases hk:ks=[]
   ·subst hk
    obtain⟨c1,c2,c3,c4⟩:=hcur
    exact Or.inl ⟨rfl,Or.inr ⟨g,cap,cur,⟨hg,(Array.getElem?_eq_some_iff.1 hc).1⟩,c2,rfl,hc,c3⟩⟩
   ·obtain⟨c1,c2,c3,c4⟩:=hcur
    refine Or.inr ⟨g,cap,cur,Fs,hk,⟨hg,(Array.getElem?_eq_some_iff.1 hc).1⟩,c1,c2,rfl,hc,c3,fun i T hT=>?_,fun i b hb=>?_,h5⟩
    ·have hi:i<ks.length:=(List.getElem?_eq_some_iff.1 hT).1
     obtain⟨a1,s,a2,a3⟩:=h3 i T hi hT
     refine⟨a1,s,fun m u hu=>?_,a3⟩
     have hx:=flat5 rows h2 i m _ u a2 hu
     rw[←c4,List.getElem?_take] at hx
     split at hx
     ·simpa using hx
     ·cases hx
    ·obtain⟨q1,q2,q3⟩:=h4 i b hb
     exact⟨⟨q1,q2⟩,fun e=>q3 (by rw[e];rfl)⟩
theorem below_grownO {B:Nat}{w W W':World}{row:Option Nat}(hb:Below B w W)(hBW:B≤W.heap.size)(hg:W.grownBy W' row)(hrow:∀g,row=some g→B≤g):Below B w W':=
 ⟨hg.os.trans hb.os,hg.tape.trans hb.tape,hg.output.trans hb.output,Nat.le_trans hb.size hg.size,fun i hi=>(hg.block i (Nat.lt_of_lt_of_le hi hBW) (fun e=>by have:=hrow i e.symm;omega)).trans (hb.block i hi)⟩
end Go.Proofs.YtglbjooofdnbkaaGreatDoor
