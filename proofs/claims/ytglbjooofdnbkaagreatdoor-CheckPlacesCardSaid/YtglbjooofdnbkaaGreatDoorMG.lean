/- Several texts joined, each with its own sentence and conditions ahead of it: TreeP, TreeQ, TreeR. -/
import Derived.Test.YtglbjooofdnbkaaGreatDoorMF
import Derived.Deep.RegionHeld3
namespace Go.Proofs.YtglbjooofdnbkaaGreatDoor
set_option maxHeartbeats 2000000
set_option maxRecDepth 100000
open Go.RowKit
def KindsAt (w:World) (S:List Nat) (v:Value):Prop:=
 (S=[]∧v=.slice none 0 0)∨∃b off cap,v=.slice (some ⟨b,off,none⟩) S.length cap∧S.length≤100∧b<w.heap.size∧∀(i k:Nat),S[i]? = some k→w.cell? ⟨b,off+i,none⟩=some (.int .u8 (k:Int))
theorem KindsAt.below {w w':World}{S:List Nat}{v:Value}(h:KindsAt w S v)(hb:Below w.heap.size w w'):KindsAt w' S v:=by
 rcases h with h|⟨b,off,cap,hv,hl,hbs,hc⟩
 ·exact Or.inl h
 ·exact Or.inr ⟨b,off,cap,hv,hl,Nat.lt_of_lt_of_le hbs hb.size,fun i k hk=>(hb.cell (p:=⟨b,off+i,none⟩) hbs).trans (hc i k hk)⟩
theorem KindsAt.shape {w:World}{S:List Nat}{v:Value}(h:KindsAt w S v):∃p c,v=.slice p S.length c∧S.length≤100∧∀(i k:Nat),S[i]? = some k→∃b off,p=some ⟨b,off,none⟩∧w.cell? ⟨b,off+i,none⟩=some (.int .u8 (k:Int)):=by
 rcases h with ⟨rfl,rfl⟩|⟨b,off,cap,rfl,hl,_,hc⟩
 ·exact⟨none,0,rfl,by simp,fun i k hk=>by simp at hk⟩
 ·exact⟨_,cap,rfl,hl,fun i k hk=>⟨b,off,rfl,hc i k hk⟩⟩
theorem take_any_no {α:Type}(p:α→Bool)(l:List α)(k:Nat)(x:α)(hx:l[k]? = some x)(h:(l.take k).any p=false)(hp:p x=false):(l.take (k+1)).any p=false:=by
 rw[List.take_add_one,hx,List.any_append,h];simp[hp]
theorem any_mem {α:Type}(p:α→Bool)(l:List α)(k:Nat)(x:α)(hx:l[k]? = some x)(h:p x=true):l.any p=true:=
 List.any_eq_true.2 ⟨x,List.mem_of_getElem? hx,h⟩
theorem indexK_any (S:List Nat)(v:Value)(x:Nat)(w:World)(h:KindsAt w S v) :
  Calls Tryz.prog 107 #[v,.int .u8 (x:Int)] w fun e w'=>(∃i:Int,e=.returned (.int .i64 i)∧decide (0≤i)=S.any (· == x))∧w=w':=by
 obtain⟨p,c,rfl,hl,hc⟩:=h.shape
 obtain⟨n,hn⟩:∃n,S.length=n:=⟨_,rfl⟩
 rw[hn] at hl ⊢
 have HC:=Hd hc
 have HN:=Hd hn
 clear hc hn h
 go_enter Tryz.func107,Tryz.ntmps107
 go_wp2_with fail
 go_loop [8,5] (fun i _=>∃k:Nat,k≤n∧i=.int .i64 k∧(S.take k).any (· == x)=false) (fun i _=>n-(intOf i).toNat)
 case atStart=>exact⟨0,Nat.zero_le _,rfl,rfl⟩
 case round =>
  obtain⟨k,hk,rfl,hno⟩:=hrel
  have HO:=Hd hno
  clear hno
  by_cases hlt:k<n
  ·obtain⟨y,hy⟩:∃y,S[k]? = some y:=⟨S[k]'(by rw[HN.out];exact hlt),List.getElem?_eq_getElem (by rw[HN.out];exact hlt)⟩
   obtain⟨b,off,rfl,hcell⟩:=HC.out k y hy
   have HY:=Hd hy
   clear hy
   cases hb:((x:Int)==(y:Int))
   ·have HR:=Hd hb
    go_wp2_with fail
    go_round
    case rel =>
     refine⟨k+1,by omega,by go_num,take_any_no (· == x) _ _ _ HY.out HO.out ?_⟩
     have:=HR.out
     simp at this ⊢
     omega
    case measure=>simp[intOf];omega
   ·have HR:=Hd hb
    go_wp2_with fail
    go_ret
    refine⟨⟨k,rfl,?_⟩,rfl⟩
    rw[any_mem (· == x) _ _ _ HY.out (by have:=HR.out;simp at this ⊢;omega)];simp
  ·go_wp2_with fail
   go_ret
   refine⟨⟨-1,rfl,?_⟩,rfl⟩
   have e:S.take k=S:=List.take_of_length_le (by rw[HN.out];omega)
   have:=HO.out
   rw[e] at this
   rw[this];rfl
theorem containsK_any (S:List Nat)(v:Value)(x:Nat)(w:World)(h:KindsAt w S v) :
  Calls Tryz.prog 81 #[v,.int .u8 (x:Int)] w fun e w'=>e=.returned (.bool (S.contains x))∧w=w':=by
 have HC:=Hd (indexK_any S v x w h)
 have he:S.any (· == x)=S.contains x:=by rw[List.contains_eq_any_beq];congr 1;funext y;rw[Bool.beq_comm]
 rw[he] at HC
 clear he h
 go_enter Tryz.func81,Tryz.ntmps81
 go_wp2_with (go_at_call 107;refine Calls.mono HC.out ?_;rintro e w' ⟨⟨i,rfl,hi⟩,rfl⟩;have HI:=Hd hi;clear hi)
 go_ret
 exact⟨by rw[←HI.out];rfl,rfl⟩
theorem nodeAmong_any (p:Option Addr)(n c:Nat)(w:World) :
  Calls Tryz.prog 47 #[.slice p n c] w fun e w'=>e=.returned (.func (.func 80) #[] #[.pointer (some ⟨w.heap.size,0,none⟩)])∧w'=w.alloc (.cells #[.slice p n c] 159):=by
 go_enter Tryz.func47,Tryz.ntmps47
 go_wp2_with fail
 go_ret
 exact⟨rfl,rfl⟩
def AmongRel (w:World) (S:List Nat) (ks:List Tree) (n:Nat) (i:Value) (W:World):Prop:=∃(W1:World) (k:Nat),W1=W∧k≤n∧i=.int .i64 k∧Below w.heap.size w W1∧among S (ks.take k)=true
theorem among_next (S:List Nat)(ks:List Tree)(k:Nat)(t:Tree)(h:ks[k]? = some t)(h0:among S (ks.take k)=true)(ht:S.contains t.kind=true):among S (ks.take (k+1))=true:=by
 unfold among at *
 rw[List.take_add_one,h,List.all_append,h0]
 simpa using ht
theorem among_no (S:List Nat)(ks:List Tree)(k:Nat)(t:Tree)(h:ks[k]? = some t)(ht:S.contains t.kind=false):among S ks=false:=by
 unfold among
 rw[List.all_eq_false]
 exact⟨t,List.mem_of_getElem? h,by simpa using ht⟩
theorem nodeAmong1_any (S:List Nat)(ks:List Tree)(v sv:Value)(d B b:Nat)(w:World)(hk:KidsAt w B d ks v)(hB:B≤w.heap.size)(hn9:ks.length≤20000)(hs:KindsAt w S sv)(hb:b<w.heap.size)(hc:w.cell? ⟨b,0,none⟩=some sv) :
  Calls Tryz.prog 80 #[v,.pointer (some ⟨b,0,none⟩)] w (BoolPost (among S ks) w):=by
 obtain⟨p,c,rfl,_,hrow⟩:=hk.rows
 obtain⟨q,cq,rfl,_,_⟩:=hs.shape
 obtain⟨n,hn⟩:∃n,ks.length=n:=⟨_,rfl⟩
 rw[hn] at hn9 ⊢
 have HN:=Hd hn
 have HRow:=Hd hrow
 have HS:=Hd hs
 have HC:=Hd hc
 clear hrow hs hk hn hc
 go_enter Tryz.func80,Tryz.ntmps80
 go_wp2_with fail
 go_loopw [8] (AmongRel w S ks n) (fun i _=>n-(intOf i).toNat)
 case atStart=>exact⟨_,0,rfl,Nat.zero_le _,rfl,Below.refl _ _,rfl⟩
 case round =>
  obtain⟨W1,k,rfl,hk,rfl,hbw,hall⟩:=hrel
  have HA:=Hd hall
  have HBw:=Hd hbw
  clear hall
  by_cases hlt:k<n
  ·obtain⟨t,ht⟩:∃t,ks[k]? = some t:=⟨ks[k]'(by rw[HN.out];exact hlt),List.getElem?_eq_getElem (by rw[HN.out];exact hlt)⟩
   obtain⟨_,b',off,rfl,hbB,hkid⟩:=HRow.out k t ht
   obtain⟨p',l',c',d0,d1,d2,d3,d4,_⟩:=hkid.node (hbw.mono hB) hbB
   have hcb:=(hbw.cell (p:=⟨b,0,none⟩) hb).trans HC.out
   have hbW:=Nat.lt_of_lt_of_le hb hbw.size
   have HS1:=Hd (HS.out.below hbw)
   have HT:=Hd ht
   have hk0:(0:Int)≤k:=by omega
   have hk1:(k:Int)<n:=by omega
   have hal:∀o:Obj,Below W1.heap.size W1 (W1.alloc o):=fun o=>(Below.refl _ W1).alloc (Nat.le_refl _) o
   have HCt:=Hd (fun W (hW:Below W1.heap.size W1 W)=>containsK_any S _ t.kind W (HS1.out.below hW))
   have HAl:=Hd hal
   clear hkid ht hbw hal
   cases hct:S.contains t.kind
   ·rw[hct] at HCt
    have HCT:=Hd hct
    clear hct
    go_wp2_with fail
    refine Calls.mono (HCt.out _ (HAl.out _)) ?_
    rintro e W2 ⟨rfl,rfl⟩
    go_wp2_with fail
    go_ret
    exact⟨ret_bool (among_no S ks k t HT.out HCT.out).symm,HBw.out.trans ((HAl.out _).mono HBw.out.size)⟩
   ·rw[hct] at HCt
    have HCT:=Hd hct
    clear hct
    go_wp2_with fail
    refine Calls.mono (HCt.out _ (HAl.out _)) ?_
    rintro e W2 ⟨rfl,rfl⟩
    go_wp2_with fail
    exact⟨⟨_,k+1,rfl,by omega,by go_num,HBw.out.trans ((HAl.out _).mono HBw.out.size),among_next S ks k t HT.out HA.out HCT.out⟩,by simp[intOf];omega⟩
  ·obtain rfl:k=n:=by omega
   go_wp2_with fail
   go_ret
   refine⟨ret_bool ?_,HBw.out⟩
   have:=HA.out
   rw[List.take_of_length_le (by rw[HN.out];exact Nat.le_refl _)] at this
   exact this.symm
theorem hasPrefix_neg (l:List UInt8):Lib.hasPrefix l [45]=negB l:=by
 unfold Lib.hasPrefix negB
 cases l with
 | nil=>rfl
 | cons c r =>
  by_cases h:c=45
  ·subst h;rfl
  ·have:(45==c)=false:=by simpa using fun e:(45:UInt8)=c=>h e.symm
   simp only[List.isPrefixOf,this,Bool.false_and]
   split
   ·rename_i heq;injection heq with heq;exact absurd heq h
   ·rfl
theorem hasPrefix_dash (s:ByteArray)(w:World):Calls Tryz.prog 82 #[.string s,.string ⟨#[45]⟩] w fun e w'=>e=.returned (.bool (negB s.data.toList))∧w=w':=
 (Tryz.strings_HasPrefix s ⟨#[45]⟩ w).mono fun e w' ⟨h1,h2⟩=>⟨by rw[h1,←hasPrefix_neg],h2.symm⟩
def negT (t:Tree):Bool:=t.kind==14&&negB t.text.data.toList
theorem exprsB_eq (l:List Tree):exprsB l=(l.all (fun t=>!negT t)&&among [13,14,15,16] l):=rfl
theorem all_next {α:Type}(p:α→Bool)(l:List α)(k:Nat)(x:α)(hx:l[k]? = some x)(h:(l.take k).all p=true)(hp:p x=true):(l.take (k+1)).all p=true:=by
 rw[List.take_add_one,hx,List.all_append,h];simpa using hp
theorem all_not {α:Type}(p:α→Bool)(l:List α)(k:Nat)(x:α)(hx:l[k]? = some x)(hp:p x=false):l.all p=false:=by
 rw[List.all_eq_false];exact⟨x,List.mem_of_getElem? hx,by simp[hp]⟩
def AllRel (w:World) (p:Tree→Bool) (ks:List Tree) (n:Nat) (i:Value) (W:World):Prop:=∃(W1:World) (k:Nat),W1=W∧k≤n∧i=.int .i64 k∧Below w.heap.size w W1∧(ks.take k).all p=true
theorem kinds_new (w:World)(S:List Nat)(hl:S.length≤100)(arr:Array Value)(ha:arr=(S.map fun k:Nat=>Value.int .u8 (k:Int)).toArray)(n:Nat)(hn:S.length=n):KindsAt (w.alloc (.cells arr 22)) S (.slice (some ⟨w.heap.size,0,none⟩) n n):=by
 subst ha
 subst hn
 refine Or.inr ⟨w.heap.size,0,S.length,rfl,hl,by simp,fun i k hk=>?_⟩
 rw[cell_of_row _ _ _ _ _ _ (heap_alloc_new w _)]
 simp[hk]
theorem among_lit (S:List Nat)(hl:S.length≤100)(arr:Array Value)(ha:arr=(S.map fun k:Nat=>Value.int .u8 (k:Int)).toArray)(n:Nat)(hn:S.length=n)(ks:List Tree)(v:Value)(d B:Nat)(W1:World)
  (hk:KidsAt W1 B d ks v) (hB:B≤W1.heap.size) (hn9:ks.length≤20000) :
  Calls Tryz.prog 80 #[v,.pointer (some ⟨W1.heap.size+1,0,none⟩)] ((W1.alloc (.cells arr 22)).alloc (.cells #[.slice (some ⟨W1.heap.size,0,none⟩) n n] 159)) (BoolPost (among S ks) W1):=by
 have hb2:=below_two W1 (.cells arr 22) (.cells #[.slice (some ⟨W1.heap.size,0,none⟩) n n] 159)
 have hkd:=(kinds_new W1 S hl arr ha n hn).below ((Below.refl _ _).alloc (Nat.le_refl _) (.cells #[.slice (some ⟨W1.heap.size,0,none⟩) n n] 159))
 have hX:=(two_new' W1 (.cells arr 22) (.cells #[.slice (some ⟨W1.heap.size,0,none⟩) n n] 159)).2.1
 have hc:=cell_of_row _ _ 0 _ _ _ hX
 refine (nodeAmong1_any S ks v _ d B (W1.heap.size+1) _ (hk.below (hb2.mono hB)) (Nat.le_trans hB hb2.size) hn9 hkd (by simp) hc).mono ?_
 rintro e W ⟨he,hb⟩
 exact⟨he,hb2.trans (hb.mono hb2.size)⟩
theorem nodeExprs_any (ks:List Tree)(v:Value)(d B:Nat)(w:World)(hk:KidsAt w B d ks v)(hB:B≤w.heap.size)(hn9:ks.length≤20000) :
  Calls Tryz.prog 50 #[v] w (BoolPost (exprsB ks) w):=by
 have hkk:=hk
 obtain⟨p,c,rfl,_,hrow⟩:=hk.rows
 obtain⟨n,hn⟩:∃n,ks.length=n:=⟨_,rfl⟩
 rw[hn] at hn9 hkk ⊢
 have HN:=Hd hn
 have HRow:=Hd hrow
 have HK:=Hd hkk
 clear hrow hk hn hkk
 go_enter Tryz.func50,Tryz.ntmps50
 go_wp2_with fail
 go_loopw [7] (AllRel w (fun t=>!negT t) ks n) (fun i _=>n-(intOf i).toNat)
 case atStart=>exact⟨_,0,rfl,Nat.zero_le _,rfl,Below.refl _ _,rfl⟩
 case round =>
  obtain⟨W1,k,rfl,hk,rfl,hbw,hall⟩:=hrel
  have HA:=Hd hall
  have HBw:=Hd hbw
  clear hall
  by_cases hlt:k<n
  ·obtain⟨t,ht⟩:∃t,ks[k]? = some t:=⟨ks[k]'(by rw[HN.out];exact hlt),List.getElem?_eq_getElem (by rw[HN.out];exact hlt)⟩
   obtain⟨_,b',off,rfl,hbB,hkid⟩:=HRow.out k t ht
   obtain⟨p',l',c',d0,d1,d2,d3,d4,_⟩:=hkid.node (hbw.mono hB) hbB
   have HT:=Hd ht
   have hk0:(0:Int)≤k:=by omega
   have hk1:(k:Int)<n:=by omega
   have hal:∀o:Obj,Below W1.heap.size W1 (W1.alloc o):=fun o=>(Below.refl _ W1).alloc (Nat.le_refl _) o
   have HP:=Hd (fun W=>hasPrefix_dash t.text W)
   have HAl:=Hd hal
   clear hkid ht hbw hal
   cases h14:((t.kind:Int)==14)
   ·have HNg:=Hd (show (!negT t)=true by unfold negT;have:(t.kind==14)=false:=by simp at h14 ⊢;omega
                                         rw[this];rfl)
    go_wp2_with fail
    exact⟨⟨_,k+1,rfl,by omega,by go_num,HBw.out.trans ((HAl.out _).mono HBw.out.size),all_next _ ks k t HT.out HA.out HNg.out⟩,by simp[intOf];omega⟩
   ·have h14':(t.kind==14)=true:=by simp at h14 ⊢;omega
    have HE:Hid (negT t=negB t.text.data.toList):=by
     show negT t=_
     unfold negT;rw[h14'];rfl
    clear h14'
    generalize negB t.text.data.toList=ng at *
    cases ng
    ·go_wp2_with fail
     refine Calls.mono (HP.out _) ?_
     rintro e W2 ⟨rfl,rfl⟩
     go_wp2_with fail
     exact⟨⟨_,k+1,rfl,by omega,by go_num,HBw.out.trans ((HAl.out _).mono HBw.out.size),all_next _ ks k t HT.out HA.out (by show (!negT t)=true;rw[HE.out];rfl)⟩,by simp[intOf];omega⟩
    ·go_wp2_with fail
     refine Calls.mono (HP.out _) ?_
     rintro e W2 ⟨rfl,rfl⟩
     go_wp2_with fail
     go_ret
     refine⟨ret_bool ?_,HBw.out.trans ((HAl.out _).mono HBw.out.size)⟩
     rw[exprsB_eq,all_not _ ks k t HT.out (by show (!negT t)=false;rw[HE.out];rfl)]
     rfl
  ·obtain rfl:k=n:=by omega
   have HC:=Hd (among_lit [13,14,15,16] (by decide) #[.int .u8 13,.int .u8 14,.int .u8 15,.int .u8 16] rfl 4 rfl ks _ d B W1 (HK.out.below (hbw.mono hB)) (Nat.le_trans hB hbw.size) (by rw[HN.out];exact hn9))
   clear hbw
   go_wp2_with (go_at_call 47;refine (nodeAmong_any _ _ _ _).mono ?_;rintro e W2 ⟨rfl,rfl⟩)
   refine Calls.mono HC.out ?_
   rintro e W2 ⟨rfl,hb2⟩
   have HBB:=Hd (HBw.out.trans (hb2.mono HBw.out.size))
   clear hb2
   go_wp2_with fail
   go_ret
   refine⟨ret_bool ?_,HBB.out⟩
   have:=HA.out
   rw[List.take_of_length_le (by rw[HN.out];exact Nat.le_refl _)] at this
   rw[exprsB_eq,this]
   rfl
def testB (l:List Tree):Bool:=l.length==1&&exprsB l
def sayB (l:List Tree):Bool:=decide (0<l.length)&&exprsB l
theorem nodeOf1_any (ks:List Tree)(v:Value)(d B:Nat)(w:World)(hk:KidsAt w B d ks v)(hB:B≤w.heap.size)(hn9:ks.length≤20000) :
  Calls Tryz.prog 49 #[v] w (BoolPost (testB ks) w):=by
 have HE:=Hd (nodeExprs_any ks v d B w hk hB hn9)
 have hT:Hid (testB ks=(ks.length==1&&exprsB ks)):=rfl
 obtain⟨p,c,rfl,_,hrow⟩:=hk.rows
 generalize exprsB ks=x at *
 generalize testB ks=y at *
 generalize ks.length=n at *
 clear hrow hk
 go_enter Tryz.func49,Tryz.ntmps49
 cases h1:((n:Int)==1)
 ·have h1':(n==1)=false:=by simp at h1 ⊢;omega
  have HH:=Hd h1'
  clear h1'
  go_wp2_with fail
  go_ret
  exact⟨ret_bool (by rw[hT.out,HH.out];rfl),Below.refl _ _⟩
 ·have h1':(n==1)=true:=by simp at h1 ⊢;omega
  have HH:=Hd h1'
  clear h1'
  go_wp2_with fail
  refine Calls.mono HE.out ?_
  rintro e W2 ⟨rfl,hb2⟩
  go_wp2_with fail
  go_ret
  exact⟨ret_bool (by rw[hT.out,HH.out];rfl),hb2⟩
theorem nodeOf2_any (ks:List Tree)(v:Value)(d B:Nat)(w:World)(hk:KidsAt w B d ks v)(hB:B≤w.heap.size)(hn9:ks.length≤20000) :
  Calls Tryz.prog 51 #[v] w (BoolPost (sayB ks) w):=by
 have HE:=Hd (nodeExprs_any ks v d B w hk hB hn9)
 have hT:Hid (sayB ks=(decide (0<ks.length)&&exprsB ks)):=rfl
 obtain⟨p,c,rfl,_,hrow⟩:=hk.rows
 generalize exprsB ks=x at *
 generalize sayB ks=y at *
 generalize ks.length=n at *
 clear hrow hk
 go_enter Tryz.func51,Tryz.ntmps51
 by_cases h1:0<n
 ·have HH:=Hd h1
  have h2:(0:Int)<n:=by omega
  go_wp2_with fail
  refine Calls.mono HE.out ?_
  rintro e W2 ⟨rfl,hb2⟩
  go_wp2_with fail
  go_ret
  exact⟨ret_bool (by rw[hT.out];simp[HH.out]),hb2⟩
 ·obtain rfl:n=0:=by omega
  go_wp2_with fail
  go_ret
  exact⟨ret_bool (by rw[hT.out];rfl),Below.refl _ _⟩
theorem KidsAt.part {w:World}{B d:Nat}{ks:List Tree}{b off c:Nat}(h:KidsAt w B d ks (.slice (some ⟨b,off,none⟩) ks.length c))(i m:Nat)(him:i+m≤ks.length)(hc:ks.length≤c)(h63:c≤maxLen) :
  KidsAt w B d ((ks.drop i).take m) (.slice (some ⟨b,off+i*5,none⟩) m (c-i)):=by
 have hlen:((ks.drop i).take m).length=m:=by simp;omega
 by_cases hm:m=0
 ·subst hm
  cases d with
  | zero=>exact⟨by simp,_,_,rfl⟩
  | succ d=>exact Or.inl ⟨by simp,_,_,rfl⟩
 ·rcases h.cases with ⟨h0,_⟩|⟨d',b',off',cap,rfl,hne,hb,hcc,hmx,hsl,hrow⟩
  ·rw[h0] at him;simp at him;omega
  ·injection hsl with e1 e2 e3
   injection e1 with e1
   injection e1 with e4 e5
   subst e4;subst e5;subst e3
   refine Or.inr ⟨b,off+i*5,c-i,?_,hb,by omega,by omega,by rw[hlen],fun j T hT=>?_⟩
   ·intro e;rw[e] at hlen;simp at hlen;omega
   ·have hj:j<m:=by have:=(List.getElem?_eq_some_iff.1 hT).1;omega
    rw[List.getElem?_take,if_pos hj,List.getElem?_drop] at hT
    have:=hrow (i+j) T hT
    rw[Nat.add_mul] at this
    simpa only [Nat.add_assoc] using this
theorem KidsAt.caps {w:World}{B d:Nat}{ks:List Tree}{p:Option Addr}{n c:Nat}(h:KidsAt w B d ks (.slice p n c)):n=ks.length∧(0<n→∃b off,p=some ⟨b,off,none⟩∧b<B∧n≤c∧c≤maxLen):=by
 rcases h.cases with ⟨rfl,sp,cap,e⟩|⟨d',b',off',cap,rfl,hne,hb,hcc,hmx,hsl,hrow⟩
 ·injection e with _ e _
  subst e
  exact⟨rfl,fun h=>absurd h (by omega)⟩
 ·injection hsl with e1 e2 e3
  subst e1;subst e2;subst e3
  exact⟨rfl,fun _=>⟨_,_,rfl,hb,hcc,hmx⟩⟩
theorem size_node (W:World):(sizeOf (Tryz.prog.elem 23)).run Tryz.prog W=.ok 5 W:=by kernel_rfl
theorem slice_nodes (b off n c l h:Nat)(W:World)(hl:l<c)(hh:l≤h)(hc:h≤c) :
  (Instr.slice 23 (.slice (some ⟨b,off,none⟩) n c) (some (.int .i64 l)) (some (.int .i64 h)) none).run Tryz.prog W=.ok (.slice (some ⟨b,off+l*5,none⟩) (h-l) (c-l)) W:=by
 rw[run_slice_lh W 23 (some ⟨b,off,none⟩) n c (by kernel_rfl) .i64 .i64 l h (by omega) (by omega) (by omega),size_node]
 show Result.ok (sliced _ _ _ _ _) W=_
 unfold sliced
 rw[Int.toNat_natCast,Int.toNat_natCast,if_neg (by omega)]
 simp only[Option.map_some,Addr.add]
 by_cases h0:l*5=0
 ·rw[if_pos h0,h0];rfl
 ·rw[if_neg h0]
theorem slice_tail (b off n c l:Nat)(hl:l≤n)(hc:n≤c):∃q:Option Addr,(∀W:World,(Instr.slice 23 (.slice (some ⟨b,off,none⟩) n c) (some (.int .i64 l)) none none).run Tryz.prog W=.ok (.slice q (n-l) (c-l)) W)∧(l<n→q=some ⟨b,off+l*5,none⟩):=by
 refine⟨if c=l then some ⟨b,off,none⟩ else some ⟨b,off+l*5,none⟩,fun W=>?_,fun h=>by rw[if_neg (by omega)]⟩
 rw[run_slice_l W 23 (some ⟨b,off,none⟩) n c (by kernel_rfl) .i64 l (by omega) (by omega),size_node]
 show Result.ok (sliced _ _ _ _ _) W=_
 unfold sliced
 rw[Int.toNat_natCast]
 by_cases hcl:c=l
 ·rw[if_pos hcl,if_pos hcl]
 ·rw[if_neg hcl,if_neg hcl]
  simp only[Option.map_some,Addr.add]
  by_cases h0:l*5=0
  ·rw[if_pos h0,h0];rfl
  ·rw[if_neg h0]
theorem slice_nil (W:World)(c:Nat):(Instr.slice 23 (.slice none 0 c) (some (.int .i64 ((0:Nat):Int))) none none).run Tryz.prog W=.ok (.slice none 0 (c-0)) W:=by
 rw[run_slice_l W 23 none 0 c (by kernel_rfl) .i64 ((0:Nat):Int) (by omega) (by omega),size_node]
 show Result.ok (sliced _ _ _ _ _) W=_
 unfold sliced
 by_cases hcl:c=0
 ·subst hcl;rfl
 ·rw[if_neg (by simpa using hcl)];rfl
theorem KidsAt.tail {w:World}{B d:Nat}{ks:List Tree}{p:Option Addr}{n c:Nat}(h:KidsAt w B d ks (.slice p n c))(k:Nat)(hk:k≤n) :
  ∃q:Option Addr,(∀W:World,(Instr.slice 23 (.slice p n c) (some (.int .i64 k)) none none).run Tryz.prog W=.ok (.slice q (n-k) (c-k)) W)∧KidsAt w B d (ks.drop k) (.slice q (n-k) (c-k)):=by
 obtain⟨hn,hcap⟩:=h.caps
 by_cases h0:0<n
 ·obtain⟨b,off,rfl,hb,hc,hm⟩:=hcap h0
  obtain⟨q,h1,h2⟩:=slice_tail b off n c k hk hc
  refine⟨q,h1,?_⟩
  by_cases hkn:k<n
  ·rw[h2 hkn]
   subst hn
   have:=h.part k (ks.length-k) (by omega) hc hm
   rwa [List.take_of_length_le (by simp)] at this
  ·have e:n-k=0:=by omega
   rw[e]
   cases d with
   | zero=>exact⟨List.drop_eq_nil_of_le (by omega),_,_,rfl⟩
   | succ d=>exact Or.inl ⟨List.drop_eq_nil_of_le (by omega),_,_,rfl⟩
 ·obtain rfl:n=0:=by omega
  obtain rfl:k=0:=by omega
  have hks:ks=[]:=List.eq_nil_of_length_eq_zero hn.symm
  subst hks
  cases p with
  | none =>
   refine⟨none,fun W=>slice_nil W c,?_⟩
   cases d with
   | zero=>exact⟨rfl,_,_,rfl⟩
   | succ d=>exact Or.inl ⟨rfl,_,_,rfl⟩
  | some a =>
   refine⟨some a,fun W=>?_,?_⟩
   ·rw[run_slice_l W 23 (some a) 0 c (by kernel_rfl) .i64 ((0:Nat):Int) (by omega) (by omega),size_node]
    show Result.ok (sliced _ _ _ _ _) W=_
    unfold sliced
    by_cases hcl:c=0
    ·subst hcl;rfl
    ·rw[if_neg (by simpa using hcl)]
     simp[Addr.add]
   ·cases d with
    | zero=>exact⟨rfl,_,_,rfl⟩
    | succ d=>exact Or.inl ⟨rfl,_,_,rfl⟩
def RowRel (w:World) (ks:List Tree) (n:Nat) (i:Value) (W:World):Prop:=∃(W1:World) (k:Nat),W1=W∧k≤n∧i=.int .i64 k∧Below w.heap.size w W1∧(ks.take k).all condB=true
theorem dropWhile_at {α:Type}(p:α→Bool):∀(l:List α)(k:Nat),(l.take k).all p=true→(l.drop k).head?.all (fun x=>!p x)=true→l.dropWhile p=l.drop k:=by
 intro l
 induction l with
 | nil=>intro k _ _;simp
 | cons x l ih =>
  intro k h1 h2
  cases k with
  | zero =>
   rw[List.drop_zero] at h2 ⊢
   simp only[List.head?_cons,Option.all_some,Bool.not_eq_true'] at h2
   rw[List.dropWhile_cons,if_neg (by simp[h2])]
  | succ k =>
   rw[List.take_succ_cons,List.all_cons,Bool.and_eq_true] at h1
   rw[List.dropWhile_cons,if_pos h1.1,List.drop_succ_cons]
   exact ih k h1.2 h2
theorem among_tail {W1:World}{p q:Option Addr}{n c k:Nat}{ks:List Tree}
  (h:∀W2,Below W1.heap.size W1 W2→∃q:Option Addr,(∀W:World,(Instr.slice 23 (.slice p n c) (some (.int .i64 k)) none none).run Tryz.prog W=.ok (.slice q (n-k) (c-k)) W) ∧
    Calls Tryz.prog 80 #[.slice q (n-k) (c-k),.pointer (some ⟨W2.heap.size+1,0,none⟩)] ((W2.alloc (.cells #[.int .u8 8,.int .u8 9,.int .u8 10,.int .u8 11] 22)).alloc (.cells #[.slice (some ⟨W2.heap.size,0,none⟩) 4 4] 159)) (BoolPost (among [8,9,10,11] (ks.drop k)) W2))
  {W3:World} (h3:Below W1.heap.size W1 W3)
  (hq:∀W:World,(Instr.slice 23 (.slice p n c) (some (.int .i64 k)) none none).run Tryz.prog W=.ok (.slice q (n-k) (c-k)) W) :
  ∀W2,Below W3.heap.size W3 W2→Calls Tryz.prog 80 #[.slice q (n-k) (c-k),.pointer (some ⟨W2.heap.size+1,0,none⟩)] ((W2.alloc (.cells #[.int .u8 8,.int .u8 9,.int .u8 10,.int .u8 11] 22)).alloc (.cells #[.slice (some ⟨W2.heap.size,0,none⟩) 4 4] 159)) (BoolPost (among [8,9,10,11] (ks.drop k)) W2):=by
 intro W2 h2
 obtain⟨q',h4,h5⟩:=h W2 (h3.trans (h2.mono h3.size))
 have:=(hq W1).symm.trans (h4 W1)
 simp only[Result.ok.injEq,Value.slice.injEq,and_true] at this
 rw[this]
 exact h5
theorem nodeRow_any (ks:List Tree)(v:Value)(d B:Nat)(w:World)(hk:KidsAt w B d ks v)(hB:B≤w.heap.size)(hn9:ks.length≤20000) :
  Calls Tryz.prog 48 #[v] w (BoolPost (rowB ks) w):=by
 have hkk:=hk
 obtain⟨p,c,rfl,_,hrow⟩:=hk.rows
 obtain⟨n,hn⟩:∃n,ks.length=n:=⟨_,rfl⟩
 have hcaps:=(KidsAt.caps hk).2
 rw[hn] at hn9 hkk hcaps ⊢
 have HN:=Hd hn
 have HK:=Hd hkk
 have HCp:=Hd hcaps
 clear hrow hk hn hkk hcaps
 go_enter Tryz.func48,Tryz.ntmps48
 go_wp2_with fail
 go_loopw [3] (RowRel w ks n) (fun i _=>n-(intOf i).toNat)
 case atStart=>exact⟨_,0,rfl,Nat.zero_le _,rfl,Below.refl _ _,rfl⟩
 case round =>
  obtain⟨W1,k,rfl,hk,rfl,hbw,hall⟩:=hrel
  have HA:=Hd hall
  have HBw:=Hd hbw
  clear hall
  have HTail:∀W2,Below W1.heap.size W1 W2→∃q:Option Addr,(∀W:World,(Instr.slice 23 (.slice p n c) (some (.int .i64 k)) none none).run Tryz.prog W=.ok (.slice q (n-k) (c-k)) W) ∧
    Calls Tryz.prog 80 #[.slice q (n-k) (c-k),.pointer (some ⟨W2.heap.size+1,0,none⟩)] ((W2.alloc (.cells #[.int .u8 8,.int .u8 9,.int .u8 10,.int .u8 11] 22)).alloc (.cells #[.slice (some ⟨W2.heap.size,0,none⟩) 4 4] 159)) (BoolPost (among [8,9,10,11] (ks.drop k)) W2):=by
   intro W2 hb2
   have hb3:=hbw.trans (hb2.mono hbw.size)
   obtain⟨q,h1,h2⟩:=(HK.out.below (hb3.mono hB)).tail k hk
   exact⟨q,h1,among_lit [8,9,10,11] (by decide) _ rfl 4 rfl (ks.drop k) _ d B W2 h2 (Nat.le_trans hB hb3.size) (by rw[List.length_drop,HN.out];omega)⟩
  have HTL:=Hd HTail
  clear HTail
  by_cases hlt:k<n
  ·obtain⟨t,ht⟩:∃t,ks[k]? = some t:=⟨ks[k]'(by rw[HN.out];exact hlt),List.getElem?_eq_getElem (by rw[HN.out];exact hlt)⟩
   obtain⟨b,off,rfl,hbB,hnc,hmx⟩:=HCp.out (by omega)
   have HK1:=HK.out.below (hbw.mono hB)
   have HP1:=Hd (fun W2 (hb2:Below W1.heap.size W1 W2)=>(by
    have hb3:=hbw.trans (hb2.mono hbw.size)
    have hK2:=HK.out.below (hb3.mono hB)
    rw[←HN.out] at hK2
    have h1:=hK2.part k 1 (by rw[HN.out];omega) (by rw[HN.out];exact hnc) hmx
    exact among_lit [5,6,7] (by decide) #[.int .u8 5,.int .u8 6,.int .u8 7] rfl 3 rfl ((ks.drop k).take 1) _ d B W2 h1 (Nat.le_trans hB hb3.size) (by simp;omega) :
    Calls Tryz.prog 80 #[.slice (some ⟨b,off+k*5,none⟩) 1 (c-k),.pointer (some ⟨W2.heap.size+1,0,none⟩)] ((W2.alloc (.cells #[.int .u8 5,.int .u8 6,.int .u8 7] 22)).alloc (.cells #[.slice (some ⟨W2.heap.size,0,none⟩) 3 3] 159)) (BoolPost (among [5,6,7] ((ks.drop k).take 1)) W2)))
   have hsl1:∀W:World,(Instr.slice 23 (.slice (some ⟨b,off,none⟩) n c) (some (.int .i64 k)) (some (.int .i64 ((k:Int)+1))) none).run Tryz.prog W=.ok (.slice (some ⟨b,off+k*5,none⟩) 1 (c-k)) W:=by
    intro W
    have:=slice_nodes b off n c k (k+1) W (by omega) (by omega) (by omega)
    rw[Nat.add_sub_cancel_left] at this
    exact this
   have HT:=Hd ht
   have hc1:among [5,6,7] ((ks.drop k).take 1)=condB t:=by
    rw[List.drop_eq_getElem_cons (by rw[HN.out];exact hlt)]
    have:ks[k]'(by rw[HN.out];exact hlt)=t:=by
     have:=HT.out
     rw[List.getElem?_eq_getElem (by rw[HN.out];exact hlt)] at this
     exact Option.some.inj this
    rw[this]
    simp[among,condB]
   rw[hc1] at HP1
   clear HK1 ht hc1
   have hk0:(0:Int)≤k:=by omega
   have hk1:(k:Int)<n:=by omega
   have hkw:IntKind.i64.wrap ((k:Int)+1)=(k:Int)+1:=IntWalk.i64_in _ (by omega)
   cases hct:condB t
   ·rw[hct] at HP1
    have HFin:Hid (rowB ks=among [8,9,10,11] (ks.drop k)):=by
     show _=_
     unfold rowB
     rw[dropWhile_at condB ks k HA.out]
     rw[List.drop_eq_getElem_cons (by rw[HN.out];exact hlt)]
     have:ks[k]'(by rw[HN.out];exact hlt)=t:=by
      have:=HT.out
      rw[List.getElem?_eq_getElem (by rw[HN.out];exact hlt)] at this
      exact Option.some.inj this
     rw[this]
     simp[hct]
    clear hct
    go_wp2_with fail
    go_region_held3 (fun w'=>True)
     (first|exact trivial)
     (first
      | (go_at_call 47;refine (nodeAmong_any _ _ _ _).mono ?_;rintro e w6 ⟨rfl,rfl⟩)
      | (go_at_call 80;refine Calls.mono (HP1.out _ (Below.refl _ W1).drew) ?_;rintro e w6 ⟨rfl,hb6⟩))
    have HB6:=Hd ((Below.refl _ W1).drew.trans hb6)
    clear hb6 hsl1
    obtain⟨q,hslq,_⟩:=HTL.out w6 HB6.out
    have HC6:=Hd (among_tail HTL.out HB6.out hslq)
    have HBB:=Hd (HBw.out.trans (HB6.out.mono HBw.out.size))
    go_wp2_with fail
    go_region_held3 (fun w'=>True)
     (first|exact trivial)
     (first
      | (go_at_call 47;refine (nodeAmong_any _ _ _ _).mono ?_;rintro e w7 ⟨rfl,rfl⟩)
      | (go_at_call 80;refine Calls.mono (HC6.out _ (Below.refl _ w6).drew) ?_;rintro e w7 ⟨rfl,hb7⟩))
    go_wp2_with fail
    go_ret
    exact⟨ret_bool HFin.out.symm,HBB.out.trans (((Below.refl _ w6).drew.trans hb7).mono HBB.out.size)⟩
   ·rw[hct] at HP1
    have HCT:=Hd hct
    clear hct
    go_wp2_with fail
    go_region_held3 (fun w'=>True)
     (first|exact trivial)
     (first
      | (go_at_call 47;refine (nodeAmong_any _ _ _ _).mono ?_;rintro e w6 ⟨rfl,rfl⟩)
      | (go_at_call 80;refine Calls.mono (HP1.out _ (Below.refl _ W1).drew) ?_;rintro e w6 ⟨rfl,hb6⟩))
    have HB6:=Hd ((Below.refl _ W1).drew.trans hb6)
    clear hb6 hsl1
    go_wp2_with fail
    exact⟨⟨_,k+1,rfl,by omega,by go_num,HBw.out.trans (HB6.out.mono HBw.out.size),all_next condB ks k t HT.out HA.out HCT.out⟩,by simp[intOf];omega⟩
  ·obtain rfl:k=n:=by omega
   have HFin:Hid (rowB ks=among [8,9,10,11] (ks.drop k)):=by
    show _=_
    unfold rowB
    rw[dropWhile_at condB ks k HA.out]
    rw[List.drop_eq_nil_of_le (by rw[HN.out];exact Nat.le_refl _)]
    rfl
   obtain⟨q,hslq,_⟩:=HTL.out W1 (Below.refl _ _)
   have hc6:=among_tail HTL.out (Below.refl _ _) hslq
   rw[Nat.sub_self] at hslq hc6
   have HC6:=Hd hc6
   clear hc6
   have HBB:=Hd hbw
   clear hbw
   go_wp2_with fail
   refine wp_region_below (by kernel_rfl) (by kernel_rfl) ?_
   repeat (go_big_quiet_step (fail))
   refine wpQuiet_nil ?_
   intro W2 hw'
   have hb2:=wb_below hw'
   clear hw'
   have HC7:=Hd (fun W3 (h3:Below W2.heap.size W2 W3)=>HC6.out W3 (hb2.trans (h3.mono hb2.size)))
   have HB7:=Hd (HBB.out.trans (hb2.mono HBB.out.size))
   clear hb2
   go_wp2_with fail
   go_region_held3 (fun w'=>True)
    (first|exact trivial)
    (first
     | (go_at_call 47;refine (nodeAmong_any _ _ _ _).mono ?_;rintro e w7 ⟨rfl,rfl⟩)
     | (go_at_call 80;refine Calls.mono (HC7.out _ (Below.refl _ W2).drew) ?_;rintro e w7 ⟨rfl,hb7⟩))
   go_wp2_with fail
   go_ret
   exact⟨ret_bool HFin.out.symm,HB7.out.trans (((Below.refl _ W2).drew.trans hb7).mono HB7.out.size)⟩
end Go.Proofs.YtglbjooofdnbkaaGreatDoor
