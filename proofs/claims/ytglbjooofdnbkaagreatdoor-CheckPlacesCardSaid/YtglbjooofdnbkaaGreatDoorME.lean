/- Several texts joined, each with its own sentence and conditions ahead of it: TreeA, TreeB, TreeC, TreeD, TreeE, TreeF, TreeM, TreeG, TreeH, TreeI, TreeJ. -/
import Derived.Test.YtglbjooofdnbkaaGreatDoorMD
import Derived.StillTailTactics
namespace Go.Proofs.YtglbjooofdnbkaaGreatDoor
set_option maxHeartbeats 1000000
set_option maxRecDepth 100000
open Go.RowKit
inductive Tree where
 | mk (kind:Nat) (text:ByteArray) (num place:Int) (kids:List Tree)
def Tree.kind:Tree→Nat | .mk k _ _ _ _=>k
def Tree.text:Tree→ByteArray | .mk _ t _ _ _=>t
def Tree.num:Tree→Int | .mk _ _ n _ _=>n
def Tree.place:Tree→Int | .mk _ _ _ p _=>p
def Tree.kids:Tree→List Tree | .mk _ _ _ _ l=>l
def deepF:Nat→Tree→Nat
 | 0,_=>1
 | d+1,T=>(T.kids.map (deepF d)).foldl Nat.max 0+1
def manyF:Nat→Tree→Nat
 | 0,_=>1
 | d+1,T=>(T.kids.map (manyF d)).foldl (· + ·) 1
def twoL:List ByteArray:=[⟨#[111,114]⟩,⟨#[97,110,100]⟩,⟨#[61]⟩,⟨#[33,61]⟩,⟨#[60]⟩,⟨#[60,61]⟩,⟨#[62]⟩,⟨#[62,61]⟩,⟨#[43]⟩,⟨#[45]⟩,⟨#[42]⟩]
def oneL:List ByteArray:=[⟨#[45]⟩,⟨#[110,111,116]⟩]
def amongB (l:List ByteArray) (x:List UInt8):Bool:=l.any (fun b=>b.data.toList==x)
def strip (l:List UInt8):List UInt8:=match l with|45::r=>r|l=>l
def negB (l:List UInt8):Bool:=match l with|45::_=>true|_=>false
def textOk (kind:Nat) (text:List UInt8) (kids:Nat):Bool:=
 if kind==2||kind==3||kind==4||kind==5||kind==6||kind==8 then namedF text&&!wordB text
 else if kind==13||kind==15 then namedF text
 else if kind==14 then (number (strip text)).isSome
 else if kind==16 then (kids==1&&amongB oneL text)||(kids==2&&amongB twoL text)
 else text.isEmpty
def numOk (kind:Nat) (num:Int):Bool:=
 if kind==4 then decide (-2147483647≤num)&&decide (num≤2147483647)
 else if kind==9 then decide (0≤num)&&decide (num≤2147483647)
 else num==0
def among (S:List Nat) (l:List Tree):Bool:=l.all (fun t=>S.contains t.kind)
def exprsB (l:List Tree):Bool:=l.all (fun t=>!(t.kind==14&&negB t.text.data.toList))&&among [13,14,15,16] l
def condB (t:Tree):Bool:=[5,6,7].contains t.kind
def rowB (l:List Tree):Bool:=among [8,9,10,11] (l.dropWhile condB)
def kidsOk (kind:Nat) (l:List Tree):Bool:=
 if kind==1 then among [2,4] l
 else if kind==2 then among [3] l
 else if kind==4 then rowB l
 else if kind==5||kind==6 then among [12,13,14,15] l
 else if kind==7 then l.length==1&&exprsB l
 else if kind==8||kind==16 then exprsB l
 else if kind==10 then decide (0<l.length)&&exprsB l
 else l.isEmpty
def levelOk (T:Tree):Bool:=decide (1≤T.kind)&&decide (T.kind≤16)&&textOk T.kind T.text.data.toList T.kids.length&&numOk T.kind T.num&&decide (0≤T.place)&&kidsOk T.kind T.kids
def okF:Nat→Tree→Bool
 | 0,T=>levelOk T
 | d+1,T=>levelOk T&&T.kids.all (okF d)
def rightF (d:Nat) (T:Tree):Bool:=T.kind==1&&okF d T&&decide (deepF d T≤30)&&decide (manyF d T≤4096)
def nodesF:Nat→Tree→Int→Int
 | 0,T,most=>min (1+((T.text.size / 8:Nat):Int)) (most+1)
 | d+1,T,most=>min (T.kids.foldl (fun c k=>if c≤most then c+nodesF d k (most-c) else c) (1+((T.text.size / 8:Nat):Int))) (most+1)
def Fits (T:Tree):Prop:=T.kind<256∧T.text.size≤maxLen∧-9223372036854775808≤T.num∧T.num<9223372036854775808∧-9223372036854775808≤T.place∧T.place<9223372036854775808
def KidsAt (w:World) (B:Nat):Nat→List Tree→Value→Prop
 | 0,ks,sl=>ks=[]∧∃sp cap,sl=.slice sp 0 cap
 | d+1,ks,sl=>(ks=[]∧∃sp cap,sl=.slice sp 0 cap) ∨
   ∃b off cap,ks≠[]∧b<B∧ks.length≤cap∧cap≤maxLen∧sl=.slice (some ⟨b,off,none⟩) ks.length cap ∧
    ∀i T,ks[i]? = some T→Fits T∧∃s,w.cell? ⟨b,off+i*5,none⟩=some (.int .u8 T.kind)∧w.cell? ⟨b,off+i*5+1,none⟩=some (.string T.text) ∧
     w.cell? ⟨b,off+i*5+2,none⟩=some (.int .i64 T.num)∧w.cell? ⟨b,off+i*5+3,none⟩=some (.int .i64 T.place)∧w.cell? ⟨b,off+i*5+4,none⟩=some s∧KidsAt w B d T.kids s
def NodeAt (w:World) (B:Nat) (d:Nat) (T:Tree) (v:Value):Prop:=Fits T∧∃s,v=.agg #[.int .u8 T.kind,.string T.text,.int .i64 T.num,.int .i64 T.place,s]∧KidsAt w B d T.kids s
theorem KidsAt.below {w w':World}{B:Nat}(hb:Below B w w'):∀{d:Nat}{ks:List Tree}{sl:Value},KidsAt w B d ks sl→KidsAt w' B d ks sl:=by
 intro d
 induction d with
 | zero=>intro ks sl h;exact h
 | succ d ih =>
  intro ks sl h
  rcases h with h|⟨b,off,cap,h1,h2,h3,h4,h5,h6⟩
  ·exact Or.inl h
  ·refine Or.inr ⟨b,off,cap,h1,h2,h3,h4,h5,fun i T hT=>?_⟩
   obtain⟨hf,s,c0,c1,c2,c3,c4,hk⟩:=h6 i T hT
   have e:∀j,w'.cell? ⟨b,j,none⟩=w.cell? ⟨b,j,none⟩:=fun j=>hb.cell (p:=⟨b,j,none⟩) h2
   exact⟨hf,s,(e _).trans c0,(e _).trans c1,(e _).trans c2,(e _).trans c3,(e _).trans c4,ih hk⟩
theorem KidsAt.up {w:World}{B B':Nat}(hB:B≤B'):∀{d:Nat}{ks:List Tree}{sl:Value},KidsAt w B d ks sl→KidsAt w B' d ks sl:=by
 intro d
 induction d with
 | zero=>intro ks sl h;exact h
 | succ d ih =>
  intro ks sl h
  rcases h with h|⟨b,off,cap,h1,h2,h3,h4,h5,h6⟩
  ·exact Or.inl h
  ·refine Or.inr ⟨b,off,cap,h1,Nat.lt_of_lt_of_le h2 hB,h3,h4,h5,fun i T hT=>?_⟩
   obtain⟨hf,s,c0,c1,c2,c3,c4,hk⟩:=h6 i T hT
   exact⟨hf,s,c0,c1,c2,c3,c4,ih hk⟩
theorem NodeAt.below {w w':World}{B d:Nat}{T:Tree}{v:Value}(h:NodeAt w B d T v)(hb:Below B w w'):NodeAt w' B d T v:=by
 obtain⟨hf,s,rfl,hk⟩:=h
 exact⟨hf,s,rfl,hk.below hb⟩
theorem KidsAt.cases {w:World}{B d:Nat}{ks:List Tree}{sl:Value}(h:KidsAt w B d ks sl):(ks=[]∧∃sp cap,sl=.slice sp 0 cap) ∨
  ∃d' b off cap,d=d'+1∧ks≠[]∧b<B∧ks.length≤cap∧cap≤maxLen∧sl=.slice (some ⟨b,off,none⟩) ks.length cap ∧
   ∀i T,ks[i]? = some T→Fits T∧∃s,w.cell? ⟨b,off+i*5,none⟩=some (.int .u8 T.kind)∧w.cell? ⟨b,off+i*5+1,none⟩=some (.string T.text) ∧
     w.cell? ⟨b,off+i*5+2,none⟩=some (.int .i64 T.num)∧w.cell? ⟨b,off+i*5+3,none⟩=some (.int .i64 T.place)∧w.cell? ⟨b,off+i*5+4,none⟩=some s∧KidsAt w B d' T.kids s:=by
 cases d with
 | zero=>exact Or.inl h
 | succ d =>
  rcases h with h|⟨b,off,cap,h1,h2,h3,h4,h5,h6⟩
  ·exact Or.inl h
  ·exact Or.inr ⟨d,b,off,cap,rfl,h1,h2,h3,h4,h5,h6⟩
theorem box_new (w:World)(T:Tree)(s:Value):(w.alloc (.cells #[.int .u8 T.kind,.string T.text,.int .i64 T.num,.int .i64 T.place,s] 25)).cell? ⟨w.heap.size,4,none⟩=some s:=by
 rw[cell_of_row _ _ 4 _ _ _ (heap_alloc_new w _)]
 rfl
theorem foldl_add (l:List Nat):∀a:Nat,l.foldl (· + ·) a=a+l.foldl (· + ·) 0:=by
 induction l with
 | nil=>intro a;rfl
 | cons x l ih=>intro a;rw[List.foldl_cons,ih,List.foldl_cons,ih (0+x)];omega
theorem kids_len (d:Nat)(T:Tree):T.kids.length≤manyF (d+1) T:=by
 show _≤(T.kids.map (manyF d)).foldl (· + ·) 1
 rw[foldl_add]
 have hp:∀k:Tree,1≤manyF d k:=by
  intro k
  cases d with
  | zero=>exact Nat.le_refl _
  | succ d=>show 1≤(k.kids.map (manyF d)).foldl (· + ·) 1;rw[foldl_add];omega
 induction T.kids with
 | nil=>exact Nat.zero_le _
 | cons x l ih =>
  rw[List.map_cons,List.foldl_cons,foldl_add,List.length_cons]
  have:=hp x
  omega
theorem KidsAt.shape {w:World}{B d:Nat}{ks:List Tree}{sl:Value}(h:KidsAt w B d ks sl):∃p n c,sl=.slice p n c:=by
 rcases h.cases with ⟨_,sp,cap,rfl⟩|⟨_,b,off,cap,_,_,_,_,_,rfl,_⟩
 ·exact⟨_,_,_,rfl⟩
 ·exact⟨_,_,_,rfl⟩
theorem NodeAt.alloc {w:World}{B d:Nat}{T:Tree}{v:Value}(h:NodeAt w B d T v)(hB:B≤w.heap.size)(o:Obj):NodeAt (w.alloc o) B d T v:=h.below (((Below.refl _ w).alloc (Nat.le_refl _) o).mono hB)
def TruePost (w:World) (e:Ending) (w':World):Prop:=e=.returned (.bool true)∧Below w.heap.size w w'
def UpRel (w:World) (n:Nat) (i:Value) (W:World):Prop:=∃(W1:World) (k:Nat),W1=W∧k≤n∧i=.int .i64 k∧Below w.heap.size w W1
theorem row_kid {w W:World}{B b off d:Nat}{t:Tree}(hB:Below B w W)(hbB:b<B){i:Nat}
  (h:Fits t∧∃s,w.cell? ⟨b,off+i*5,none⟩=some (.int .u8 t.kind)∧w.cell? ⟨b,off+i*5+1,none⟩=some (.string t.text) ∧
     w.cell? ⟨b,off+i*5+2,none⟩=some (.int .i64 t.num)∧w.cell? ⟨b,off+i*5+3,none⟩=some (.int .i64 t.place)∧w.cell? ⟨b,off+i*5+4,none⟩=some s∧KidsAt w B d t.kids s) :
  ∃p n c,W.cell? ⟨b,off+i*5,none⟩=some (.int .u8 t.kind)∧W.cell? ⟨b,off+i*5+1,none⟩=some (.string t.text) ∧
       W.cell? ⟨b,off+i*5+2,none⟩=some (.int .i64 t.num)∧W.cell? ⟨b,off+i*5+3,none⟩=some (.int .i64 t.place)∧W.cell? ⟨b,off+i*5+4,none⟩=some (.slice p n c) ∧
       NodeAt W B d t (.agg #[.int .u8 t.kind,.string t.text,.int .i64 t.num,.int .i64 t.place,.slice p n c]):=by
 obtain⟨hf,s,c0,c1,c2,c3,c4,hk⟩:=h
 obtain⟨p,n,c,rfl⟩:=hk.shape
 have e:∀j,W.cell? ⟨b,j,none⟩=w.cell? ⟨b,j,none⟩:=fun j=>hB.cell (p:=⟨b,j,none⟩) hbB
 exact⟨p,n,c,(e _).trans c0,(e _).trans c1,(e _).trans c2,(e _).trans c3,(e _).trans c4,hf,_,rfl,hk.below hB⟩
def nodesStep (d:Nat) (most c:Int) (k:Tree):Int:=if c≤most then c+nodesF d k (most-c) else c
theorem nodesF_leaf (d:Nat)(T:Tree)(most:Int)(h:T.kids=[]):nodesF d T most=min (1+((T.text.size / 8:Nat):Int)) (most+1):=by
 cases d with
 | zero=>rfl
 | succ d=>show min (T.kids.foldl (nodesStep d most) (1+((T.text.size / 8:Nat):Int))) (most+1)=_;rw[h];rfl
theorem nodesFold_ge (d:Nat)(most:Int)(hd:∀(k:Tree)(m:Int),0≤m→1≤nodesF d k m):∀(l:List Tree)(c:Int),1≤c→1≤l.foldl (nodesStep d most) c:=by
 intro l
 induction l with
 | nil=>intro c h;exact h
 | cons x l ih =>
  intro c h
  rw[List.foldl_cons]
  apply ih
  unfold nodesStep
  split
  ·have:=hd x (most-c) (by omega);omega
  ·exact h
theorem nodesF_pos:∀(d:Nat)(T:Tree)(m:Int),0≤m→1≤nodesF d T m:=by
 intro d
 induction d with
 | zero=>intro T m h;show 1≤min _ _;omega
 | succ d ih =>
  intro T m h
  have:=nodesFold_ge d m ih T.kids (1+((T.text.size / 8:Nat):Int)) (by omega)
  show 1≤min (T.kids.foldl (nodesStep d m) (1+((T.text.size / 8:Nat):Int))) (m+1)
  omega
theorem nodesF_le (d:Nat)(T:Tree)(m:Int):nodesF d T m≤m+1:=by
 cases d with
 | zero=>show min _ _≤_;omega
 | succ d=>show min _ _≤_;omega
theorem nodesFold_le (d:Nat)(most:Int):∀(l:List Tree)(c:Int),l.foldl (nodesStep d most) c≤max c (most+1):=by
 intro l
 induction l with
 | nil=>intro c;show c≤max c (most+1);omega
 | cons x l ih =>
  intro c
  rw[List.foldl_cons]
  have h:=ih (nodesStep d most c x)
  have h2:nodesStep d most c x≤max c (most+1):=by
   unfold nodesStep
   split
   ·have:=nodesF_le d x (most-c);omega
   ·omega
  omega
theorem nodesFold_stop (d:Nat)(most:Int):∀(l:List Tree)(c:Int),most<c→l.foldl (nodesStep d most) c=c:=by
 intro l
 induction l with
 | nil=>intro c _;rfl
 | cons x l ih =>
  intro c h
  rw[List.foldl_cons]
  have e:nodesStep d most c x=c:=by unfold nodesStep;rw[if_neg (by omega)]
  rw[e];exact ih c h
def NodesRel (w:World) (d:Nat) (ks:List Tree) (most c0:Int) (c i:Value) (W:World):Prop:=
 ∃(W1:World) (k:Nat),W1=W∧k≤ks.length∧c=.int .i64 ((ks.take k).foldl (nodesStep d most) c0)∧i=.int .i64 k∧Below w.heap.size w W1
def BigPost (m:Int) (w:World) (e:Ending) (w':World):Prop:=e=.returned (.int .i64 m)∧Below w.heap.size w w'
theorem nodesOf_any:∀(d:Nat)(T:Tree)(v:Value)(B:Nat)(w:World)(most:Int),NodeAt w B d T v→B≤w.heap.size→0≤most→most≤9000 →
  Calls Tryz.prog 13 #[v,.int .i64 most] w (BigPost (nodesF d T most) w):=by
 intro d
 induction d with
 | zero =>
  intro T v B w most hT hB h0 h9
  obtain⟨hfit,s,rfl,hk,sp,cap,rfl⟩:=hT
  rw[nodesF_leaf _ _ _ hk]
  have hsz:=hfit.2.1
  unfold maxLen at hsz
  have HB:=Hd ((Below.refl _ w).alloc (Nat.le_refl _) (.cells #[.int .u8 T.kind,.string T.text,.int .i64 T.num,.int .i64 T.place,.slice sp 0 cap] 25))
  clear hfit
  go_enter Tryz.func13,Tryz.ntmps13
  go_wp2
  go_loop [5,6] (fun c i=>c=.int .i64 (1+(T.text.size:Int) / 8)∧i=.int .i64 0) (fun _ _=>0)
  case atStart=>exact⟨rfl,rfl⟩
  case round =>
   obtain⟨rfl,rfl⟩:=hrel
   go_wp2
   go_ret
   exact⟨rfl,HB.out⟩
 | succ d ih =>
  intro T v B w most hT hB h0 h9
  obtain⟨hfit,s,rfl,hk⟩:=hT
  have hsz:=hfit.2.1
  unfold maxLen at hsz
  clear hfit
  rcases hk with ⟨hk,sp,cap,rfl⟩|⟨b,off,cap,hne,hbB,hcap,hmax,rfl,hrow⟩
  ·rw[nodesF_leaf _ _ _ hk]
   have HB:=Hd ((Below.refl _ w).alloc (Nat.le_refl _) (.cells #[.int .u8 T.kind,.string T.text,.int .i64 T.num,.int .i64 T.place,.slice sp 0 cap] 25))
   go_enter Tryz.func13,Tryz.ntmps13
   go_wp2
   go_loop [5,6] (fun c i=>c=.int .i64 (1+(T.text.size:Int) / 8)∧i=.int .i64 0) (fun _ _=>0)
   case atStart=>exact⟨rfl,rfl⟩
   case round =>
    obtain⟨rfl,rfl⟩:=hrel
    go_wp2
    go_ret
    exact⟨rfl,HB.out⟩
  ·have HRow:=Hd hrow
   have HIH:=Hd ih
   obtain⟨c0,hc0⟩:∃c0:Int,1+(T.text.size:Int) / 8=c0:=⟨_,rfl⟩
   have hc1:1≤c0:=by omega
   have hc2:c0≤4611686018427387904:=by omega
   have e0:nodesF (d+1) T most=min (T.kids.foldl (nodesStep d most) c0) (most+1):=by
    show min (T.kids.foldl (nodesStep d most) (1+((T.text.size / 8:Nat):Int))) (most+1)=_
    rw[show (1+((T.text.size / 8:Nat):Int))=c0 by omega]
   rw[e0]
   have HC0:=Hd hc0
   obtain⟨ks,hks⟩:∃ks,T.kids=ks:=⟨_,rfl⟩
   rw[hks] at HRow hne hcap ⊢
   obtain⟨n,hn⟩:∃n,ks.length=n:=⟨_,rfl⟩
   rw[hn] at hcap ⊢
   have HN:=Hd hn
   unfold maxLen at hmax
   have HFold:=Hd (fun k=>(⟨nodesFold_ge d most (nodesF_pos d) (ks.take k) c0 hc1,nodesFold_le d most (ks.take k) c0⟩:1≤(ks.take k).foldl (nodesStep d most) c0∧(ks.take k).foldl (nodesStep d most) c0≤max c0 (most+1)))
   obtain⟨W0,hW0⟩:∃W0,W0=w.alloc (.cells #[.int .u8 T.kind,.string T.text,.int .i64 T.num,.int .i64 T.place,.slice (some ⟨b,off,none⟩) n cap] 25):=⟨_,rfl⟩
   have hb0:Below w.heap.size w W0:=by rw[hW0];exact (Below.refl _ w).alloc (Nat.le_refl _) _
   have hs0:w.heap.size<W0.heap.size:=by rw[hW0];simp
   have hbox:=box_new w T (.slice (some ⟨b,off,none⟩) n cap)
   rw[←hW0] at hbox
   have HBox:=Hd hbox
   have HB0:=Hd hb0
   clear hrow ih hks hn e0 hbox hb0 hc0
   go_enter Tryz.func13,Tryz.ntmps13
   go_wp2
   rw[←hW0]
   go_loopw [5,6] (NodesRel W0 d ks most c0) (fun _ i _=>n-(intOf i).toNat)
   case atStart=>exact⟨_,0,rfl,Nat.zero_le _,by rw[HC0.out];rfl,rfl,Below.refl _ _⟩
   case round =>
    obtain⟨W1,k,rfl,hk,rfl,rfl,hb⟩:=hrel
    rw[HN.out] at hk
    have hbw:=HB0.out.trans (hb.mono HB0.out.size)
    have hbx:=(hb.cell (p:=⟨w.heap.size,4,none⟩) hs0).trans HBox.out
    obtain⟨hv1,hv2⟩:=HFold.out k
    have hsplit:ks.foldl (nodesStep d most) c0=(ks.drop k).foldl (nodesStep d most) ((ks.take k).foldl (nodesStep d most) c0):=by
     rw[←List.foldl_append,List.take_append_drop]
    have HSp:=Hd hsplit
    have HTk:=Hd (fun t (ht:ks[k]? = some t)=>(show (ks.take (k+1)).foldl (nodesStep d most) c0=nodesStep d most ((ks.take k).foldl (nodesStep d most) c0) t by
     rw[List.take_add_one,ht,List.foldl_append];rfl))
    clear hsplit
    generalize (ks.take k).foldl (nodesStep d most) c0=cv at *
    have hcv:cv≤4611686018427387904:=by omega
    have HBw:=Hd hbw
    by_cases hlt:k<n
    ·have hk0:(0:Int)≤k:=by omega
     have hk1:(k:Int)<n:=by omega
     by_cases hle:cv≤most
     ·obtain⟨t,ht⟩:∃t,ks[k]? = some t:=⟨ks[k]'(by rw[HN.out];exact hlt),List.getElem?_eq_getElem (by rw[HN.out];exact hlt)⟩
      obtain⟨p,l,c,d0,d1,d2,d3,d4,hnode⟩:=row_kid (hbw.mono hB) hbB (HRow.out k t ht)
      have HCall:=Hd (HIH.out t _ B W1 (most-cv) hnode (Nat.le_trans hB hbw.size) (by omega) (by omega))
      have hnx:=HTk.out t ht
      unfold nodesStep at hnx
      rw[if_pos hle] at hnx
      have HNx:=Hd hnx
      have hr1:=nodesF_pos d t (most-cv) (by omega)
      have hr2:=nodesF_le d t (most-cv)
      have HBb:=Hd hb
      generalize nodesF d t (most-cv)=rv at *
      clear hnode ht hnx hbw hb
      go_wp2_with fail
      refine HCall.out.mono ?_
      rintro e W3 ⟨rfl,hb2⟩
      go_wp2_with fail
      refine⟨⟨_,k+1,rfl,by rw[HN.out];omega,?_,by go_num,HBb.out.trans (hb2.mono HBb.out.size)⟩,by simp[intOf];omega⟩
      have:=HNx.out
      unfold nodesStep
      rw[this]
     ·have HEnd:=Hd (HSp.out.trans (nodesFold_stop d most _ cv (by omega)))
      have hgt:most<cv:=by omega
      clear hb hbw hle
      go_wp2_with fail
      go_ret
      exact⟨by rw[HEnd.out];rfl,HBw.out⟩
    ·obtain rfl:k=n:=by omega
     have HEnd:Hid (ks.foldl (nodesStep d most) c0=cv):=by
      show _=_
      rw[HSp.out,List.drop_of_length_le (by rw[HN.out];exact Nat.le_refl _)]
      rfl
     clear hb hbw
     go_wp2_with fail
     go_ret
     exact⟨by rw[HEnd.out];rfl,HBw.out⟩
theorem nameFrom_onM (l:List UInt8):∀k,nameFrom (k+1) l=l.all isOn:=by
 induction l with
 | nil=>intro k;rfl
 | cons c r ih =>
  intro k
  show (nameAt (k+1) c&&nameFrom (k+2) r)=_
  rw[ih (k+1),List.all_cons]
  congr 1
  unfold nameAt isOn
  simp[Bool.or_assoc]
theorem namedF_cons (c:UInt8)(r:List UInt8):namedF (c::r)=(isLow c&&r.all isOn&&decide (r.length+1≤24)):=by
 unfold namedF
 show ((nameAt 0 c&&nameFrom 1 r)&&decide (1≤r.length+1)&&decide (r.length+1≤24))=_
 rw[nameFrom_onM r 0]
 have h:nameAt 0 c=isLow c:=by unfold nameAt;simp
 rw[h]
 simp
theorem namedF_size (l:List UInt8)(h:namedF l=true):1≤l.length∧l.length≤24:=by
 unfold namedF at h
 simp only[Bool.and_eq_true,decide_eq_true_eq] at h
 exact⟨h.1.2,h.2⟩
theorem low_on (c:UInt8)(h:isLow c=true):isOn c=true:=by unfold isOn;rw[h];rfl
def quoteT (t:ByteArray):ByteArray:=⟨(39::t.data.toList).toArray⟩
theorem quoteT_list (t:ByteArray):(quoteT t).data.toList=39::t.data.toList:=rfl
theorem quoteT_size (t:ByteArray):(quoteT t).size=t.size+1:=by
 show (39::t.data.toList).toArray.size=_
 simp
def oneTok (t:ByteArray):Bool:=(toksFrom (quoteT t) 0).2==none&&(toksFrom (quoteT t) 0).1.map (fun x=>x.2.1.data.toList)==[t.data.toList]
theorem scanTo_drop (p:UInt8→Bool)(s:ByteArray)(k:Nat)(l:List UInt8)(h:s.data.toList.drop k=l):scanTo p s k=k+(l.takeWhile p).length:=by unfold scanTo;rw[h]
theorem takeWhile_all_of_len (p:UInt8→Bool):∀l:List UInt8,(l.takeWhile p).length=l.length→l.all p=true:=by
 intro l
 induction l with
 | nil=>intro _;rfl
 | cons c r ih =>
  intro h
  rw[List.takeWhile_cons] at h
  split at h
  ·rename_i hc
   simp only[List.length_cons,Nat.add_right_cancel_iff] at h
   rw[List.all_cons,hc,ih h];rfl
  ·simp at h
theorem takeWhile_all' (p:UInt8→Bool)(l:List UInt8)(h:l.all p=true):l.takeWhile p=l:=by
 induction l with
 | nil=>rfl
 | cons c r ih =>
  rw[List.all_cons,Bool.and_eq_true] at h
  rw[List.takeWhile_cons,if_pos h.1,ih h.2]
theorem quote_token (t:ByteArray):tokenAt (quoteT t) 0 39=(5,(quoteT t).extract 1 (scanTo isOn (quoteT t) 1),if namedB ((quoteT t).extract 1 (scanTo isOn (quoteT t) 1)).data.toList then 0 else 201,scanTo isOn (quoteT t) 1):=by
 unfold tokenAt
 rw[if_neg (by decide),if_pos (by decide),if_pos (by decide)]
theorem quote_ext (t:ByteArray)(e:Nat):((quoteT t).extract 1 e).data.toList=t.data.toList.take (e-1):=by
 rw[ByteArray.data_extract,Array.toList_extract,quoteT_list]
 simp[List.extract]
theorem namedB_cons (c:UInt8)(r:List UInt8):namedB (c::r)=(decide (r.length+1≤24)&&isLow c):=rfl
theorem oneTok_named (t:ByteArray):oneTok t=namedF t.data.toList:=by
 have h0:0<(quoteT t).size:=by rw[quoteT_size];omega
 have hq:(quoteT t)[0]=39:=rfl
 have hs:skip (quoteT t) 0=0:=skip_stop _ 0 h0 (by rw[hq];rfl) (by rw[hq];rfl)
 have hd:(quoteT t).data.toList.drop 1=t.data.toList:=rfl
 have he:scanTo isOn (quoteT t) 1=1+(t.data.toList.takeWhile isOn).length:=scanTo_drop isOn _ 1 _ hd
 have hlen:(t.data.toList.takeWhile isOn).length≤t.data.toList.length:=(List.takeWhile_sublist isOn).length_le
 have hss:skip (quoteT t) 0<(quoteT t).size:=by rw[hs];exact h0
 have htok:tokenAt (quoteT t) (skip (quoteT t) 0) (quoteT t)[skip (quoteT t) 0]=tokenAt (quoteT t) 0 39:=by
  simp only[hs,hq]
 rw[Bool.eq_iff_iff]
 constructor
 ·intro h
  unfold oneTok at h
  rw[Bool.and_eq_true,beq_iff_eq,beq_iff_eq] at h
  obtain⟨h1,h2⟩:=h
  by_cases hb:(tokenAt (quoteT t) (skip (quoteT t) 0) (quoteT t)[skip (quoteT t) 0]).2.2.1=0
  ·rw[toksFrom_ok _ _ hss hb,htok,quote_token] at h2
   rw[htok,quote_token] at hb
   simp only[List.map_cons,List.cons.injEq] at h2
   have h3:=h2.1
   rw[quote_ext,he] at h3
   have h4:(t.data.toList.takeWhile isOn).length=t.data.toList.length:=by
    have:=congrArg List.length h3
    rw[List.length_take] at this
    omega
   have hall:=takeWhile_all_of_len isOn _ h4
   dsimp only at hb
   rw[quote_ext,he,h3] at hb
   have hn:namedB t.data.toList=true:=by
    cases hh:namedB t.data.toList with
    | true=>rfl
    | false=>rw[hh] at hb;cases hb
   cases hl:t.data.toList with
   | nil=>rw[hl] at hn;cases hn
   | cons c r =>
    rw[hl,namedB_cons,Bool.and_eq_true] at hn
    rw[hl,List.all_cons,Bool.and_eq_true] at hall
    rw[namedF_cons,hn.1,hn.2,hall.2];rfl
  ·rw[toksFrom_bad _ _ hss hb] at h1
   cases h1
 ·intro h
  cases hl:t.data.toList with
  | nil=>rw[hl] at h;cases h
  | cons c r =>
   rw[hl,namedF_cons,Bool.and_eq_true,Bool.and_eq_true] at h
   obtain⟨⟨h1,h2⟩,h3⟩:=h
   have hall:t.data.toList.all isOn=true:=by rw[hl,List.all_cons,h2,low_on c h1];rfl
   have htw:=takeWhile_all' isOn _ hall
   have hext:((quoteT t).extract 1 (scanTo isOn (quoteT t) 1)).data.toList=t.data.toList:=by
    rw[quote_ext,he,htw]
    exact List.take_of_length_le (by omega)
   have hnb:namedB t.data.toList=true:=by rw[hl,namedB_cons,h3,h1];rfl
   have hb:(tokenAt (quoteT t) (skip (quoteT t) 0) (quoteT t)[skip (quoteT t) 0]).2.2.1=0:=by
    rw[htok,quote_token]
    show (if namedB _ then 0 else 201)=0
    rw[hext,hnb];rfl
   have hend:toksFrom (quoteT t) (scanTo isOn (quoteT t) 1)=([],none):=by
    apply toksFrom_end
    have hz:(quoteT t).size≤scanTo isOn (quoteT t) 1:=by
     rw[he,htw,quoteT_size,Array.length_toList]
     show t.data.size+1≤1+t.data.size
     omega
    rw[skip_end _ _ hz]
    omega
   have hsh:toksFrom (quoteT t) 0=([(5,(quoteT t).extract 1 (scanTo isOn (quoteT t) 1),0)],none):=by
    rw[toksFrom_ok _ _ hss hb,htok,quote_token]
    dsimp only
    rw[hend,hs]
   unfold oneTok
   rw[hsh]
   show ((none:Option (Nat×Nat))==none&&[((quoteT t).extract 1 (scanTo isOn (quoteT t) 1)).data.toList]==[t.data.toList])=true
   rw[hext]
   simp
theorem named_short (t:ByteArray)(h:16384≤t.size):namedF t.data.toList=false:=by
 cases hh:namedF t.data.toList with
 | false=>rfl
 | true =>
  have:=(namedF_size _ hh).2
  rw[Array.length_toList] at this
  have h2:t.size=t.data.size:=rfl
  omega
def Slim:Nat→Tree→Prop
 | 0,T=>T.text.size≤72007
 | d+1,T=>T.text.size≤72007∧T.kids.length≤20000∧∀k∈T.kids,Slim d k
def SlimK:Nat→List Tree→Prop
 | 0,_=>True
 | d+1,ks=>ks.length≤20000∧∀k∈ks,Slim d k
theorem Slim.kids {d:Nat}{T:Tree}(h:Slim d T):SlimK d T.kids:=by
 cases d with
 | zero=>trivial
 | succ d=>exact h.2
theorem Slim.text {d:Nat}{T:Tree}(h:Slim d T):T.text.size≤72007:=by
 cases d with
 | zero=>exact h
 | succ d=>exact h.1
theorem slim_of:∀(d:Nat)(T:Tree)(most:Int),most≤9000→nodesF d T most≤most→(manyF d T:Int)≤nodesF d T most∧Slim d T:=by
 intro d
 induction d with
 | zero =>
  intro T most hm h
  have h1:nodesF 0 T most=min (1+((T.text.size / 8:Nat):Int)) (most+1):=rfl
  have h2:manyF 0 T=1:=rfl
  refine⟨by omega,?_⟩
  show T.text.size≤72007
  omega
 | succ d ih =>
  intro T most hm h
  have h1:nodesF (d+1) T most=min (T.kids.foldl (nodesStep d most) (1+((T.text.size / 8:Nat):Int))) (most+1):=rfl
  have h2:manyF (d+1) T=(T.kids.map (manyF d)).foldl (· + ·) 1:=rfl
  have hf:∀(l:List Tree) (c:Int),1≤c→l.foldl (nodesStep d most) c≤most→c≤l.foldl (nodesStep d most) c∧((l.map (manyF d)).foldl (· + ·) 0:Nat)+c≤l.foldl (nodesStep d most) c∧∀k∈l,Slim d k:=by
   intro l
   induction l with
   | nil=>intro c _ hc;exact⟨Int.le_refl _,by simp,fun k hk=>by cases hk⟩
   | cons x l ihl =>
    intro c h1c hc
    rw[List.foldl_cons] at hc ⊢
    have hst:1≤nodesStep d most c x:=by
     unfold nodesStep
     split
     ·have:=nodesF_pos d x (most-c) (by omega);omega
     ·exact h1c
    obtain⟨a1,a2,a3⟩:=ihl _ hst hc
    have hc2:c≤most:=by
     by_cases hcm:c≤most
     ·exact hcm
     ·exfalso
      have e:nodesStep d most c x=c:=by unfold nodesStep;rw[if_neg hcm]
      rw[e] at a1
      omega
    have e:nodesStep d most c x=c+nodesF d x (most-c):=by unfold nodesStep;rw[if_pos hc2]
    rw[e] at a1 a2 hc ⊢
    have hp:=nodesF_pos d x (most-c) (by omega)
    obtain⟨b1,b2⟩:=ih x (most-c) (by omega) (by omega)
    rw[List.map_cons,List.foldl_cons,foldl_add,Nat.zero_add]
    refine⟨by omega,by omega,fun k hk=>?_⟩
    rcases List.mem_cons.1 hk with rfl|hk
    ·exact b2
    ·exact a3 k hk
  have hle:T.kids.foldl (nodesStep d most) (1+((T.text.size / 8:Nat):Int))≤most:=by omega
  obtain⟨a1,a2,a3⟩:=hf _ _ (by omega) hle
  rw[foldl_add] at h2
  have hk:=kids_len d T
  have hm1:manyF (d+1) T≤9000:=by omega
  exact⟨by omega,by omega,by omega,a3⟩
def BoolPost (x:Bool) (w:World) (e:Ending) (w':World):Prop:=e=.returned (.bool x)∧Below w.heap.size w w'
theorem below_two (w:World)(a b:Obj):Below w.heap.size w ((w.alloc a).alloc b):=((Below.refl _ w).alloc (Nat.le_refl _) _).alloc (by simp) _
end Go.Proofs.YtglbjooofdnbkaaGreatDoor
