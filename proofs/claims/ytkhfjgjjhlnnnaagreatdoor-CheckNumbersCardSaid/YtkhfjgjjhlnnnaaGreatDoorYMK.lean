/- Parts of one proof, joined; conditions stand in each theorem. -/
import Derived.Test.YtkhfjgjjhlnnnaaGreatDoorYMJ
open Go renaming World→wD,Calls→xL,Value→wF,wpQuiet_nil→Bk
open Option renaming some→Y
open Go.Obj renaming cells→wq
open Go.Value renaming string→J,slice→A,bool→AJ,int→I,agg→xS
open Go.Proofs.Tryz renaming prog→xD
open Go.Ending renaming returned→z8
open Go.IntKind renaming i64→Z,u8→O
open Bool renaming false→xj,true→wP
open Decidable renaming decide→xv
namespace Go.Proofs.YtkhfjgjjhlnnnaaGreatDoor
set_option maxHeartbeats 2000000
set_option maxRecDepth 100000
open Go.RowKit
theorem qz(L:List ByteArray)(n B c:Nat)(ty:TypeId)(x:ByteArray)(w:wD)(m:L.length=n)(p:n≤100)(h:w.heap[B]?=Y (wq (L.map J).toArray ty (0,0))) :
  xL xD 217 #[J x,A (Y ⟨B,0,none⟩) n c] w fun e w'=>e=z8 (AJ (cg L x.data.toList))∧w=w':=by
 have q:∀y,cg L x.data.toList=y→∀(e:Ending) (w':wD),e=z8 (AJ y)→w=w'→(e=z8 (AJ (cg L x.data.toList))∧w=w'):=by intro y u e w' he v;rw[u];exact⟨he,v⟩
 obtain⟨r,z,f⟩:=zz3 q h m;clear q h m
 go_enter Tryz.func217,Tryz.ntmps217
 go_wp2_with fail
 go_loop [5] (fun i=>∃k:Nat,k≤n∧i=I Z k∧(L.take k).any (fun b=>b.data.toList==x.data.toList)=xj) (fun i=>n-(intOf i).toNat)
 case atStart=>exact⟨0,Fa _,V,V⟩
 case round =>
  obtain⟨k,D,rfl,a⟩:=hrel;have s:=Hd a;clear a
  by_cases d:k<n
  ·obtain⟨g,j⟩:∃g,L[k]?=Y g:=⟨L[k]'(by rw[f.o];exact d),ES (by rw[f.o];exact d)⟩;have C:w.cell? ⟨B,k,none⟩=Y (J g):=by rw[FI _ _ _ _ _ _ z.o];simp[j]
   have t:=Hd j;clear j
   cases he:g.toList==x.toList
   ·have l:=Hd he;go_wp2_with fail
    go_round
    case rel=>exact⟨k+1,by omega,by go_num,by rw[mL _ _ _ _ t.o s.o];simpa [ByteArray.toList_eq]using l.o⟩
    case measure=>simp[intOf];omega
   ·have l:=Hd he;go_wp2_with fail
    go_ret;refine r.o wP ?_ _ _ V V;unfold cg;exact qH (fun b=>b.data.toList==x.data.toList) _ k g t.o (by simpa [ByteArray.toList_eq]using l.o)
  ·obtain rfl:k=n:=by omega
   go_wp2_with fail
   go_ret;refine r.o xj ?_ _ _ V V;unfold cg;have:=s.o
   rwa [Fg (by rw[f.o];exact EO _)]at this
theorem BU(x:ByteArray)(w:wD) :
  xL xD 149 #[J x] w (am (cg jf x.data.toList) w):=by
 have a:=Hd (qz jf 11 w.heap.size 11 9 x _ V (by omega) (p9 w (wq (jf.map J).toArray 9)))
 go_enter Tryz.func149,Tryz.ntmps149
 go_wp2_with fail
 refine EX a.o ?_;rintro e w1 ⟨rfl,rfl⟩;go_wp2_with fail
 go_ret;exact⟨V,(EP _ w).alloc (EO _) _⟩
theorem jl(x:ByteArray)(w:wD)(c:x.size≤72007) :
  xL xD 144 #[J x] w (am (aN x.data.toList&&!de x.data.toList) w):=by
 obtain⟨b,a⟩:=zz2 (mE x w (by omega)) (qz eY 11 w.heap.size 11 9 x _ V (by omega) (p9 w (wq (eY.map J).toArray 9)));have hw:cg eY x.data.toList=de x.data.toList:=rfl;rw[hw]at a;clear hw;generalize aN x.data.toList=nf at *;generalize de x.data.toList=wf at *
 go_enter Tryz.func144,Tryz.ntmps144
 go_wp2_with fail
 refine EX b.o ?_;rintro e w1 ⟨rfl,rfl⟩
 cases nf
 ·go_wp2_with fail
  go_ret;exact⟨V,EP _ _⟩
 ·go_wp2_with (first|(go_at_call 218;refine (xM _).mono ?_;rintro e w1 ⟨rfl,rfl⟩))
  refine EX a.o ?_;rintro e w1 ⟨rfl,rfl⟩;go_wp2_with fail
  go_ret;exact⟨V,(EP _ w).alloc (EO _) _⟩
theorem AO(k:Nat)(w:wD) :
  xL xD 219 #[I O k] w fun e w'=>e=z8 (AJ ([5,6,7].contains k))∧w=w':=by
 have a:Hid ([5,6,7].contains k=(k==5||(k==6||k==7))):=by
  show _=_
  simp only[List.contains_cons,List.contains_nil,Bool.or_false]
 generalize [5,6,7].contains k=x at *
 go_enter Tryz.func219,Tryz.ntmps219
 cases b:((k:Int)==5)
 ·cases c:((k:Int)==6)
  ·cases d:((k:Int)==7)
   ·have H:Hid (x=xj):=by
     show x=xj
     rw[a.o];simp at b c d ⊢;omega
    go_wp2_with fail
    go_ret;exact⟨ah H.o.symm,V⟩
   ·have H:Hid (x=wP):=by
     show x=wP
     rw[a.o];simp at b c d ⊢;omega
    go_wp2_with fail
    go_ret;exact⟨ah H.o.symm,V⟩
  ·have H:Hid (x=wP):=by
    show x=wP
    rw[a.o];simp at b c ⊢;omega
   go_wp2_with fail
   go_ret;exact⟨ah H.o.symm,V⟩
 ·have H:Hid (x=wP):=by
   show x=wP
   rw[a.o];simp at b ⊢;omega
  go_wp2_with fail
  go_ret;exact⟨ah H.o.symm,V⟩
theorem tM(x:ByteArray)(h:dN x.data.toList=wP):∃r,x.data.toList=45::r∧strip x.data.toList=r:=by
 cases a:x.data.toList with
 | nil=>rw[a]at h;cases h
 | cons c r =>
  by_cases b:c=45
  ·subst b;exact⟨r,V,V⟩
  ·rw[a,rD c r b]at h;cases h
theorem yf(x:ByteArray)(h:dN x.data.toList=xj):strip x.data.toList=x.data.toList:=by
 cases b:x.data.toList with
 | nil=>rfl
 | cons c r =>
  by_cases a:c=45
  ·subst a;rw[b]at h;cases h
  ·exact vh c r a
theorem zn(x:ByteArray)(h:0<x.size):dN x.data.toList=xv (x[0].toNat=45):=by
 have e:x.data.toList=x[0]::x.data.toList.drop 1:=by
  have:=drop_cons x 0 h
  simpa using this
 rw[e]
 by_cases a:x[0]=45
 ·rw[a];rfl
 ·rw[rD _ _ a]
  symm
  rw[decide_eq_false_iff_not];intro b;exact a (UInt8.toNat_inj.1 b)
theorem uj(x:ByteArray)(w:wD)(l:x.size≤72007) :
  xL xD 148 #[J x] w fun e w'=>e=z8 (AJ (number (strip x.data.toList)).isSome)∧w=w':=by
 rcases Nat.eq_zero_or_pos x.size with f|f
 ·have h:x.data.toList=[]:=Fp (by rw[Fq];exact f);have he:x.toList.isEmpty=true:=by rw[Fb,h];rfl
  have c:=Hd (jW x w (by omega));have b:strip x.data.toList=x.data.toList:=by rw[h];rfl
  rw[b];clear f h b
  go_enter Tryz.func148,Tryz.ntmps148
  go_wp2_with fail
  refine EX c.o ?_;rintro e w1 ⟨rfl,rfl⟩;go_wp2_with fail
  go_ret;exact⟨V,V⟩
 ·have he:x.toList.isEmpty=false:=fq x f;have d:=zn x f
  cases a:xv (x[0].toNat=45)
  ·rw[a]at d;rw[yf x d];have c:=Hd (jW x w (by omega));have i:((x[0].toNat:Int)==45)=false:=by simp at a ⊢;omega
   clear d a
   go_enter Tryz.func148,Tryz.ntmps148
   go_wp2_with fail
   refine EX c.o ?_;rintro e w1 ⟨rfl,rfl⟩;go_wp2_with fail
   go_ret;exact⟨V,V⟩
  ·rw[a]at d;obtain⟨r,j,b⟩:=tM x d;rw[b];have g:(x.extract 1 x.size).data.toList=r:=by
    rw[ByteArray.data_extract,Array.toList_extract,j];have k:x.size=r.length+1:=by
     have:x.data.toList.length=x.size:=by simp
     rw[j]at this
     simpa using this.symm
    simp[List.extract,k]
   have c:=Hd (jW (x.extract 1 x.size) w (by rw[ByteArray.size_extract];omega));rw[g]at c;have i:((x[0].toNat:Int)==45)=true:=by simp at a ⊢;omega
   have m:(1:Int)≤x.size:=by omega
   clear d a g j b
   go_enter Tryz.func148,Tryz.ntmps148
   go_wp2_with fail
   refine EX c.o ?_;rintro e w1 ⟨rfl,rfl⟩;go_wp2_with fail
   go_ret;exact⟨V,V⟩
def zA(d:Nat):Prop:=∀(T:ab) (v:wF) (B:Nat) (w:wD),dH w B d T v→B≤w.heap.size→gx d T→T.b≠1→xL xD 79 #[v] w (am (okF d T) w)
def qT(d:Nat) (S:List Nat) (t:ab):Bool:=S.contains t.b&&okF d t
def gC(d:Nat) (S:List Nat) (l:List ab):Bool:=l.all (qT d S)
def eF(d:Nat):Prop:=∀(a:List ab) (u:wF) (B:Nat) (w:wD) (S:List Nat) (c:wF) (fr b:Nat),ao w B d a u→B≤w.heap.size→gy w S c→1 ∉ S→fr≤b→b≤a.length→dA d a→
 xL xD 45 #[u,I Z fr,I Z b,c] w (am (gC (d-1) S ((a.take b).drop fr)) w)
def BK(w:wD) (d:Nat) (S:List Nat) (b:List ab) (fr c:Nat) (i:wF) (W:wD):Prop:=
 ∃(a:wD) (k:Nat),a=W∧fr≤k∧k≤c∧i=I Z k∧FK w a∧gC d S ((b.take k).drop fr)=wP
def BC(w:wD) (S:List Nat) (m x:Nat) (ok i:wF) (W:wD):Prop:=
 ∃(a:wD) (j:Nat),a=W∧j≤m∧ok=AJ ((S.take j).any (· == x))∧i=I Z j∧FK w a
theorem rM(a:List ab)(fr k:Nat)(t:ab)(h:a[k]?=Y t)(b:fr≤k):(a.take (k+1)).drop fr=(a.take k).drop fr++[t]:=by
 rw[Fz,h,List.drop_append];have c:k<a.length:=(Fe.1 h).1;have:fr-(a.take k).length=0:=by rw[List.length_take];omega
 rw[this];rfl
theorem CE(S:List Nat)(j x y:Nat)(h:S[j]?=Y y):(S.take (j+1)).any (· == x)=((S.take j).any (· == x)||(y==x)):=by
 rw[Fz,h,List.any_append];simp
theorem wR(d:Nat)(HN:Hid (∀d',d=d'+1→zA d')):eF d:=by
 intro C u B w S sv fr H hk hB hS aq bl bn T;have br:C.length≤20000:=by
  cases d with
  | zero=>rw[hk.1];exact Fa _
  | succ d=>exact T.1
 have s:∀t∈C,d=d-1+1→gx (d-1) t:=by
  cases d with
  | zero=>intro t K;rw[hk.1]at K;cases K
  | succ d=>intro t K _;exact T.2 t K
 obtain⟨p,c,rfl,_,L⟩:=hk.rows;obtain⟨q,cq,rfl,W,X⟩:=hS.b;obtain⟨n,hn⟩:=zzy (C.length);obtain⟨m,hm⟩:=zzy (S.length);rw[hn]at br bn ⊢;rw[hm]at W hS ⊢;obtain⟨M,HM,ar,HS,bt,bB⟩:=zz6 hn hm L hS s aq;have b2:(H:Int)≤n:=by omega
 have b3:(n:Int)≤20000:=by omega
 clear L X s T hk hS hn hm aq
 go_enter Tryz.func45,Tryz.ntmps45
 go_wp2_with fail
 go_loopw [9] (BK w (d-1) S C fr H) (fun i _=>H-(intOf i).toNat)
 case atStart=>exact⟨_,fr,V,EO _,bl,V,EP _ _,by rw[List.drop_eq_nil_of_le (by rw[List.length_take];omega)];rfl⟩
 case round =>
  obtain⟨W1,k,rfl,bR,b4,rfl,hb,N⟩:=hrel;obtain⟨b0,HA⟩:=zz2 hb N;have b5:(0:Int)≤k:=by omega
  clear N
  by_cases b6:k<H
  ·have b7:(k:Int)<H:=by omega
   have b8:(k:Int)<n:=by omega
   have P:k<n:=by omega
   obtain⟨t,K⟩:∃t,C[k]?=Y t:=⟨C[k]'(by rw[M.o];exact P),ES (by rw[M.o];exact P)⟩;obtain⟨hd,b,off,rfl,av,Q⟩:=ar.o k t K;obtain⟨HT,R,HD⟩:=zz3 K Q hd;clear Q K hd;go_wp2_with fail
   go_loopw [10,11] (BC W1 S m t.b) (fun _ i _=>m-(intOf i).toNat)
   case atStart=>exact⟨_,0,V,Fa _,V,V,EP _ _⟩
   case round =>
    obtain⟨W2,j,rfl,hj,rfl,rfl,D⟩:=hrel;have b9:(0:Int)≤j:=by omega
    have E:=Hd D;have a:=hb.trans (D.mono hb.size)
    by_cases a1:j<m
    ·have ca:(j:Int)<m:=by omega
     obtain⟨y,hy⟩:∃y,S[j]?=Y y:=⟨S[j]'(by rw[HM.o];exact a1),ES (by rw[HM.o];exact a1)⟩;obtain⟨_,_,e0,_,a6⟩:=(HS.o.z a).b;injection e0 with e1 e2 e3
     subst e1;obtain⟨bq,oq,rfl,ba⟩:=a6 j y hy;have g:=Hd (CE S j t.b y hy);obtain⟨p',l',c',d0,_,_,_,_,_⟩:=R.o.node (a.mono hB) av;have D0:=fun x:Wb W2=>x.b d0
     have CY:=fun x:Wb W2=>x.b ba
     clear hy a6 d0 ba D a e2 e3
     cases F:(S.take j).any (· == t.b)
     ·rw[F,Bool.false_or]at g;have bb:((t.b:Int)==(y:Int))=(y==t.b):=by rw[Fw];simp;omega
      have b1:=Hd bb;clear F bb;go_wp2_with fail
      refine au (by kernel_rfl) (by kernel_rfl) ?_
      repeat (go_big_quiet_step (fail))
      refine Bk ?_;intro W3 v;have l:=Hd (E.o.trans ((a7 v).mono E.o.size));clear v D0 CY;go_wp2_with fail
      exact⟨⟨W3,j+1,V,by omega,by rw[g.o,←b1.o],by go_num,l.o⟩,by simp[intOf];omega⟩
     ·rw[F,Bool.true_or]at g;clear F;go_wp2_with fail
      refine au (by kernel_rfl) (by kernel_rfl) ?_
      repeat (go_big_quiet_step (fail))
      refine Bk ?_;intro W3 v;have l:=Hd (E.o.trans ((a7 v).mono E.o.size));clear v D0 CY;go_wp2_with fail
      exact⟨⟨W3,j+1,V,by omega,by rw[g.o],by go_num,l.o⟩,by simp[intOf];omega⟩
    ·obtain rfl:j=m:=by omega
     have bc:S.take j=S:=Fg (by rw[HM.o];exact EO _);have G:(S.take j).any (· == t.b)=S.contains t.b:=by rw[bc,List.contains_eq_any_beq];congr 1;funext y;rw[Bool.beq_comm]
     obtain⟨p',l',c',d0,d1,d2,d3,d4,z⟩:=R.o.node (a.mono hB) av;obtain⟨ad,h⟩:=zz2 z a;clear bc z D a
     cases f:S.contains t.b
     ·have af:=Hd (G.trans f);have ak:Hid (gC (d-1) S ((C.take H).drop fr)=xj):=by
       show _=xj
       unfold gC;rw[List.all_eq_false];refine⟨t,?_,by unfold qT;rw[f];simp⟩;apply Fj (i:=k-fr);rw[List.getElem?_drop,List.getElem?_take,rv (by omega),show fr+(k-fr)=k by omega];exact HT.o
      clear G f;rw[af.o];go_wp2_with fail
      go_ret;exact⟨ah ak.o.symm,h.o⟩
     ·have af:=Hd (G.trans f);have h1:t.b≠1:=fun e=>bB.o (by rw[←e];simpa using f)
      have al:=Hd (HN.o (d-1) HD.o t _ B W2 ad.o (EU hB h.o.size) (bt.o t (Fj HT.o) HD.o) h1);have bd:Hid (qT (d-1) S t=okF (d-1) t):=by
       show _=_
       unfold qT;rw[f,Bool.true_and]
      clear G f h1;rw[af.o];generalize okF (d-1) t=r at *;go_wp2_with fail
      refine EX al.o ?_;rintro e W3 ⟨rfl,bk⟩;have l:=Hd (h.o.trans (bk.mono h.o.size));clear bk d0 d1 d2 d3 d4
      cases r
      ·have ak:Hid (gC (d-1) S ((C.take H).drop fr)=xj):=by
        show _=xj
        unfold gC;rw[List.all_eq_false];refine⟨t,?_,by rw[bd.o];simp⟩;apply Fj (i:=k-fr);rw[List.getElem?_drop,List.getElem?_take,rv (by omega),show fr+(k-fr)=k by omega];exact HT.o
       go_wp2_with fail
       go_ret;exact⟨ah ak.o.symm,l.o⟩
      ·go_wp2_with fail
       refine⟨⟨W3,k+1,V,by omega,by omega,by go_num,l.o,?_⟩,by simp[intOf];omega⟩;unfold gC;rw[rM C fr k t HT.o bR,List.all_append];have:=HA.o;unfold gC at this;rw[this];simp[bd.o]
  ·obtain rfl:k=H:=by omega
   clear hb;go_wp2_with fail
   go_ret;exact⟨ah HA.o.symm,b0.o⟩
theorem EL(x y z:Bool):(x&&(y&&z))=(y&&(x&&z)):=by cases x<;>cases y<;>rfl
theorem iP(d:Nat)(S:List Nat)(l:List ab):gC d S l=(bG S l&&l.all (okF d)):=by
 unfold gC bG qT
 induction l with
 | nil=>rfl
 | cons x l a =>
  rw[List.all_cons,List.all_cons,List.all_cons,a]
  cases S.contains x.b<;>cases okF d x<;>simp
theorem jR(d:Nat)(h:eF d)(S:List Nat)(l:S.length≤100)(n:1 ∉ S)(arr:Array wF)(o:arr=(S.map fun k:Nat=>I O (k:Int)).toArray)(m:Nat)(hm:S.length=m)(a:List ab)(u:wF)(B:Nat)(W:wD)(fr b:Nat)
  (p:ao W B d a u) (hB:B≤W.heap.size) (f:fr≤b) (g:b≤a.length) (i:dA d a) :
  xL xD 45 #[u,I Z fr,I Z b,A (Y ⟨W.heap.size,0,none⟩) m m] (W.alloc (wq arr 22)) (am (gC (d-1) S ((a.take b).drop fr)) W):=by
 have c:FK W (W.alloc (wq arr 22)):=(EP _ W).alloc (EO _) _;refine (h a u B _ S _ fr b (p.z (c.mono hB)) (EU hB c.size) (sN W S l arr o m hm) n f g i).mono ?_;rintro e W' ⟨he,j⟩;exact⟨he,c.trans (j.mono c.size)⟩
def ef(d:Nat):Prop:=∀(a:List ab) (u:wF) (B:Nat) (w:wD),ao w B d a u→B≤w.heap.size→dA d a→xL xD 146 #[u] w (am (cI a&&a.all (okF (d-1))) w)
def eV(d:Nat):Prop:=∀(a:List ab) (u:wF) (B:Nat) (w:wD),ao w B d a u→B≤w.heap.size→dA d a→xL xD 145 #[u] w (am (rowB a&&a.all (okF (d-1))) w)
theorem dA.nine{d:Nat}{a:List ab}{w:wD}{B:Nat}{u:wF}(h:dA d a)(b:ao w B d a u):a.length≤20000:=by
 cases d with
 | zero=>rw[b.1];exact Fa _
 | succ d=>exact h.1
theorem di(d:Nat)(h:eF d):ef d:=by
 intro l u B w C hB z;have P:=z.nine C;have q:=C;obtain⟨p,c,rfl,_,s⟩:=C.rows;obtain⟨n,r⟩:=zzy (l.length);rw[r]at P q ⊢;obtain⟨f,D,HK⟩:=zz3 r s q;have E:=Hd (fun W (hW:FK w W)=>jR d h [13,14,15,16] (by decide) (by decide) #[I O 13,I O 14,I O 15,I O 16] V 4 V l _ B W 0 n (q.z (hW.mono hB)) (EU hB hW.size) (Fa _) (by rw[r];exact EO _) z);clear s C r z q h
 go_enter Tryz.func146,Tryz.ntmps146
 go_wp2_with fail
 go_loopw [3] (ui w (fun t=>!hZ t) l n) (fun i _=>n-(intOf i).toNat)
 case atStart=>exact⟨_,0,V,Fa _,V,EP _ _,V⟩
 case round =>
  obtain⟨W1,k,rfl,C,rfl,F,v⟩:=hrel;obtain⟨M,g⟩:=zz2 v F;clear v
  by_cases G:k<n
  ·obtain⟨t,Q⟩:∃t,l[k]?=Y t:=⟨l[k]'(by rw[f.o];exact G),ES (by rw[f.o];exact G)⟩;obtain⟨-,b,off,rfl,R,x⟩:=D.o k t Q;obtain⟨p',l',c',d0,d1,d2,d3,d4,m⟩:=x.node (F.mono hB) R;have S:=m.1.2.1;unfold maxLen at S;have N:=Hd Q;have ak:(0:Int)≤k:=by omega
   have al:(k:Int)<n:=by omega
   clear x Q m F
   cases H:((t.b:Int)==14)
   ·have a:=Hd (show (!hZ t)=wP by unfold hZ;rw[show (t.b==14)=xj by simp at H ⊢;omega];rfl);go_wp2_with fail
    exact⟨⟨_,k+1,V,by omega,by go_num,g.o,jd _ l k t N.o M.o a.o⟩,by simp[intOf];omega⟩
   ·have y:(t.b==14)=true:=by simp at H ⊢;omega
    have T:Hid (hZ t=dN t.f.data.toList):=by
     show hZ t=_
     unfold hZ;rw[y];rfl
    clear y;rcases Nat.eq_zero_or_pos t.f.size with K|K
    ·have X:t.f.data.toList=[]:=Fp (by rw[Fq];exact K);have he:t.f.toList.isEmpty=true:=by rw[Fb,X];rfl
     have a:=Hd (show (!hZ t)=wP by rw[T.o,X];rfl);clear X K;go_wp2_with fail
     exact⟨⟨_,k+1,V,by omega,by go_num,g.o,jd _ l k t N.o M.o a.o⟩,by simp[intOf];omega⟩
    ·have he:t.f.toList.isEmpty=false:=fq t.f K;have r:=zn t.f K;have aq:(0:Int)<t.f.size:=by omega
     cases j:xv (t.f[0].toNat=45)
     ·have ad:((t.f[0].toNat:Int)==45)=false:=by simp at j ⊢;omega
      have a:=Hd (show (!hZ t)=wP by rw[T.o,r,j];rfl);clear r j;go_wp2_with fail
      exact⟨⟨_,k+1,V,by omega,by go_num,g.o,jd _ l k t N.o M.o a.o⟩,by simp[intOf];omega⟩
     ·have ad:((t.f[0].toNat:Int)==45)=true:=by simp at j ⊢;omega
      have a:=Hd (show (!hZ t)=xj by rw[T.o,r,j];rfl);clear r j;go_wp2_with fail
      go_ret;refine⟨ah ?_,g.o⟩;rw[lm,xn _ l k t N.o a.o];rfl
  ·obtain rfl:k=n:=by omega
   have HC:=Hd (E.o W1 F);clear F;go_wp2_with fail
   refine EX HC.o ?_;rintro e W2 ⟨rfl,L⟩;have af:=Hd (g.o.trans (L.mono g.o.size));clear L;go_wp2_with fail
   go_ret;refine⟨ah ?_,af.o⟩;have h1:=M.o;rw[Fg (by rw[f.o];exact EO _)]at h1;have e:l.take k=l:=Fg (by rw[f.o];exact EO _)
   show gC (d-1) [13,14,15,16] (l.take k)=_
   rw[lm,h1,e,iP,Bool.true_and]
theorem dM(d:Nat)(h:eF d):eV d:=by
 intro f u B w q hB C;have ad:=C.nine q;have r:=q;obtain⟨p,c,rfl,_,D⟩:=q.rows;obtain⟨n,M⟩:=zzy (f.length);rw[M]at ad r ⊢;obtain⟨l,N,HK⟩:=zz3 M D r;have P:=Hd (fun W (Q:FK w W) (k:Nat) (q:k≤n)=>jR d h [5,6,7] (by decide) (by decide) #[I O 5,I O 6,I O 7] V 3 V f _ B W 0 k (r.z (Q.mono hB)) (EU hB Q.size) (Fa _) (by rw[M];exact q) C);have G:=Hd (fun W (Q:FK w W) (k:Nat) (q:k≤n)=>jR d h [8,9,10,11] (by decide) (by decide) #[I O 8,I O 9,I O 10,I O 11] V 4 V f _ B W k n (r.z (Q.mono hB)) (EU hB Q.size) q (by rw[M];exact EO _) C);clear D q M C r h
 go_enter Tryz.func145,Tryz.ntmps145
 go_wp2_with fail
 go_loopw [3] (ui w aO f n) (fun i _=>n-(intOf i).toNat)
 case atStart=>exact⟨_,0,V,Fa _,V,EP _ _,V⟩
 case round =>
  obtain⟨W1,k,rfl,q,rfl,H,m⟩:=hrel;obtain⟨HA,g⟩:=zz2 m H;have aq:(0:Int)≤k:=by omega
  have R:=Hd (P.o W1 H k q);have E:Hid ((f.drop k).head?.all (fun x=>!aO x)=wP→(gC (d-1) [5,6,7] ((f.take k).drop 0)&&gC (d-1) [8,9,10,11] ((f.take n).drop k))=(rowB f&&f.all (okF (d-1)))):=by
   show _→_
   intro hh;unfold rowB;rw[kQ aO f k m hh,iP,iP,Fh,Fg (i:=n) (by rw[l.o];exact EO _)];have e1:bG [5,6,7] (f.take k)=true:=by unfold bG;exact m
   have e2:f.all (okF (d-1))=((f.take k).all (okF (d-1))&&(f.drop k).all (okF (d-1))):=by
    conv=>lhs;rw[←List.take_append_drop k f]
    rw[List.all_append]
   rw[e1,e2,Bool.true_and];exact EL _ _ _
  have S:=Hd (fun W2 (af:FK W1 W2)=>G.o W2 (H.trans (af.mono H.size)) k q);clear m;generalize gC (d-1) [5,6,7] ((f.take k).drop 0)=r1 at *;generalize gC (d-1) [8,9,10,11] ((f.take n).drop k)=r2 at *
  by_cases T:k<n
  ·obtain⟨t,ht⟩:∃t,f[k]?=Y t:=⟨f[k]'(by rw[l.o];exact T),ES (by rw[l.o];exact T)⟩;obtain⟨-,b,off,rfl,ak,F⟩:=N.o k t ht;obtain⟨p',l',c',d0,d1,d2,d3,d4,K⟩:=F.node (H.mono hB) ak;have hh:(f.drop k).head?.all (fun x=>!aO x) = !aO t:=by rw[List.head?_drop,ht];rfl
   obtain⟨HT,HH⟩:=zz2 ht hh;have ar:(k:Int)<n:=by omega
   have s:=Hd (fun W=>AO t.b W);have X:[5,6,7].contains t.b=aO t:=rfl;rw[X]at s;clear F ht K hh H X
   cases v:aO t
   ·rw[v]at s HH;have a:=Hd (E.o HH.o);clear v;go_wp2_with fail
    refine EX (s.o _) ?_;rintro e W2 ⟨rfl,rfl⟩;go_wp2_with fail
    refine EX R.o ?_;rintro e W2 ⟨rfl,y⟩;have j:=Hd y;clear y d0 d1 d2 d3 d4
    cases r1
    ·go_wp2_with fail
     go_ret;exact⟨ah (by rw[←a.o];rfl),g.o.trans (j.o.mono g.o.size)⟩
    ·go_wp2_with fail
     refine EX (S.o _ j.o) ?_;rintro e W3 ⟨rfl,z⟩;have L:=Hd (j.o.trans (z.mono j.o.size));clear z;go_wp2_with fail
     go_ret;exact⟨ah (by rw[←a.o];rfl),g.o.trans (L.o.mono g.o.size)⟩
   ·rw[v]at s;have al:=Hd v;clear v;go_wp2_with fail
    refine EX (s.o _) ?_;rintro e W2 ⟨rfl,rfl⟩;go_wp2_with fail
    exact⟨⟨_,k+1,V,by omega,by go_num,g.o,jd aO f k t HT.o HA.o al.o⟩,by simp[intOf];omega⟩
  ·obtain rfl:k=n:=by omega
   have a:=Hd (E.o (by rw[List.drop_eq_nil_of_le (by rw[l.o];exact EO _)];rfl));clear H;go_wp2_with fail
   refine EX R.o ?_;rintro e W2 ⟨rfl,y⟩;have j:=Hd y;clear y
   cases r1
   ·go_wp2_with fail
    go_ret;exact⟨ah (by rw[←a.o];rfl),g.o.trans (j.o.mono g.o.size)⟩
   ·go_wp2_with fail
    refine EX (S.o _ j.o) ?_;rintro e W3 ⟨rfl,z⟩;have L:=Hd (j.o.trans (z.mono j.o.size));clear z;go_wp2_with fail
    go_ret;exact⟨ah (by rw[←a.o];rfl),g.o.trans (L.o.mono g.o.size)⟩
def okK(k:Nat) (t:ByteArray) (nm pl:Int) (a:List ab) (d:Nat):Bool:=cJ k t.data.toList a.length&&bL k nm&&xv (0≤pl)&&bv k a&&a.all (okF (d-1))
theorem fx(k:Nat)(t:ByteArray)(nm pl:Int)(a:List ab)(d:Nat)(h:(bL k nm&&xv (0≤pl))=xj):okK k t nm pl a d=false:=by
 unfold okK;rw[Bool.and_assoc (cJ _ _ _),h];simp
theorem eD(k:Nat)(t:ByteArray)(nm pl:Int)(a:List ab)(d:Nat)(b:bL k nm=wP)(c:xv (0≤pl)=wP):okK k t nm pl a d=(cJ k t.data.toList a.length&&(bv k a&&a.all (okF (d-1)))):=by
 unfold okK;rw[b,c,Bool.and_true,Bool.and_true,Bool.and_assoc]
theorem fR(d:Nat)(a:List ab)(n:Nat)(b:a.length=n):(a.isEmpty&&a.all (okF d))=(n==0):=by
 subst b
 cases a with
 | nil=>rfl
 | cons x l=>rfl
theorem oI(d:Nat)(S:List Nat)(a:List ab)(n:Nat)(b:a.length=n):gC d S ((a.take n).drop 0)=(bG S a&&a.all (okF d)):=by rw[Fg (by omega),Fh,iP]
theorem gQ(t:ByteArray):t.data.toList.isEmpty=t.toList.isEmpty:=by rw[Fb]
theorem dK(n k:Nat):(n==k)=((n:Int)==(k:Int)):=by rw[Fw];simp;omega
theorem AG(t:ByteArray):cg kX t.data.toList=((t.toList==[45])||(t.toList==[110,111,116])):=by
 unfold cg kX;simp only[List.any_cons,List.any_nil,Bool.or_false,Fb]
 congr 1<;>(rw[Bool.beq_comm])
theorem Eo(n:Nat):xv (0<n)=xv ((1:Int)≤n):=by rw[Fw];simp;omega
theorem cN(k:Nat)(t:ByteArray)(nm pl:Int)(p:Option Addr)(n c:Nat)(w:wD)(b:pl<0)(P:Bool)(d:P=xj) :
  xL xD 79 #[xS #[I O k,J t,I Z nm,I Z pl,A p n c]] w (am P w):=by
 subst d;have a:FK w (w.alloc (wq #[I O k,J t,I Z nm,I Z pl,A p n c] 25)):=(EP _ w).alloc (EO _) _;obtain⟨f,g,h,i,j⟩:=cells5 (p9 w (wq #[I O k,J t,I Z nm,I Z pl,A p n c] 25));have e:=Hd a;clear a
 go_enter Tryz.func79,Tryz.ntmps79
 go_wp2_with fail
 go_ret;exact⟨V,e.o⟩
theorem dB(k:Nat)(t:ByteArray)(nm pl:Int)(p:Option Addr)(n c:Nat)(w:wD)(d:0≤pl)(b:(nm==0)=xj)(e:k≠4)(f:k≠9)(P:Bool)(g:P=xj) :
  xL xD 79 #[xS #[I O k,J t,I Z nm,I Z pl,A p n c]] w (am P w):=by
 subst g;have a:FK w (w.alloc (wq #[I O k,J t,I Z nm,I Z pl,A p n c] 25)):=(EP _ w).alloc (EO _) _;obtain⟨j,l,m,q,r⟩:=cells5 (p9 w (wq #[I O k,J t,I Z nm,I Z pl,A p n c] 25));have h:=Hd a;have i:(nm != 0)=true:=by show (!(nm==0))=wP;rw[b];rfl
 have s:((k:Int) != 4)=true:=by simp;omega
 have u:((k:Int) != 9)=true:=by simp;omega
 clear a e f
 go_enter Tryz.func79,Tryz.ntmps79
 go_wp2_with fail
 go_ret;exact⟨V,h.o⟩
theorem Dj(d:Nat)(_HA:Hid (eF d))(_HE:Hid (ef d))(_HR:Hid (eV d))(t:ByteArray)(nm pl:Int)(p:Option Addr)(n c:Nat)(a:List ab)(B:Nat)(w:wD)(_hk:ao w B d a (A p n c))(_hB:B≤w.heap.size)(_hsl:dA d a)(l:t.size≤72007)(v:a.length=n) :
  xL xD 79 #[xS #[I O 3,J t,I Z nm,I Z pl,A p n c]] w (am (okK 3 t nm pl a d) w):=by
 have m:FK w (w.alloc (wq #[I O 3,J t,I Z nm,I Z pl,A p n c] 25)):=(EP _ w).alloc (EO _) _;obtain⟨x,y,z,C,D⟩:=cells5 (p9 w (wq #[I O 3,J t,I Z nm,I Z pl,A p n c] 25));obtain⟨E,F,h,i,s,q⟩:=zz6 m (p9 w (wq #[I O 3,J t,I Z nm,I Z pl,A p n c] 25)) (eD 3 t nm pl a d) (fx 3 t nm pl a d) (fun W=>jl t W l) v;clear m _hk _hsl l v
 by_cases j:0≤pl
 ·have b:xv (0≤pl)=true:=by simpa using j
  have u:=Hd b;clear b
  cases f:(nm==0)
  ·exact dB 3 t nm pl p n c w j f (by omega) (by omega) _ (i.o (by rw[show bL 3 nm=(nm==0) from rfl,f];rfl))
  ·have g:=Hd (h.o (by rw[show bL 3 nm=(nm==0) from rfl,f]) u.o);have G:(nm != 0)=false:=by show (!(nm==0))=xj;rw[f];rfl
   clear h i
   go_enter Tryz.func79,Tryz.ntmps79
   rw[show cJ 3 t.data.toList a.length=(aN t.data.toList&&!de t.data.toList) from rfl]at g;rw[show bv 3 a=a.isEmpty from rfl,fR (d-1) a n q.o,dK]at g;generalize (aN t.data.toList&&!de t.data.toList)=nf at *;go_wp2_with fail
   refine EX (s.o _) ?_;rintro e w1 ⟨rfl,k⟩;have r:=Hd (E.o.trans (k.mono E.o.size));clear x y z C D;obtain⟨x,y,z,C,D⟩:=cells5 (aa k F.o (by simp));clear k
   cases nf
   ·go_wp2_with fail
    go_ret;exact⟨ah (by rw[g.o];rfl),r.o⟩
   ·go_wp2_with fail
    go_ret;exact⟨ah (by rw[g.o];rfl),r.o⟩
 ·have b:xv (0≤pl)=false:=by simpa using j
  exact cN 3 t nm pl p n c w (by omega) _ (i.o (by rw[b,Bool.and_false]))
