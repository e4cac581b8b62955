/- Parts of one proof, joined; conditions stand in each theorem. -/
import Derived.Test.YtkhfjgjjhlnnnaaGreatDoorMJ
open Go renaming World→vk,Calls→wB,Value→vn,wpQuiet_nil→z7
open Option renaming some→Y
open Go.Obj renaming cells→ur
open Go.Value renaming string→J,slice→A,bool→xS,int→I,agg→wD
open Go.Proofs.Tryz renaming prog→wq
open Go.Ending renaming returned→xv
open Go.IntKind renaming i64→Z,u8→O
open Bool renaming false→wj,true→wg
open Decidable renaming decide→wo
namespace Go.Proofs.YtkhfjgjjhlnnnaaGreatDoor
set_option maxHeartbeats 2000000
set_option maxRecDepth 100000
open Go.RowKit
theorem qt(L:List ByteArray)(n B c:Nat)(ty:TypeId)(x:ByteArray)(w:vk)(m:L.length=n)(p:n≤100)(h:w.heap[B]?=Y (ur (L.map J).toArray ty (0,0))) :
  wB wq 217 #[J x,A (Y ⟨B,0,none⟩) n c] w fun e w'=>e=xv (xS (cn L x.data.toList))∧w=w':=by
 have q:∀y,cn L x.data.toList=y→∀(e:Ending) (w':vk),e=xv (xS y)→w=w'→(e=xv (xS (cn L x.data.toList))∧w=w'):=by intro y u e w' he v;rw[u];exact⟨he,v⟩
 obtain⟨r,z,f⟩:=zz3 q h m;clear q h m
 go_enter Tryz.func217,Tryz.ntmps217
 go_wp2_with fail
 go_loop [5] (fun i=>∃k:Nat,k≤n∧i=I Z k∧(L.take k).any (fun b=>b.data.toList==x.data.toList)=wj) (fun i=>n-(intOf i).toNat)
 case atStart=>exact⟨0,FA _,V,V⟩
 case round =>
  obtain⟨k,D,rfl,a⟩:=hrel;have s:=Hd a;clear a
  by_cases d:k<n
  ·obtain⟨g,j⟩:∃g,L[k]?=Y g:=⟨L[k]'(by rw[f.o];exact d),Fq (by rw[f.o];exact d)⟩;have C:w.cell? ⟨B,k,none⟩=Y (J g):=by rw[Gb _ _ _ _ _ _ z.o];simp[j]
   have t:=Hd j;clear j
   cases he:g.toList==x.toList
   ·have l:=Hd he;go_wp2_with fail
    go_round
    case rel=>exact⟨k+1,by omega,by go_num,by rw[mI _ _ _ _ t.o s.o];simpa [ByteArray.toList_eq]using l.o⟩
    case measure=>simp[intOf];omega
   ·have l:=Hd he;go_wp2_with fail
    go_ret;refine r.o wg ?_ _ _ V V;unfold cn;exact qC (fun b=>b.data.toList==x.data.toList) _ k g t.o (by simpa [ByteArray.toList_eq]using l.o)
  ·obtain rfl:k=n:=by omega
   go_wp2_with fail
   go_ret;refine r.o wj ?_ _ _ V V;unfold cn;have:=s.o
   rwa [FH (by rw[f.o];exact Fj _)]at this
theorem Cc(x:ByteArray)(w:vk) :
  wB wq 149 #[J x] w (ao (cn jc x.data.toList) w):=by
 have a:=Hd (qt jc 11 w.heap.size 11 9 x _ V (by omega) (qv w (ur (jc.map J).toArray 9)))
 go_enter Tryz.func149,Tryz.ntmps149
 go_wp2_with fail
 refine Fx a.o ?_;rintro e w1 ⟨rfl,rfl⟩;go_wp2_with fail
 go_ret;exact⟨V,(Fl _ w).alloc (Fj _) _⟩
theorem jh(x:ByteArray)(w:vk)(c:x.size≤72007) :
  wB wq 144 #[J x] w (ao (aN x.data.toList&&!di x.data.toList) w):=by
 obtain⟨b,a⟩:=zz2 (mA x w (by omega)) (qt fa 11 w.heap.size 11 9 x _ V (by omega) (qv w (ur (fa.map J).toArray 9)));have hw:cn fa x.data.toList=di x.data.toList:=rfl;rw[hw]at a;clear hw;generalize aN x.data.toList=nf at *;generalize di x.data.toList=wf at *
 go_enter Tryz.func144,Tryz.ntmps144
 go_wp2_with fail
 refine Fx b.o ?_;rintro e w1 ⟨rfl,rfl⟩
 cases nf
 ·go_wp2_with fail
  go_ret;exact⟨V,Fl _ _⟩
 ·go_wp2_with (first|(go_at_call 218;refine (xO _).mono ?_;rintro e w1 ⟨rfl,rfl⟩))
  refine Fx a.o ?_;rintro e w1 ⟨rfl,rfl⟩;go_wp2_with fail
  go_ret;exact⟨V,(Fl _ w).alloc (Fj _) _⟩
theorem A6(k:Nat)(w:vk) :
  wB wq 219 #[I O k] w fun e w'=>e=xv (xS ([5,6,7].contains k))∧w=w':=by
 have a:Hid ([5,6,7].contains k=(k==5||(k==6||k==7))):=by
  show _=_
  simp only[List.contains_cons,List.contains_nil,Bool.or_false]
 generalize [5,6,7].contains k=x at *
 go_enter Tryz.func219,Tryz.ntmps219
 cases b:((k:Int)==5)
 ·cases c:((k:Int)==6)
  ·cases d:((k:Int)==7)
   ·have H:Hid (x=wj):=by
     show x=wj
     rw[a.o];simp at b c d ⊢;omega
    go_wp2_with fail
    go_ret;exact⟨ah H.o.symm,V⟩
   ·have H:Hid (x=wg):=by
     show x=wg
     rw[a.o];simp at b c d ⊢;omega
    go_wp2_with fail
    go_ret;exact⟨ah H.o.symm,V⟩
  ·have H:Hid (x=wg):=by
    show x=wg
    rw[a.o];simp at b c ⊢;omega
   go_wp2_with fail
   go_ret;exact⟨ah H.o.symm,V⟩
 ·have H:Hid (x=wg):=by
   show x=wg
   rw[a.o];simp at b ⊢;omega
  go_wp2_with fail
  go_ret;exact⟨ah H.o.symm,V⟩
theorem tM(x:ByteArray)(h:dM x.data.toList=wg):∃r,x.data.toList=45::r∧strip x.data.toList=r:=by
 cases a:x.data.toList with
 | nil=>rw[a]at h;cases h
 | cons c r =>
  by_cases b:c=45
  ·subst b;exact⟨r,V,V⟩
  ·rw[a,rA c r b]at h;cases h
theorem yh(x:ByteArray)(h:dM x.data.toList=wj):strip x.data.toList=x.data.toList:=by
 cases b:x.data.toList with
 | nil=>rfl
 | cons c r =>
  by_cases a:c=45
  ·subst a;rw[b]at h;cases h
  ·exact vp c r a
theorem zw(x:ByteArray)(h:0<x.size):dM x.data.toList=wo (x[0].toNat=45):=by
 have e:x.data.toList=x[0]::x.data.toList.drop 1:=by
  have:=drop_cons x 0 h
  simpa using this
 rw[e]
 by_cases a:x[0]=45
 ·rw[a];rfl
 ·rw[rA _ _ a]
  symm
  rw[decide_eq_false_iff_not];intro b;exact a (UInt8.toNat_inj.1 b)
theorem um(x:ByteArray)(w:vk)(l:x.size≤72007) :
  wB wq 148 #[J x] w fun e w'=>e=xv (xS (number (strip x.data.toList)).isSome)∧w=w':=by
 rcases Nat.eq_zero_or_pos x.size with f|f
 ·have h:x.data.toList=[]:=FP (by rw[FQ];exact f);have he:x.toList.isEmpty=true:=by rw[FB,h];rfl
  have c:=Hd (jS x w (by omega));have b:strip x.data.toList=x.data.toList:=by rw[h];rfl
  rw[b];clear f h b
  go_enter Tryz.func148,Tryz.ntmps148
  go_wp2_with fail
  refine Fx c.o ?_;rintro e w1 ⟨rfl,rfl⟩;go_wp2_with fail
  go_ret;exact⟨V,V⟩
 ·have he:x.toList.isEmpty=false:=fj x f;have d:=zw x f
  cases a:wo (x[0].toNat=45)
  ·rw[a]at d;rw[yh x d];have c:=Hd (jS x w (by omega));have i:((x[0].toNat:Int)==45)=false:=by simp at a ⊢;omega
   clear d a
   go_enter Tryz.func148,Tryz.ntmps148
   go_wp2_with fail
   refine Fx c.o ?_;rintro e w1 ⟨rfl,rfl⟩;go_wp2_with fail
   go_ret;exact⟨V,V⟩
  ·rw[a]at d;obtain⟨r,j,b⟩:=tM x d;rw[b];have g:(x.extract 1 x.size).data.toList=r:=by
    rw[ByteArray.data_extract,Array.toList_extract,j];have k:x.size=r.length+1:=by
     have:x.data.toList.length=x.size:=by simp
     rw[j]at this
     simpa using this.symm
    simp[List.extract,k]
   have c:=Hd (jS (x.extract 1 x.size) w (by rw[ByteArray.size_extract];omega));rw[g]at c;have i:((x[0].toNat:Int)==45)=true:=by simp at a ⊢;omega
   have m:(1:Int)≤x.size:=by omega
   clear d a g j b
   go_enter Tryz.func148,Tryz.ntmps148
   go_wp2_with fail
   refine Fx c.o ?_;rintro e w1 ⟨rfl,rfl⟩;go_wp2_with fail
   go_ret;exact⟨V,V⟩
def zH(d:Nat):Prop:=∀(T:ab) (v:vn) (B:Nat) (w:vk),bz w B d T v→B≤w.heap.size→gv d T→T.b≠1→wB wq 79 #[v] w (ao (okF d T) w)
def qO(d:Nat) (S:List Nat) (t:ab):Bool:=S.contains t.b&&okF d t
def gB(d:Nat) (S:List Nat) (l:List ab):Bool:=l.all (qO d S)
def eF(d:Nat):Prop:=∀(a:List ab) (u:vn) (B:Nat) (w:vk) (S:List Nat) (c:vn) (fr b:Nat),aj w B d a u→B≤w.heap.size→gw w S c→1 ∉ S→fr≤b→b≤a.length→cD d a→
 wB wq 45 #[u,I Z fr,I Z b,c] w (ao (gB (d-1) S ((a.take b).drop fr)) w)
def BY(w:vk) (d:Nat) (S:List Nat) (b:List ab) (fr c:Nat) (i:vn) (W:vk):Prop:=
 ∃(a:vk) (k:Nat),a=W∧fr≤k∧k≤c∧i=I Z k∧Gc w a∧gB d S ((b.take k).drop fr)=wg
def BO(w:vk) (S:List Nat) (m x:Nat) (ok i:vn) (W:vk):Prop:=
 ∃(a:vk) (j:Nat),a=W∧j≤m∧ok=xS ((S.take j).any (· == x))∧i=I Z j∧Gc w a
theorem rJ(a:List ab)(fr k:Nat)(t:ab)(h:a[k]?=Y t)(b:fr≤k):(a.take (k+1)).drop fr=(a.take k).drop fr++[t]:=by
 rw[FY,h,List.drop_append];have c:k<a.length:=(FD.1 h).1;have:fr-(a.take k).length=0:=by rw[List.length_take];omega
 rw[this];rfl
theorem CX(S:List Nat)(j x y:Nat)(h:S[j]?=Y y):(S.take (j+1)).any (· == x)=((S.take j).any (· == x)||(y==x)):=by
 rw[FY,h,List.any_append];simp
theorem wU(d:Nat)(HN:Hid (∀d',d=d'+1→zH d')):eF d:=by
 intro C u B w S sv fr H hk hB hS aq bl bn T;have br:C.length≤20000:=by
  cases d with
  | zero=>rw[hk.1];exact FA _
  | succ d=>exact T.1
 have s:∀t∈C,d=d-1+1→gv (d-1) t:=by
  cases d with
  | zero=>intro t K;rw[hk.1]at K;cases K
  | succ d=>intro t K _;exact T.2 t K
 obtain⟨p,c,rfl,_,L⟩:=hk.rows;obtain⟨q,cq,rfl,W,X⟩:=hS.b;obtain⟨n,hn⟩:=zzy (C.length);obtain⟨m,hm⟩:=zzy (S.length);rw[hn]at br bn ⊢;rw[hm]at W hS ⊢;obtain⟨M,HM,ar,HS,bt,bB⟩:=zz6 hn hm L hS s aq;have b2:(H:Int)≤n:=by omega
 have b3:(n:Int)≤20000:=by omega
 clear L X s T hk hS hn hm aq
 go_enter Tryz.func45,Tryz.ntmps45
 go_wp2_with fail
 go_loopw [9] (BY w (d-1) S C fr H) (fun i _=>H-(intOf i).toNat)
 case atStart=>exact⟨_,fr,V,Fj _,bl,V,Fl _ _,by rw[List.drop_eq_nil_of_le (by rw[List.length_take];omega)];rfl⟩
 case round =>
  obtain⟨W1,k,rfl,bR,b4,rfl,hb,N⟩:=hrel;obtain⟨b0,HA⟩:=zz2 hb N;have b5:(0:Int)≤k:=by omega
  clear N
  by_cases b6:k<H
  ·have b7:(k:Int)<H:=by omega
   have b8:(k:Int)<n:=by omega
   have P:k<n:=by omega
   obtain⟨t,K⟩:∃t,C[k]?=Y t:=⟨C[k]'(by rw[M.o];exact P),Fq (by rw[M.o];exact P)⟩;obtain⟨hd,b,off,rfl,av,Q⟩:=ar.o k t K;obtain⟨HT,R,HD⟩:=zz3 K Q hd;clear Q K hd;go_wp2_with fail
   go_loopw [10,11] (BO W1 S m t.b) (fun _ i _=>m-(intOf i).toNat)
   case atStart=>exact⟨_,0,V,FA _,V,V,Fl _ _⟩
   case round =>
    obtain⟨W2,j,rfl,hj,rfl,rfl,D⟩:=hrel;have b9:(0:Int)≤j:=by omega
    have E:=Hd D;have a:=hb.trans (D.mono hb.size)
    by_cases a1:j<m
    ·have ca:(j:Int)<m:=by omega
     obtain⟨y,hy⟩:∃y,S[j]?=Y y:=⟨S[j]'(by rw[HM.o];exact a1),Fq (by rw[HM.o];exact a1)⟩;obtain⟨_,_,e0,_,a6⟩:=(HS.o.u a).b;injection e0 with e1 e2 e3
     subst e1;obtain⟨bq,oq,rfl,ba⟩:=a6 j y hy;have g:=Hd (CX S j t.b y hy);obtain⟨p',l',c',d0,_,_,_,_,_⟩:=R.o.node (a.mono hB) av;have D0:=fun x:Wb W2=>x.b d0
     have CY:=fun x:Wb W2=>x.b ba
     clear hy a6 d0 ba D a e2 e3
     cases F:(S.take j).any (· == t.b)
     ·rw[F,Bool.false_or]at g;have bb:((t.b:Int)==(y:Int))=(y==t.b):=by rw[FV];simp;omega
      have b1:=Hd bb;clear F bb;go_wp2_with fail
      refine au (by kernel_rfl) (by kernel_rfl) ?_
      repeat (go_big_quiet_step (fail))
      refine z7 ?_;intro W3 v;have l:=Hd (E.o.trans ((a8 v).mono E.o.size));clear v D0 CY;go_wp2_with fail
      exact⟨⟨W3,j+1,V,by omega,by rw[g.o,←b1.o],by go_num,l.o⟩,by simp[intOf];omega⟩
     ·rw[F,Bool.true_or]at g;clear F;go_wp2_with fail
      refine au (by kernel_rfl) (by kernel_rfl) ?_
      repeat (go_big_quiet_step (fail))
      refine z7 ?_;intro W3 v;have l:=Hd (E.o.trans ((a8 v).mono E.o.size));clear v D0 CY;go_wp2_with fail
      exact⟨⟨W3,j+1,V,by omega,by rw[g.o],by go_num,l.o⟩,by simp[intOf];omega⟩
    ·obtain rfl:j=m:=by omega
     have bc:S.take j=S:=FH (by rw[HM.o];exact Fj _);have G:(S.take j).any (· == t.b)=S.contains t.b:=by rw[bc,List.contains_eq_any_beq];congr 1;funext y;rw[Bool.beq_comm]
     obtain⟨p',l',c',d0,d1,d2,d3,d4,z⟩:=R.o.node (a.mono hB) av;obtain⟨ad,h⟩:=zz2 z a;clear bc z D a
     cases f:S.contains t.b
     ·have af:=Hd (G.trans f);have ak:Hid (gB (d-1) S ((C.take H).drop fr)=wj):=by
       show _=wj
       unfold gB;rw[List.all_eq_false];refine⟨t,?_,by unfold qO;rw[f];simp⟩;apply FM (i:=k-fr);rw[List.getElem?_drop,List.getElem?_take,r6 (by omega),show fr+(k-fr)=k by omega];exact HT.o
      clear G f;rw[af.o];go_wp2_with fail
      go_ret;exact⟨ah ak.o.symm,h.o⟩
     ·have af:=Hd (G.trans f);have h1:t.b≠1:=fun e=>bB.o (by rw[←e];simpa using f)
      have al:=Hd (HN.o (d-1) HD.o t _ B W2 ad.o (Fu hB h.o.size) (bt.o t (FM HT.o) HD.o) h1);have bd:Hid (qO (d-1) S t=okF (d-1) t):=by
       show _=_
       unfold qO;rw[f,Bool.true_and]
      clear G f h1;rw[af.o];generalize okF (d-1) t=r at *;go_wp2_with fail
      refine Fx al.o ?_;rintro e W3 ⟨rfl,bk⟩;have l:=Hd (h.o.trans (bk.mono h.o.size));clear bk d0 d1 d2 d3 d4
      cases r
      ·have ak:Hid (gB (d-1) S ((C.take H).drop fr)=wj):=by
        show _=wj
        unfold gB;rw[List.all_eq_false];refine⟨t,?_,by rw[bd.o];simp⟩;apply FM (i:=k-fr);rw[List.getElem?_drop,List.getElem?_take,r6 (by omega),show fr+(k-fr)=k by omega];exact HT.o
       go_wp2_with fail
       go_ret;exact⟨ah ak.o.symm,l.o⟩
      ·go_wp2_with fail
       refine⟨⟨W3,k+1,V,by omega,by omega,by go_num,l.o,?_⟩,by simp[intOf];omega⟩;unfold gB;rw[rJ C fr k t HT.o bR,List.all_append];have:=HA.o;unfold gB at this;rw[this];simp[bd.o]
  ·obtain rfl:k=H:=by omega
   clear hb;go_wp2_with fail
   go_ret;exact⟨ah HA.o.symm,b0.o⟩
theorem Fg(x y z:Bool):(x&&(y&&z))=(y&&(x&&z)):=by cases x<;>cases y<;>rfl
theorem iM(d:Nat)(S:List Nat)(l:List ab):gB d S l=(bI S l&&l.all (okF d)):=by
 unfold gB bI qO
 induction l with
 | nil=>rfl
 | cons x l a =>
  rw[List.all_cons,List.all_cons,List.all_cons,a]
  cases S.contains x.b<;>cases okF d x<;>simp
theorem jO(d:Nat)(h:eF d)(S:List Nat)(l:S.length≤100)(n:1 ∉ S)(arr:Array vn)(o:arr=(S.map fun k:Nat=>I O (k:Int)).toArray)(m:Nat)(hm:S.length=m)(a:List ab)(u:vn)(B:Nat)(W:vk)(fr b:Nat)
  (p:aj W B d a u) (hB:B≤W.heap.size) (f:fr≤b) (g:b≤a.length) (i:cD d a) :
  wB wq 45 #[u,I Z fr,I Z b,A (Y ⟨W.heap.size,0,none⟩) m m] (W.alloc (ur arr 22)) (ao (gB (d-1) S ((a.take b).drop fr)) W):=by
 have c:Gc W (W.alloc (ur arr 22)):=(Fl _ W).alloc (Fj _) _;refine (h a u B _ S _ fr b (p.u (c.mono hB)) (Fu hB c.size) (sL W S l arr o m hm) n f g i).mono ?_;rintro e W' ⟨he,j⟩;exact⟨he,c.trans (j.mono c.size)⟩
def ef(d:Nat):Prop:=∀(a:List ab) (u:vn) (B:Nat) (w:vk),aj w B d a u→B≤w.heap.size→cD d a→wB wq 146 #[u] w (ao (cK a&&a.all (okF (d-1))) w)
def eX(d:Nat):Prop:=∀(a:List ab) (u:vn) (B:Nat) (w:vk),aj w B d a u→B≤w.heap.size→cD d a→wB wq 145 #[u] w (ao (rowB a&&a.all (okF (d-1))) w)
theorem cD.nine{d:Nat}{a:List ab}{w:vk}{B:Nat}{u:vn}(h:cD d a)(b:aj w B d a u):a.length≤20000:=by
 cases d with
 | zero=>rw[b.1];exact FA _
 | succ d=>exact h.1
theorem dk(d:Nat)(h:eF d):ef d:=by
 intro l u B w C hB z;have P:=z.nine C;have q:=C;obtain⟨p,c,rfl,_,s⟩:=C.rows;obtain⟨n,r⟩:=zzy (l.length);rw[r]at P q ⊢;obtain⟨f,D,HK⟩:=zz3 r s q;have E:=Hd (fun W (hW:Gc w W)=>jO d h [13,14,15,16] (by decide) (by decide) #[I O 13,I O 14,I O 15,I O 16] V 4 V l _ B W 0 n (q.u (hW.mono hB)) (Fu hB hW.size) (FA _) (by rw[r];exact Fj _) z);clear s C r z q h
 go_enter Tryz.func146,Tryz.ntmps146
 go_wp2_with fail
 go_loopw [3] (ul w (fun t=>!hU t) l n) (fun i _=>n-(intOf i).toNat)
 case atStart=>exact⟨_,0,V,FA _,V,Fl _ _,V⟩
 case round =>
  obtain⟨W1,k,rfl,C,rfl,F,v⟩:=hrel;obtain⟨M,g⟩:=zz2 v F;clear v
  by_cases G:k<n
  ·obtain⟨t,Q⟩:∃t,l[k]?=Y t:=⟨l[k]'(by rw[f.o];exact G),Fq (by rw[f.o];exact G)⟩;obtain⟨-,b,off,rfl,R,x⟩:=D.o k t Q;obtain⟨p',l',c',d0,d1,d2,d3,d4,m⟩:=x.node (F.mono hB) R;have S:=m.1.2.1;unfold maxLen at S;have N:=Hd Q;have ak:(0:Int)≤k:=by omega
   have al:(k:Int)<n:=by omega
   clear x Q m F
   cases H:((t.b:Int)==14)
   ·have a:=Hd (show (!hU t)=wg by unfold hU;rw[show (t.b==14)=wj by simp at H ⊢;omega];rfl);go_wp2_with fail
    exact⟨⟨_,k+1,V,by omega,by go_num,g.o,ja _ l k t N.o M.o a.o⟩,by simp[intOf];omega⟩
   ·have y:(t.b==14)=true:=by simp at H ⊢;omega
    have T:Hid (hU t=dM t.f.data.toList):=by
     show hU t=_
     unfold hU;rw[y];rfl
    clear y;rcases Nat.eq_zero_or_pos t.f.size with K|K
    ·have X:t.f.data.toList=[]:=FP (by rw[FQ];exact K);have he:t.f.toList.isEmpty=true:=by rw[FB,X];rfl
     have a:=Hd (show (!hU t)=wg by rw[T.o,X];rfl);clear X K;go_wp2_with fail
     exact⟨⟨_,k+1,V,by omega,by go_num,g.o,ja _ l k t N.o M.o a.o⟩,by simp[intOf];omega⟩
    ·have he:t.f.toList.isEmpty=false:=fj t.f K;have r:=zw t.f K;have aq:(0:Int)<t.f.size:=by omega
     cases j:wo (t.f[0].toNat=45)
     ·have ad:((t.f[0].toNat:Int)==45)=false:=by simp at j ⊢;omega
      have a:=Hd (show (!hU t)=wg by rw[T.o,r,j];rfl);clear r j;go_wp2_with fail
      exact⟨⟨_,k+1,V,by omega,by go_num,g.o,ja _ l k t N.o M.o a.o⟩,by simp[intOf];omega⟩
     ·have ad:((t.f[0].toNat:Int)==45)=true:=by simp at j ⊢;omega
      have a:=Hd (show (!hU t)=wj by rw[T.o,r,j];rfl);clear r j;go_wp2_with fail
      go_ret;refine⟨ah ?_,g.o⟩;rw[lh,xq _ l k t N.o a.o];rfl
  ·obtain rfl:k=n:=by omega
   have HC:=Hd (E.o W1 F);clear F;go_wp2_with fail
   refine Fx HC.o ?_;rintro e W2 ⟨rfl,L⟩;have af:=Hd (g.o.trans (L.mono g.o.size));clear L;go_wp2_with fail
   go_ret;refine⟨ah ?_,af.o⟩;have h1:=M.o;rw[FH (by rw[f.o];exact Fj _)]at h1;have e:l.take k=l:=FH (by rw[f.o];exact Fj _)
   show gB (d-1) [13,14,15,16] (l.take k)=_
   rw[lh,h1,e,iM,Bool.true_and]
theorem dL(d:Nat)(h:eF d):eX d:=by
 intro f u B w q hB C;have ad:=C.nine q;have r:=q;obtain⟨p,c,rfl,_,D⟩:=q.rows;obtain⟨n,M⟩:=zzy (f.length);rw[M]at ad r ⊢;obtain⟨l,N,HK⟩:=zz3 M D r;have P:=Hd (fun W (Q:Gc w W) (k:Nat) (q:k≤n)=>jO d h [5,6,7] (by decide) (by decide) #[I O 5,I O 6,I O 7] V 3 V f _ B W 0 k (r.u (Q.mono hB)) (Fu hB Q.size) (FA _) (by rw[M];exact q) C);have G:=Hd (fun W (Q:Gc w W) (k:Nat) (q:k≤n)=>jO d h [8,9,10,11] (by decide) (by decide) #[I O 8,I O 9,I O 10,I O 11] V 4 V f _ B W k n (r.u (Q.mono hB)) (Fu hB Q.size) q (by rw[M];exact Fj _) C);clear D q M C r h
 go_enter Tryz.func145,Tryz.ntmps145
 go_wp2_with fail
 go_loopw [3] (ul w aP f n) (fun i _=>n-(intOf i).toNat)
 case atStart=>exact⟨_,0,V,FA _,V,Fl _ _,V⟩
 case round =>
  obtain⟨W1,k,rfl,q,rfl,H,m⟩:=hrel;obtain⟨HA,g⟩:=zz2 m H;have aq:(0:Int)≤k:=by omega
  have R:=Hd (P.o W1 H k q);have E:Hid ((f.drop k).head?.all (fun x=>!aP x)=wg→(gB (d-1) [5,6,7] ((f.take k).drop 0)&&gB (d-1) [8,9,10,11] ((f.take n).drop k))=(rowB f&&f.all (okF (d-1)))):=by
   show _→_
   intro hh;unfold rowB;rw[kM aP f k m hh,iM,iM,FI,FH (i:=n) (by rw[l.o];exact Fj _)];have e1:bI [5,6,7] (f.take k)=true:=by unfold bI;exact m
   have e2:f.all (okF (d-1))=((f.take k).all (okF (d-1))&&(f.drop k).all (okF (d-1))):=by
    conv=>lhs;rw[←List.take_append_drop k f]
    rw[List.all_append]
   rw[e1,e2,Bool.true_and];exact Fg _ _ _
  have S:=Hd (fun W2 (af:Gc W1 W2)=>G.o W2 (H.trans (af.mono H.size)) k q);clear m;generalize gB (d-1) [5,6,7] ((f.take k).drop 0)=r1 at *;generalize gB (d-1) [8,9,10,11] ((f.take n).drop k)=r2 at *
  by_cases T:k<n
  ·obtain⟨t,ht⟩:∃t,f[k]?=Y t:=⟨f[k]'(by rw[l.o];exact T),Fq (by rw[l.o];exact T)⟩;obtain⟨-,b,off,rfl,ak,F⟩:=N.o k t ht;obtain⟨p',l',c',d0,d1,d2,d3,d4,K⟩:=F.node (H.mono hB) ak;have hh:(f.drop k).head?.all (fun x=>!aP x) = !aP t:=by rw[List.head?_drop,ht];rfl
   obtain⟨HT,HH⟩:=zz2 ht hh;have ar:(k:Int)<n:=by omega
   have s:=Hd (fun W=>A6 t.b W);have X:[5,6,7].contains t.b=aP t:=rfl;rw[X]at s;clear F ht K hh H X
   cases v:aP t
   ·rw[v]at s HH;have a:=Hd (E.o HH.o);clear v;go_wp2_with fail
    refine Fx (s.o _) ?_;rintro e W2 ⟨rfl,rfl⟩;go_wp2_with fail
    refine Fx R.o ?_;rintro e W2 ⟨rfl,y⟩;have j:=Hd y;clear y d0 d1 d2 d3 d4
    cases r1
    ·go_wp2_with fail
     go_ret;exact⟨ah (by rw[←a.o];rfl),g.o.trans (j.o.mono g.o.size)⟩
    ·go_wp2_with fail
     refine Fx (S.o _ j.o) ?_;rintro e W3 ⟨rfl,z⟩;have L:=Hd (j.o.trans (z.mono j.o.size));clear z;go_wp2_with fail
     go_ret;exact⟨ah (by rw[←a.o];rfl),g.o.trans (L.o.mono g.o.size)⟩
   ·rw[v]at s;have al:=Hd v;clear v;go_wp2_with fail
    refine Fx (s.o _) ?_;rintro e W2 ⟨rfl,rfl⟩;go_wp2_with fail
    exact⟨⟨_,k+1,V,by omega,by go_num,g.o,ja aP f k t HT.o HA.o al.o⟩,by simp[intOf];omega⟩
  ·obtain rfl:k=n:=by omega
   have a:=Hd (E.o (by rw[List.drop_eq_nil_of_le (by rw[l.o];exact Fj _)];rfl));clear H;go_wp2_with fail
   refine Fx R.o ?_;rintro e W2 ⟨rfl,y⟩;have j:=Hd y;clear y
   cases r1
   ·go_wp2_with fail
    go_ret;exact⟨ah (by rw[←a.o];rfl),g.o.trans (j.o.mono g.o.size)⟩
   ·go_wp2_with fail
    refine Fx (S.o _ j.o) ?_;rintro e W3 ⟨rfl,z⟩;have L:=Hd (j.o.trans (z.mono j.o.size));clear z;go_wp2_with fail
    go_ret;exact⟨ah (by rw[←a.o];rfl),g.o.trans (L.o.mono g.o.size)⟩
def okK(k:Nat) (t:ByteArray) (nm pl:Int) (a:List ab) (d:Nat):Bool:=cL k t.data.toList a.length&&bN k nm&&wo (0≤pl)&&bw k a&&a.all (okF (d-1))
theorem fu(k:Nat)(t:ByteArray)(nm pl:Int)(a:List ab)(d:Nat)(h:(bN k nm&&wo (0≤pl))=wj):okK k t nm pl a d=false:=by
 unfold okK;rw[Bool.and_assoc (cL _ _ _),h];simp
theorem eD(k:Nat)(t:ByteArray)(nm pl:Int)(a:List ab)(d:Nat)(b:bN k nm=wg)(c:wo (0≤pl)=wg):okK k t nm pl a d=(cL k t.data.toList a.length&&(bw k a&&a.all (okF (d-1)))):=by
 unfold okK;rw[b,c,Bool.and_true,Bool.and_true,Bool.and_assoc]
theorem fP(d:Nat)(a:List ab)(n:Nat)(b:a.length=n):(a.isEmpty&&a.all (okF d))=(n==0):=by
 subst b
 cases a with
 | nil=>rfl
 | cons x l=>rfl
theorem oz(d:Nat)(S:List Nat)(a:List ab)(n:Nat)(b:a.length=n):gB d S ((a.take n).drop 0)=(bI S a&&a.all (okF d)):=by rw[FH (by omega),FI,iM]
theorem gP(t:ByteArray):t.data.toList.isEmpty=t.toList.isEmpty:=by rw[FB]
theorem dJ(n k:Nat):(n==k)=((n:Int)==(k:Int)):=by rw[FV];simp;omega
theorem AQ(t:ByteArray):cn kT t.data.toList=((t.toList==[45])||(t.toList==[110,111,116])):=by
 unfold cn kT;simp only[List.any_cons,List.any_nil,Bool.or_false,FB]
 congr 1<;>(rw[Bool.beq_comm])
theorem EL(n:Nat):wo (0<n)=wo ((1:Int)≤n):=by rw[FV];simp;omega
theorem cP(k:Nat)(t:ByteArray)(nm pl:Int)(p:Option Addr)(n c:Nat)(w:vk)(b:pl<0)(P:Bool)(d:P=wj) :
  wB wq 79 #[wD #[I O k,J t,I Z nm,I Z pl,A p n c]] w (ao P w):=by
 subst d;have a:Gc w (w.alloc (ur #[I O k,J t,I Z nm,I Z pl,A p n c] 25)):=(Fl _ w).alloc (Fj _) _;obtain⟨f,g,h,i,j⟩:=cells5 (qv w (ur #[I O k,J t,I Z nm,I Z pl,A p n c] 25));have e:=Hd a;clear a
 go_enter Tryz.func79,Tryz.ntmps79
 go_wp2_with fail
 go_ret;exact⟨V,e.o⟩
theorem dC(k:Nat)(t:ByteArray)(nm pl:Int)(p:Option Addr)(n c:Nat)(w:vk)(d:0≤pl)(b:(nm==0)=wj)(e:k≠4)(f:k≠9)(P:Bool)(g:P=wj) :
  wB wq 79 #[wD #[I O k,J t,I Z nm,I Z pl,A p n c]] w (ao P w):=by
 subst g;have a:Gc w (w.alloc (ur #[I O k,J t,I Z nm,I Z pl,A p n c] 25)):=(Fl _ w).alloc (Fj _) _;obtain⟨j,l,m,q,r⟩:=cells5 (qv w (ur #[I O k,J t,I Z nm,I Z pl,A p n c] 25));have h:=Hd a;have i:(nm != 0)=true:=by show (!(nm==0))=wg;rw[b];rfl
 have s:((k:Int) != 4)=true:=by simp;omega
 have u:((k:Int) != 9)=true:=by simp;omega
 clear a e f
 go_enter Tryz.func79,Tryz.ntmps79
 go_wp2_with fail
 go_ret;exact⟨V,h.o⟩
theorem Dy(d:Nat)(_HA:Hid (eF d))(_HE:Hid (ef d))(_HR:Hid (eX d))(t:ByteArray)(nm pl:Int)(p:Option Addr)(n c:Nat)(a:List ab)(B:Nat)(w:vk)(_hk:aj w B d a (A p n c))(_hB:B≤w.heap.size)(_hsl:cD d a)(l:t.size≤72007)(v:a.length=n) :
  wB wq 79 #[wD #[I O 3,J t,I Z nm,I Z pl,A p n c]] w (ao (okK 3 t nm pl a d) w):=by
 have m:Gc w (w.alloc (ur #[I O 3,J t,I Z nm,I Z pl,A p n c] 25)):=(Fl _ w).alloc (Fj _) _;obtain⟨x,y,z,C,D⟩:=cells5 (qv w (ur #[I O 3,J t,I Z nm,I Z pl,A p n c] 25));obtain⟨E,F,h,i,s,q⟩:=zz6 m (qv w (ur #[I O 3,J t,I Z nm,I Z pl,A p n c] 25)) (eD 3 t nm pl a d) (fu 3 t nm pl a d) (fun W=>jh t W l) v;clear m _hk _hsl l v
 by_cases j:0≤pl
 ·have b:wo (0≤pl)=true:=by simpa using j
  have u:=Hd b;clear b
  cases f:(nm==0)
  ·exact dC 3 t nm pl p n c w j f (by omega) (by omega) _ (i.o (by rw[show bN 3 nm=(nm==0) from rfl,f];rfl))
  ·have g:=Hd (h.o (by rw[show bN 3 nm=(nm==0) from rfl,f]) u.o);have G:(nm != 0)=false:=by show (!(nm==0))=wj;rw[f];rfl
   clear h i
   go_enter Tryz.func79,Tryz.ntmps79
   rw[show cL 3 t.data.toList a.length=(aN t.data.toList&&!di t.data.toList) from rfl]at g;rw[show bw 3 a=a.isEmpty from rfl,fP (d-1) a n q.o,dJ]at g;generalize (aN t.data.toList&&!di t.data.toList)=nf at *;go_wp2_with fail
   refine Fx (s.o _) ?_;rintro e w1 ⟨rfl,k⟩;have r:=Hd (E.o.trans (k.mono E.o.size));clear x y z C D;obtain⟨x,y,z,C,D⟩:=cells5 (aa k F.o (by simp));clear k
   cases nf
   ·go_wp2_with fail
    go_ret;exact⟨ah (by rw[g.o];rfl),r.o⟩
   ·go_wp2_with fail
    go_ret;exact⟨ah (by rw[g.o];rfl),r.o⟩
 ·have b:wo (0≤pl)=false:=by simpa using j
  exact cP 3 t nm pl p n c w (by omega) _ (i.o (by rw[b,Bool.and_false]))
