/- Parts of one proof, joined; conditions stand in each theorem. -/
import Derived.Test.YtoonjedifockoaaGreatDoorMD
import Derived.Handy
import Derived.Test.YtoonjedifockoaaGreatDoorMC
import Derived.Test.YtoonjedifockoaaGreatDoorNLA
import Derived.Test.YtoonjedifockoaaGreatDoorNH
import Derived.Test.YtoonjedifockoaaGreatDoorNE
import Derived.Test.YtoonjedifockoaaGreatDoorMJ
namespace Go.Proofs.YtoonjedifockoaaGreatDoor
open Go.IntKind(i64)
open Go.Value(int string slice)
set_option maxHeartbeats 4000000
set_option maxRecDepth 100000
open Go.RowKit
theorem BR(s:ByteArray)(a b:Nat):(s.extract a b).data.toList=(s.data.toList.drop a).take (b-a):=by rw[ByteArray.data_extract,Array.toList_extract]
theorem xI(s:ByteArray)(k:Nat)(g:ByteArray)(h:k+g.size≤s.size):((s.extract k (k+g.size)).toList==g.toList)=ib s k g:=by
 unfold ib;rw[←Lib.hasPrefix_of_take,EN,EN,BR,Nat.add_sub_cancel_left];have e:g.data.toList.length=g.size:=by simp
 rw[e];have a:decide (g.size≤(s.data.toList.drop k).length)=true:=by simp;omega
 rw[a,Bool.true_and]
def pZ(kd:Nat):Nat:=if kd==3||kd==5 then 1 else 0
theorem Be(x y:ByteArray)(h:x.data.toList=y.data.toList):x=y:=by
 obtain⟨⟨x⟩⟩:=x;obtain⟨⟨y⟩⟩:=y
 simpa using h
theorem tA(s:ByteArray)(k:Nat)(n:k<s.size)(b:(al s k s[k]).2.2.1=0) :
  (al s k s[k]).2.2.2=k+pZ (al s k s[k]).1+(al s k s[k]).2.1.size∧
  s.extract (k+pZ (al s k s[k]).1) (al s k s[k]).2.2.2=(al s k s[k]).2.1∧(al s k s[k]).1<7:=by
 unfold al at b ⊢
 by_cases c:isLow s[k]=true
 ·rw[n9 c];have d:=eG aW s k;have a:=cQ aW s k (by omega);have e:∀x:Bool,pZ (if x=true then 1 else 2)=0∧(if x=true then 1 else 2)<7:=by intro x;cases x<;>decide
  dsimp only;rw[(e _).1,ext_size s _ _ a];exact⟨by omega,rfl,(e _).2⟩
 ·rw[n8 c]at b ⊢
  by_cases f:(s[k]==63||s[k]==39)=true
  ·rw[n9 f];have d:=eG aW s (k+1);have a:=cQ aW s (k+1) (by omega);have e:∀x:Bool,pZ (if x=true then 5 else 3)=1∧(if x=true then 5 else 3)<7:=by intro x;cases x<;>decide
   dsimp only;rw[(e _).1,ext_size s _ _ a];exact⟨by omega,rfl,(e _).2⟩
  ·rw[n8 f]at b ⊢
   by_cases h:bU s[k]=true
   ·rw[n9 h];have d:=eG bU s k;have a:=cQ bU s k (by omega);have e:pZ 4=0:=rfl;dsimp only;rw[e,ext_size s _ _ a];exact⟨by omega,rfl,by omega⟩
   ·rw[n8 h]at b ⊢
    cases i:ei.find? (fun g=>Lib.hasPrefix (s.data.toList.drop k) g.data.toList) with
    | none=>rw[i]at b;simp at b
    | some g =>
     have j:ib s k g=true:=List.find?_some i;have a:=mT s k g (by omega) j;have l:=xI s k g a;rw[j]at l;refine⟨rfl,Be _ _ ?_,(by show 6<7;omega)⟩;have m:(s.extract k (k+g.size)).toList=g.toList:=by simpa using l
     rw[EN,EN]at m;exact m
theorem Bz(s:ByteArray):∀(f k er pl:Nat),(toks f s k).2=some (er,pl)→er≠0∧pl<s.size:=by
 intro f
 induction f with
 | zero=>intro k er pl h;cases h
 | succ f a =>
  intro k er pl h;unfold toks at h
  split at h
  ·rename_i b
   split at h
   ·exact a _ _ _ h
   ·rename_i c
    simp only[ox,Prod.mk.injEq]at h;obtain⟨rfl,rfl⟩:=h;exact⟨c,b⟩
  ·cases h
theorem cells2{w:World}{T:Nat}{a b:Value}{t:TypeId}(h:w.heap[T]?=some (.cells #[a,b] t (0,0))) :
  w.cell? ⟨T,0,none⟩=some a∧w.cell? ⟨T,1,none⟩=some b∧w.frozen? ⟨T,0,none⟩=false∧w.frozen? ⟨T,1,none⟩=false:=by
 simp[World.cell?,World.frozen?,h]
theorem aG{W:World}{p:Addr}{u:Value}{b:Nat}{o:Obj}(a:b≠p.block)(c:W.heap[b]?=some o):(W.setCell p u).heap[b]?=some o:=(ED W p u b a).trans c
def zC(r:Rd (List ag)):Rd aT:=(Rd.u8.pair (Rd.int.pair (Rd.int.pair r))).as fun a=>(a.kind,a.type,a.which,a.exprs)
theorem AP{w:World}{F:Nat→Prop}{a:Rd (List ag)}{e:ag}{s:Value}(b:ep e)(h:a.at_ w F e.kids [s]):(js a).at_ w F e (bF e s):=by
 obtain⟨c,d,f,i⟩:=b;exact⟨[_],[_,_,_,_,_,_],rfl,⟨rfl,c⟩,⟨[_,_,_],[_,_,_],rfl,jt.2 ⟨rfl,d⟩,⟨[_],[_,_],rfl,⟨rfl,f⟩,⟨[_],[_],rfl,⟨rfl,i⟩,h⟩⟩⟩⟩
def wO(a:aT):Prop:=U8 a.kind∧I64 a.type∧I64 a.which
theorem AH{w:World}{F:Nat→Prop}{a:Rd (List ag)}{e:aT}{s:Value}(b:wO e)(h:a.at_ w F e.exprs [s]):(zC a).at_ w F e (pn e s):=by
 obtain⟨c,d,f⟩:=b;exact⟨[_],[_,_,_],rfl,⟨rfl,c⟩,⟨[_],[_,_],rfl,⟨rfl,d⟩,⟨[_],[_],rfl,⟨rfl,f⟩,h⟩⟩⟩
theorem ta{W:World}{tmps:Array Value}{R:Ending→World→Prop}{r:Nat}{b c c2 d c4 e f:Value}(i:tmps.getD 2 undef=.pointer (some ⟨r,0,none⟩))(a:W.heap[r]?=some (.cells #[b,c,c2,d,c4,e,f] 50 (0,0)))(j:R (.returned (.agg #[b,c,c2,d,c4,e,f])) W):bodyPost Tryz.prog Tryz.f117 R .ret ⟨tmps,[]⟩ W:=by
 have d0:W.cell? ⟨r,0,none⟩=some b:=by simp[World.cell?,a]
 have d1:W.cell? ⟨r,1,none⟩=some c:=by simp[World.cell?,a]
 have d2:W.cell? ⟨r,2,none⟩=some c2:=by simp[World.cell?,a]
 have d3:W.cell? ⟨r,3,none⟩=some d:=by simp[World.cell?,a]
 have d4:W.cell? ⟨r,4,none⟩=some c4:=by simp[World.cell?,a]
 have d5:W.cell? ⟨r,5,none⟩=some e:=by simp[World.cell?,a]
 have d6:W.cell? ⟨r,6,none⟩=some f:=by simp[World.cell?,a]
 have h:tmps[2]?.getD undef=.pointer (some ⟨r,0,none⟩):=by simpa using i
 refine bodyPost_ret (v:=.agg #[b,c,c2,d,c4,e,f]) ?_ rfl j;simp[results,Tryz.results117,go_sem,h,d0,d1,d2,d3,d4,d5,d6]
theorem oh(l r:Rd ag)(ms:List ag)(e:ag)(f:Option Addr)(i j:Nat)(w:World)(z:ep e)(A:∀W,Ft w W→Calls Tryz.prog 118 #[.slice f i j] W (eS (bJ l r ms) e.kids W)) :
  Calls Tryz.prog 117 #[.agg #[int .u8 e.kind,int .u8 e.val.kind,int i64 e.val.num,.string e.val.text,int i64 e.var,int .u8 e.op,.slice f i j]] w (fM (js (bJ l r ms)) e w):=by
 have m:=bz w (.cells #[int .u8 e.kind,int .u8 e.val.kind,int i64 e.val.num,.string e.val.text,int i64 e.var,int .u8 e.op,.slice f i j] 50) (.cells #[int .u8 0,int .u8 0,int i64 0,string ⟨#[]⟩,int i64 0,int .u8 0,slice none 0 0] 50);obtain⟨n,C,_⟩:=am w (.cells #[int .u8 e.kind,int .u8 e.val.kind,int i64 e.val.num,.string e.val.text,int i64 e.var,int .u8 e.op,.slice f i j] 50) (.cells #[int .u8 0,int .u8 0,int i64 0,string ⟨#[]⟩,int i64 0,int .u8 0,slice none 0 0] 50);have p:=Hd n;have q:=Hd C;have F:=Hd (A _ m);have D:=Hd m;have s:=Hd z;obtain⟨a0,a1,a2,a3,a4,a5,t⟩:=cD n;clear n C m A z
 go_enter Tryz.func117,Tryz.ntmps117
 go_wp2_with fail
 refine F.o.mono ?_;rintro T G ⟨U,rfl,c,E⟩;have H:=Hd E;obtain⟨g,d,I,_⟩:=E;injection d with d _
 subst d;have k:((w.alloc (.cells #[int .u8 e.kind,int .u8 e.val.kind,int i64 e.val.num,.string e.val.text,int i64 e.var,int .u8 e.op,.slice f i j] 50)).alloc (.cells #[int .u8 0,int .u8 0,int i64 0,string ⟨#[]⟩,int i64 0,int .u8 0,slice none 0 0] 50)).heap.size=w.heap.size+2:=by simp
 have u:=aa c p.o (by omega);have a:=aa c q.o (by omega);have v:=Hd (D.o.trans (c.mono D.o.size));have x:=Hd k;clear a0 a1 a2 a3 a4 a5 t c I k;obtain⟨a0,a1,a2,a3,a4,a5,t⟩:=cD u;have f1:=ao u 6;obtain⟨J,K,L,M,N,O,P⟩:=cD a;have g0:=ao a 0;have g1:=ao a 1;have g2:=ao a 2;have g3:=ao a 3;have g4:=ao a 4;have g5:=ao a 5;have g6:=ao a 6;have Q:=Hd a;clear u a;go_wp2_with fail
 clear a0 a1 a2 a3 a4 a5 t f1;have R:=Hd (show Ft w ((((((((G.setCell ⟨w.heap.size,6,none⟩ (slice (some ⟨g,0,none⟩) e.kids.length (e.kids.length+ms.length))).setCell ⟨w.heap.size+1,0,none⟩ (int .u8 e.kind)).setCell ⟨w.heap.size+1,1,none⟩ (int .u8 e.val.kind)).setCell ⟨w.heap.size+1,2,none⟩ (int i64 e.val.num)).setCell ⟨w.heap.size+1,3,none⟩ (.string e.val.text)).setCell ⟨w.heap.size+1,4,none⟩ (int i64 e.var)).setCell ⟨w.heap.size+1,5,none⟩ (int .u8 e.op)).setCell ⟨w.heap.size+1,6,none⟩ (slice (some ⟨g,0,none⟩) e.kids.length (e.kids.length+ms.length))) from (((((((v.o.setCell (EA _) _).setCell (EV _) _).setCell (EV _) _).setCell (EV _) _).setCell (EV _) _).setCell (EV _) _).setCell (EV _) _).setCell (EV _) _);clear J K L M N O P g0 g1 g2 g3 g4 g5 g6;have y:w.heap.size≠w.heap.size+1:=by omega
 have V:=x.o;refine ta (r:=w.heap.size+1) rfl (heap_set (heap_set (heap_set (heap_set (heap_set (heap_set (heap_set (aB Q.o y _ _) 0 _) 1 _) 2 _) 3 _) 4 _) 5 _) 6 _) ?_;refine⟨[int .u8 e.kind,int .u8 e.val.kind,int i64 e.val.num,.string e.val.text,int i64 e.var,int .u8 e.op,slice (some ⟨g,0,none⟩) e.kids.length (e.kids.length+ms.length)],rfl,R.o,AP s.o ((bJ l r ms).sub (fun b h=>⟨by have:=h.1;omega,?_⟩) ((bJ l r ms).keep (fun b h o S=>?_) H.o))⟩
 ·have:=h.2
  simpa [World.setCell]using this
 ·have X:=h.1;exact aG (by show b≠w.heap.size+1;omega) (aG (by show b≠w.heap.size+1;omega) (aG (by show b≠w.heap.size+1;omega) (aG (by show b≠w.heap.size+1;omega) (aG (by show b≠w.heap.size+1;omega) (aG (by show b≠w.heap.size+1;omega) (aG (by show b≠w.heap.size+1;omega) (aG (by show b≠w.heap.size;omega) (S))))))))
theorem vo{W:World}{tmps:Array Value}{R:Ending→World→Prop}{r:Nat}{a b c2 c:Value}(f:tmps.getD 2 undef=.pointer (some ⟨r,0,none⟩))(d:W.heap[r]?=some (.cells #[a,b,c2,c] 58 (0,0)))(h:R (.returned (.agg #[a,b,c2,c])) W):bodyPost Tryz.prog Tryz.f86 R .ret ⟨tmps,[]⟩ W:=by
 have d0:W.cell? ⟨r,0,none⟩=some a:=by simp[World.cell?,d]
 have d1:W.cell? ⟨r,1,none⟩=some b:=by simp[World.cell?,d]
 have d2:W.cell? ⟨r,2,none⟩=some c2:=by simp[World.cell?,d]
 have d3:W.cell? ⟨r,3,none⟩=some c:=by simp[World.cell?,d]
 have e:tmps[2]?.getD undef=.pointer (some ⟨r,0,none⟩):=by simpa using f
 refine bodyPost_ret (v:=.agg #[a,b,c2,c]) ?_ rfl h;simp[results,Tryz.results86,go_sem,e,d0,d1,d2,d3]
theorem yU(l r:Rd ag)(ms:List ag)(e:aT)(f:Option Addr)(i j:Nat)(w:World)(y:wO e)(z:∀W,Ft w W→Calls Tryz.prog 118 #[.slice f i j] W (eS (bJ l r ms) e.exprs W)) :
  Calls Tryz.prog 86 #[.agg #[int .u8 e.kind,int i64 e.type,int i64 e.which,.slice f i j]] w (fM (zC (bJ l r ms)) e w):=by
 have m:=bz w (.cells #[int .u8 e.kind,int i64 e.type,int i64 e.which,.slice f i j] 58) (.cells #[int .u8 0,int i64 0,int i64 0,slice none 0 0] 58);obtain⟨n,A,_⟩:=am w (.cells #[int .u8 e.kind,int i64 e.type,int i64 e.which,.slice f i j] 58) (.cells #[int .u8 0,int i64 0,int i64 0,slice none 0 0] 58);have p:=Hd n;have q:=Hd A;have E:=Hd (z _ m);have C:=Hd m;have s:=Hd y;obtain⟨a0,a1,a2,a3⟩:=cells4 n;clear n A m z y
 go_enter Tryz.func86,Tryz.ntmps86
 go_wp2_with fail
 refine E.o.mono ?_;rintro P F ⟨Q,rfl,a,D⟩;have G:=Hd D;obtain⟨g,c,H,_⟩:=D;injection c with c _
 subst c;have k:((w.alloc (.cells #[int .u8 e.kind,int i64 e.type,int i64 e.which,.slice f i j] 58)).alloc (.cells #[int .u8 0,int i64 0,int i64 0,slice none 0 0] 58)).heap.size=w.heap.size+2:=by simp
 have t:=aa a p.o (by omega);have d:=aa a q.o (by omega);have u:=Hd (C.o.trans (a.mono C.o.size));have v:=Hd k;clear a0 a1 a2 a3 a H k;obtain⟨a0,a1,a2,a3⟩:=cells4 t;have f1:=ao t 3;obtain⟨I,J,K,L⟩:=cells4 d;have g0:=ao d 0;have g1:=ao d 1;have g2:=ao d 2;have g3:=ao d 3;have M:=Hd d;clear t d;go_wp2_with fail
 clear a0 a1 a2 a3 f1;have N:=Hd (show Ft w (((((F.setCell ⟨w.heap.size,3,none⟩ (slice (some ⟨g,0,none⟩) e.exprs.length (e.exprs.length+ms.length))).setCell ⟨w.heap.size+1,0,none⟩ (int .u8 e.kind)).setCell ⟨w.heap.size+1,1,none⟩ (int i64 e.type)).setCell ⟨w.heap.size+1,2,none⟩ (int i64 e.which)).setCell ⟨w.heap.size+1,3,none⟩ (slice (some ⟨g,0,none⟩) e.exprs.length (e.exprs.length+ms.length))) from ((((u.o.setCell (EA _) _).setCell (EV _) _).setCell (EV _) _).setCell (EV _) _).setCell (EV _) _);clear I J K L g0 g1 g2 g3;have x:w.heap.size≠w.heap.size+1:=by omega
 have R:=v.o;refine vo (r:=w.heap.size+1) rfl (heap_set (heap_set (heap_set (heap_set (aB M.o x _ _) 0 _) 1 _) 2 _) 3 _) ?_;refine⟨[int .u8 e.kind,int i64 e.type,int i64 e.which,slice (some ⟨g,0,none⟩) e.exprs.length (e.exprs.length+ms.length)],rfl,N.o,AH s.o ((bJ l r ms).sub (fun b h=>⟨by have:=h.1;omega,?_⟩) ((bJ l r ms).keep (fun b h o O=>?_) G.o))⟩
 ·have:=h.2
  simpa [World.setCell]using this
 ·have S:=h.1;exact aG (by show b≠w.heap.size+1;omega) (aG (by show b≠w.heap.size+1;omega) (aG (by show b≠w.heap.size+1;omega) (aG (by show b≠w.heap.size+1;omega) (aG (by show b≠w.heap.size;omega) (O)))))
def jg:Nat→ag→Prop
 | 0,e=>e.kids.length≤20000
 | d+1,e=>e.kids.length≤20000∧∀k∈e.kids,jg d k
theorem ju{d:Nat}(w:World)(F:Nat→Prop)(t:ag)(vs:List Value)(h:(ay d).at_ w F t vs):∃a b e,vs=bF t (.slice a b e):=by
 obtain⟨_,s,rfl,f⟩:=bZ.1 h;obtain⟨q,c,rfl⟩:=aI f;exact⟨_,_,_,rfl⟩
theorem j7(d m:Nat)(hm:m<12)(w:World):(ay d).at_ w (fun _=>False) (fw (db m)) (bF (fw (db m)) (slice none 0 0)):=by
 have a:I64 (8000024+(m:Int)):=⟨by omega,by omega⟩;have b:I64 0:=⟨by decide,by decide⟩;have hu:U8 0:=⟨by decide,by decide⟩;have c:(⟨#[]⟩:ByteArray).size≤maxLen:=by decide
 refine bZ.2 ⟨⟨hu,⟨hu,b,c⟩,a,hu⟩,_,rfl,?_⟩
 cases d with
 | zero=>exact⟨rfl,none,0,rfl⟩
 | succ d=>exact Rd.row_nil
theorem j9:∀(d:Nat) (F:Nat→Prop) (e:ag) (q:Option Addr) (l c:Nat) (w:World),(ay d).at_ w F e (bF e (.slice q l c))→(∀b,F b→b<w.heap.size)→jg d e→
  Calls Tryz.prog 117 #[.agg (bF e (.slice q l c)).toArray] w (fM (fc d) e w)
 | 0,F,e,q,l,c,w,h,hF,u=>by
  obtain⟨v,s,a,i⟩:=bZ.1 h;have f:slice q l c=s:=by injection a with _ a;injection a with _ a;injection a with _ a;injection a with _ a;injection a with _ a;injection a with _ a;injection a
  subst f;obtain⟨j,p,C,he⟩:=i;injection he with D A E
  subst A;refine oh (Rd.no 7) (ay 0) (marks fw) e q 0 c w v fun W r=>?_
  rw[j];exact j5 F (Rd.no 7) (ay 0) rfl rfl (fun _ _ _ _ h=>h.elim) ju (fun m hm w=>j7 0 m hm w) [] _ W Rd.row_nil (fun b n=>EF (hF b n) r.size) (by simp) (fun t x=>by cases x)
 | d+1,F,e,q,l,c,w,h,hF,u=>by
  obtain⟨v,s,a,i⟩:=bZ.1 h;have f:slice q l c=s:=by injection a with _ a;injection a with _ a;injection a with _ a;injection a with _ a;injection a with _ a;injection a with _ a;injection a
  subst f;have i:(ay d).row w F e.kids (.slice q l c):=i;refine oh (fc d) (ay d) (marks fw) e q l c w v fun W r=>?_
  have o:∀b,F b→b<W.heap.size:=fun b n=>EF (hF b n) r.size
  exact j5 F (fc d) (ay d) (qG d) (cB d) (gp d) ju (fun m hm w=>j7 d m hm w) e.kids _ W (Rd.row_below i hF r) o u.1
   (fun t x W2 q k c n y=>j9 d F t q k c W2 y (fun b z=>EF (o b z) n.size) (u.2 t x))
theorem sn(d:Nat)(F:Nat→Prop)(xs:List ag)(v:Value)(w:World)(h:(ay d).row w F xs v)(hF:∀b,F b→b<w.heap.size)(f:xs.length≤20000)(i:∀t∈xs,jg d t):Calls Tryz.prog 118 #[v] w (eS (mW d) xs w):=
 j5 F (fc d) (ay d) (qG d) (cB d) (gp d) ju (fun m hm w=>j7 d m hm w) xs v w h hF f
  (fun t j W2 q k c l a=>j9 d F t q k c W2 a (fun b e=>EF (hF b e) l.size) (i t j))
def kt(d:Nat) (a:aT):Prop:=a.exprs.length≤20000∧∀t∈a.exprs,jg d t
theorem po{d:Nat}(w:World)(F:Nat→Prop)(t:aT)(vs:List Value)(h:(bS d).at_ w F t vs):∃a b e,vs=pn t (.slice a b e):=by
 obtain⟨_,_,_,s,rfl,f⟩:=eB.1 h;obtain⟨q,c,rfl⟩:=Rd.row_shape f;exact⟨_,_,_,rfl⟩
theorem vB(d:Nat)(F:Nat→Prop)(e:aT)(q:Option Addr)(l c:Nat)(w:World)(h:(bS d).at_ w F e (pn e (.slice q l c)))(hF:∀b,F b→b<w.heap.size)(i:kt d e):Calls Tryz.prog 86 #[.agg (pn e (.slice q l c)).toArray] w (fM (o0 d) e w):=by
 obtain⟨k,m,n,s,a,o⟩:=eB.1 h;have f:slice q l c=s:=by injection a with _ a;injection a with _ a;injection a with _ a;injection a
 subst f;exact yU (fc d) (ay d) (marks fw) e q l c w ⟨k,m,n⟩ fun W j=>sn d F e.exprs _ W (Rd.row_below o hF j) (fun b p=>EF (hF b p) j.size) i.1 i.2
theorem tK(d m:Nat)(hm:m<12)(w:World):(bS d).at_ w (fun _=>False) (iD (db m)) (pn (iD (db m)) (slice none 0 0)):=
 eB.2 ⟨(⟨by decide,by decide⟩:U8 0),⟨by show (-9223372036854775808:Int)≤8000024+(m:Int);omega,by show 8000024+(m:Int)<9223372036854775808;omega⟩,(⟨by decide,by decide⟩:I64 0),_,rfl,Rd.row_nil⟩
theorem uu(d:Nat)(F:Nat→Prop)(xs:List aT)(v:Value)(w:World)(h:(bS d).row w F xs v)(hF:∀b,F b→b<w.heap.size)(f:xs.length≤20000)(i:∀t∈xs,kt d t):Calls Tryz.prog 56 #[v] w (eS (pY d) xs w):=
 vh F (o0 d) (bS d) rfl rfl (nE d) po (fun m hm w=>tK d m hm w) xs v w h hF f
  (fun t j W2 q k c l a=>vB d F t q k c W2 a (fun b e=>EF (hF b e) l.size) (i t j))
def wT(a:Rd (List cg)) (b:Rd ag):Rd aC:=(Rd.u8.pair (Rd.int.pair (a.pair b))).as fun c=>(c.kind,c.type,c.args,c.test)
def tG(c:aC):Prop:=U8 c.kind∧I64 c.type
theorem yv{w:World}{F:Nat→Prop}{a:Rd (List cg)}{b:Rd ag}{c:aC}{s:Value}{us:List Value}(d:tG c)(e:a.at_ w F c.args [s])(f:b.at_ w F c.test us):(wT a b).at_ w F c (int .u8 c.kind :: int i64 c.type::s::us):=
 ⟨[_],_,rfl,⟨rfl,d.1⟩,⟨[_],_,rfl,⟨rfl,d.2⟩,⟨[_],_,rfl,e,f⟩⟩⟩
def AQ(rc:Rd (List aC)) (a:Rd (List aT)):Rd aj:=(Rd.str.pair (Rd.int.pair (Rd.int.pair (rc.pair a)))).as fun r=>(r.name,r.sal,r.vars,r.conds,r.acts)
def uA(r:aj):Prop:=r.name.size≤maxLen∧I64 r.sal∧I64 r.vars
theorem AX{w:World}{F:Nat→Prop}{rc:Rd (List aC)}{b:Rd (List aT)}{r:aj}{s t:Value}(a:uA r)(c:rc.at_ w F r.conds [s])(d:b.at_ w F r.acts [t]):(AQ rc b).at_ w F r [.string r.name,int i64 r.sal,int i64 r.vars,s,t]:=
 ⟨[_],_,rfl,⟨rfl,a.1⟩,⟨[_],_,rfl,⟨rfl,a.2.1⟩,⟨[_],_,rfl,⟨rfl,a.2.2⟩,⟨[_],_,rfl,c,d⟩⟩⟩⟩
def xh(rt:Rd (List ai)) (a:Rd (List aj)):Rd cd:=(rt.pair a).as fun r=>(r.types,r.rules)
theorem yd{w:World}{F:Nat→Prop}{rt:Rd (List ai)}{a:Rd (List aj)}{r:cd}{s t:Value}(_:True)(b:rt.at_ w F r.types [s])(c:a.at_ w F r.rules [t]):(xh rt a).at_ w F r [s,t]:=⟨[_],_,rfl,b,c⟩
def lJ(W:World) (g:Nat) (x3 x4 x5 x6 x7 x8 x9:Value):World:=((((((W.setCell ⟨g,3,none⟩ x3).setCell ⟨g,4,none⟩ x4).setCell ⟨g,5,none⟩ x5).setCell ⟨g,6,none⟩ x6).setCell ⟨g,7,none⟩ x7).setCell ⟨g,8,none⟩ x8).setCell ⟨g,9,none⟩ x9
section
variable {w W:World} {g B:Nat} {x0 x1 x2 x3 x4 x5 x6 x7 x8 x9:Value}
theorem CY{a b c d e f i:Value}{t:TypeId}(h:W.heap[g]?=some (.cells #[x0,x1,x2,a,b,c,d,e,f,i] t (0,0))):(lJ W g x3 x4 x5 x6 x7 x8 x9).heap[g]?=some (.cells #[x0,x1,x2,x3,x4,x5,x6,x7,x8,x9] t (0,0)):=by
 have h:=heap_set (heap_set (heap_set (heap_set (heap_set (heap_set (heap_set h 3 x3) 4 x4) 5 x5) 6 x6) 7 x7) 8 x8) 9 x9
 simpa [lJ]using h
theorem xU(b:Below B w W)(a:B≤g):Below B w (lJ W g x3 x4 x5 x6 x7 x8 x9):=((((((b.setCell a _).setCell a _).setCell a _).setCell a _).setCell a _).setCell a _).setCell a _
theorem qf(k:Nat)(h:k≠g):(lJ W g x3 x4 x5 x6 x7 x8 x9).heap[k]?=W.heap[k]?:=by
 unfold lJ
 repeat rw[ED _ _ _ _ h]
theorem Ad:(lJ W g x3 x4 x5 x6 x7 x8 x9).heap.size=W.heap.size:=by simp[lJ,World.setCell]
theorem BS{T:Nat}{t:TypeId}(a:W.heap[T]?=some (.cells #[x0,x1,x2,x3,x4,x5,x6,x7,x8,x9] t (0,0))):W.frozen? ⟨T,0,none⟩=false∧W.frozen? ⟨T,1,none⟩=false∧W.frozen? ⟨T,2,none⟩=false∧W.frozen? ⟨T,3,none⟩=false∧W.frozen? ⟨T,4,none⟩=false∧W.frozen? ⟨T,5,none⟩=false∧W.frozen? ⟨T,6,none⟩=false∧W.frozen? ⟨T,7,none⟩=false∧W.frozen? ⟨T,8,none⟩=false∧W.frozen? ⟨T,9,none⟩=false:=
 ⟨ao a 0,ao a 1,ao a 2,ao a 3,ao a 4,ao a 5,ao a 6,ao a 7,ao a 8,ao a 9⟩
end
theorem ua{W:World}{tmps:Array Value}{R:Ending→World→Prop}{r:Nat}{b c c2 d c4 e f h i j:Value}(l:tmps.getD 2 undef=.pointer (some ⟨r,0,none⟩))(a:W.heap[r]?=some (.cells #[b,c,c2,d,c4,e,f,h,i,j] 52 (0,0)))(m:R (.returned (.agg #[b,c,c2,d,c4,e,f,h,i,j])) W):bodyPost Tryz.prog Tryz.f84 R .ret ⟨tmps,[]⟩ W:=by
 have d0:W.cell? ⟨r,0,none⟩=some b:=by simp[World.cell?,a]
 have d1:W.cell? ⟨r,1,none⟩=some c:=by simp[World.cell?,a]
 have d2:W.cell? ⟨r,2,none⟩=some c2:=by simp[World.cell?,a]
 have d3:W.cell? ⟨r,3,none⟩=some d:=by simp[World.cell?,a]
 have d4:W.cell? ⟨r,4,none⟩=some c4:=by simp[World.cell?,a]
 have d5:W.cell? ⟨r,5,none⟩=some e:=by simp[World.cell?,a]
 have d6:W.cell? ⟨r,6,none⟩=some f:=by simp[World.cell?,a]
 have d7:W.cell? ⟨r,7,none⟩=some h:=by simp[World.cell?,a]
 have d8:W.cell? ⟨r,8,none⟩=some i:=by simp[World.cell?,a]
 have d9:W.cell? ⟨r,9,none⟩=some j:=by simp[World.cell?,a]
 have k:tmps[2]?.getD undef=.pointer (some ⟨r,0,none⟩):=by simpa using l
 refine bodyPost_ret (v:=.agg #[b,c,c2,d,c4,e,f,h,i,j]) ?_ rfl m;simp[results,Tryz.results84,go_sem,k,d0,d1,d2,d3,d4,d5,d6,d7,d8,d9]
theorem v7(A:Rd (List cg))(r2:Rd (ag))(af:∀w F x vs,A.at_ w F x vs→∃q l c,vs=[.slice q l c])(t:∀w F x vs,r2.at_ w F x vs→∃q l c,vs=[int .u8 x.kind,int .u8 x.val.kind,int i64 x.val.num,.string x.val.text,int i64 x.var,int .u8 x.op,.slice q l c])(e:aC)(M:Option Addr)(N O:Nat)(x1:Option Addr)(H I:Nat)(w:World)(hf:tG e)
  (P:∀W,Ft w W→Calls Tryz.prog 116 #[.slice M N O] W (eS A e.args W)) (Q:∀W,Ft w W→Calls Tryz.prog 117 #[.agg #[int .u8 e.test.kind,int .u8 e.test.val.kind,int i64 e.test.val.num,.string e.test.val.text,int i64 e.test.var,int .u8 e.test.op,.slice x1 H I]] W (fM r2 e.test W)) :
  Calls Tryz.prog 84 #[.agg #[int .u8 e.kind,int i64 e.type,.slice M N O,int .u8 e.test.kind,int .u8 e.test.val.kind,int i64 e.test.val.num,.string e.test.val.text,int i64 e.test.var,int .u8 e.test.op,.slice x1 H I]] w (fM (wT A r2) e w):=by
 have J:=bz w (.cells #[int .u8 e.kind,int i64 e.type,.slice M N O,int .u8 e.test.kind,int .u8 e.test.val.kind,int i64 e.test.val.num,.string e.test.val.text,int i64 e.test.var,int .u8 e.test.op,.slice x1 H I] 52) (.cells #[int .u8 0,int i64 0,slice none 0 0,int .u8 0,int .u8 0,int i64 0,string ⟨#[]⟩,int i64 0,int .u8 0,slice none 0 0] 52);obtain⟨X1,X2,_⟩:=am w (.cells #[int .u8 e.kind,int i64 e.type,.slice M N O,int .u8 e.test.kind,int .u8 e.test.val.kind,int i64 e.test.val.num,.string e.test.val.text,int i64 e.test.var,int .u8 e.test.op,.slice x1 H I] 52) (.cells #[int .u8 0,int i64 0,slice none 0 0,int .u8 0,int .u8 0,int i64 0,string ⟨#[]⟩,int i64 0,int .u8 0,slice none 0 0] 52);have ak:=Hd X1;have an:=Hd X2;have HC:=Hd (P _ J);have R:=Hd Q;have aq:=Hd t;have HB:=Hd J;have ar:=Hd hf;obtain⟨a0,a1,a2,a3,a4,a5,u,v,y,a9⟩:=bw X1;clear X1 X2 J P Q hf
 go_enter Tryz.func84,Tryz.ntmps84
 go_wp2_with fail
 refine HC.o.mono ?_;rintro e' W3 ⟨s1,rfl,i,hl⟩;obtain⟨j,k,c2,hs⟩:=af _ _ _ _ hl;injection hs with hs _
 subst hs;have av:((w.alloc (.cells #[int .u8 e.kind,int i64 e.type,.slice M N O,int .u8 e.test.kind,int .u8 e.test.val.kind,int i64 e.test.val.num,.string e.test.val.text,int i64 e.test.var,int .u8 e.test.op,.slice x1 H I] 52)).alloc (.cells #[int .u8 0,int i64 0,slice none 0 0,int .u8 0,int .u8 0,int i64 0,string ⟨#[]⟩,int i64 0,int .u8 0,slice none 0 0] 52)).heap.size=w.heap.size+2:=by simp
 have a:=aa i ak.o (by omega);have S:=aa i an.o (by omega);obtain⟨m,d⟩:=zzx (W3.setCell ⟨w.heap.size,2,none⟩ (.slice j k c2));have C:Hid (Ft w m):=by
  have h:=(HB.o.trans (i.mono HB.o.size)).setCell (p:=⟨w.heap.size,2,none⟩) (EA _) (.slice j k c2);rw[←d]at h;exact h
 have D:Hid (m.heap[w.heap.size]?=some (.cells #[int .u8 e.kind,int i64 e.type,.slice j k c2,int .u8 e.test.kind,int .u8 e.test.val.kind,int i64 e.test.val.num,.string e.test.val.text,int i64 e.test.var,int .u8 e.test.op,.slice x1 H I] 52 (0,0))):=by
  have h:=heap_set a 2 (.slice j k c2);rw[←d]at h;exact h
 have T:Hid (m.heap[w.heap.size+1]?=some (.cells #[int .u8 0,int i64 0,slice none 0 0,int .u8 0,int .u8 0,int i64 0,string ⟨#[]⟩,int i64 0,int .u8 0,slice none 0 0] 52 (0,0))):=by
  have h:=aB S (show w.heap.size≠w.heap.size+1 by omega) 2 (.slice j k c2);rw[←d]at h;exact h
 have U:Hid (m.heap.size=W3.heap.size∧w.heap.size+2≤W3.heap.size):=⟨by rw[d];simp[World.setCell],by have:=i.size;omega⟩;have ba:Hid (A.at_ m (fun b=>w.heap.size+2≤b∧b<m.heap.size) e.args [.slice j k c2]):=A.sub (fun b h=>⟨by have:=h.1;omega,by have:=h.2;have:=U.o.1;omega⟩)
  (A.keep (fun b h o E=>by rw[d];exact aG (by show b≠w.heap.size;have:=h.1;omega) E) hl)
 have V:=Hd (R.o m C.o);clear hl i av R HC;clear a0 a1 a2 a3 a4 a5 u v y a9;obtain⟨a0,a1,a2,a3,a4,a5,u,v,y,a9⟩:=bw a;have f2:=ao a 2;clear a S;go_upto_region 2 with fail
 change Code.wp _ _ _ _ (W3.setCell ⟨w.heap.size,2,none⟩ (.slice j k c2));rw[←d];clear d f2;clear a0 a1 a2 a3 a4 a5 u v y a9;obtain⟨a0,a1,a2,a3,a4,a5,u,v,y,a9⟩:=bw D.o;go_wp2_with fail
 refine V.o.mono ?_;have t:=aq.o;rintro e' K ⟨us,rfl,n,G⟩;obtain⟨x2,L,z2,rfl⟩:=t _ _ _ _ G;have a:=aa n D.o (Ez.1 D.o).1;have S:=aa n T.o (Ez.1 T.o).1;have bb:=Hd (C.o.trans (n.mono C.o.size));have bc:=Hd G;have X:=Hd n;clear n G t V;clear a0 a1 a2 a3 a4 a5 u v y a9;obtain⟨a0,a1,a2,a3,a4,a5,u,v,y,a9⟩:=bw a;obtain⟨z,f⟩:=zzx (lJ K w.heap.size (int .u8 e.test.kind) (int .u8 e.test.val.kind) (int i64 e.test.val.num) (.string e.test.val.text) (int i64 e.test.var) (int .u8 e.test.op) (.slice x2 L z2));have Y:Hid (z.heap[w.heap.size]?=some (.cells #[int .u8 e.kind,int i64 e.type,.slice j k c2,int .u8 e.test.kind,int .u8 e.test.val.kind,int i64 e.test.val.num,.string e.test.val.text,int i64 e.test.var,int .u8 e.test.op,.slice x2 L z2] 52 (0,0))):=by show _=_;rw[f];exact CY a
 have s:Hid (z.heap[w.heap.size+1]?=some (.cells #[int .u8 0,int i64 0,slice none 0 0,int .u8 0,int .u8 0,int i64 0,string ⟨#[]⟩,int i64 0,int .u8 0,slice none 0 0] 52 (0,0))):=by show _=_;rw[f,qf _ (by omega)];exact S
 have bd:Hid (Ft w z):=by show Below _ _ _;rw[f];exact xU bb.o (EA _)
 have bk:Hid (z.heap.size=K.heap.size):=by show _=_;rw[f];exact Ad
 have bl:Hid (∀b,w.heap.size+2≤b→z.heap[b]?=K.heap[b]?):=fun b J=>by rw[f];exact qf b (by omega)
 have f3:=ao a 3;have f4:=ao a 4;have f5:=ao a 5;have f6:=ao a 6;have f7:=ao a 7;have f8:=ao a 8;have f9:=ao a 9;clear a S;go_upto_region 3 with fail
 change Code.wp _ _ _ _ (lJ K w.heap.size (int .u8 e.test.kind) (int .u8 e.test.val.kind) (int i64 e.test.val.num) (.string e.test.val.text) (int i64 e.test.var) (int .u8 e.test.op) (.slice x2 L z2));rw[←f];clear f a0 a1 a2 a3 a4 a5 u v y a9 f3 f4 f5 f6 f7 f8 f9;obtain⟨a0,a1,a2,a3,a4,a5,u,v,y,a9⟩:=bw Y.o;obtain⟨b0,b1,b2,b3,b4,b5,b6,b7,b8,b9⟩:=bw s.o;obtain⟨g0,g1,g2,g3,g4,g5,g6,g7,g8,g9⟩:=BS s.o;go_wp2_with fail
 clear a0 a1 a2 a3 a4 a5 u v y a9 b0 b1 b2 b3 b4 b5 b6 b7 b8 b9 g0 g1 g2 g3 g4 g5 g6 g7 g8 g9;change bodyPost _ _ _ _ _ (kR z (w.heap.size+1) (int .u8 e.kind) (int i64 e.type) (.slice j k c2) (int .u8 e.test.kind) (int .u8 e.test.val.kind) (int i64 e.test.val.num) (.string e.test.val.text) (int i64 e.test.var) (int .u8 e.test.op) (.slice x2 L z2));refine ua (r:=w.heap.size+1) (by rfl) (wJ _ _ _ _ _ _ _ _ _ _ s.o) ?_;have bn:=X.o.size;have hZ:=U.o;have Z:=bk.o;have ad:∀b,w.heap.size+2≤b→∀o,K.heap[b]?=some o→(kR z (w.heap.size+1) (int .u8 e.kind) (int i64 e.type) (.slice j k c2) (int .u8 e.test.kind) (int .u8 e.test.val.kind) (int i64 e.test.val.num) (.string e.test.val.text) (int i64 e.test.var) (int .u8 e.test.op) (.slice x2 L z2)).heap[b]?=some o:=fun b J o E=>by rw[lS _ _ _ _ _ _ _ _ _ _ b (by omega),bl.o b J];exact E
 refine⟨[int .u8 e.kind,int i64 e.type,.slice j k c2,int .u8 e.test.kind,int .u8 e.test.val.kind,int i64 e.test.val.num,.string e.test.val.text,int i64 e.test.var,int .u8 e.test.op,.slice x2 L z2],rfl,qu _ _ _ _ _ _ _ _ _ _ bd.o (EV _),yv ar.o
  (A.sub (fun b (h:w.heap.size+2≤b∧b<m.heap.size)=>⟨by have:=h.1;omega,by rw[mw,Z];have:=h.2;omega⟩) (A.keep (fun b h o E=>ad b h.1 o ((X.o.block b h.2).trans E)) ba.o))
  (r2.sub (fun b (h:m.heap.size≤b∧b<K.heap.size)=>⟨by have:=h.1;omega,by rw[mw,Z];exact h.2⟩) (r2.keep (fun b h o E=>ad b (by have:=h.1;omega) o E) bc.o))⟩
theorem ud{W:World}{tmps:Array Value}{R:Ending→World→Prop}{r:Nat}{b c c2 d c4:Value}(f:tmps.getD 2 undef=.pointer (some ⟨r,0,none⟩))(a:W.heap[r]?=some (.cells #[b,c,c2,d,c4] 38 (0,0)))(h:R (.returned (.agg #[b,c,c2,d,c4])) W):bodyPost Tryz.prog Tryz.f26 R .ret ⟨tmps,[]⟩ W:=by
 have d0:W.cell? ⟨r,0,none⟩=some b:=by simp[World.cell?,a]
 have d1:W.cell? ⟨r,1,none⟩=some c:=by simp[World.cell?,a]
 have d2:W.cell? ⟨r,2,none⟩=some c2:=by simp[World.cell?,a]
 have d3:W.cell? ⟨r,3,none⟩=some d:=by simp[World.cell?,a]
 have d4:W.cell? ⟨r,4,none⟩=some c4:=by simp[World.cell?,a]
 have e:tmps[2]?.getD undef=.pointer (some ⟨r,0,none⟩):=by simpa using f
 refine bodyPost_ret (v:=.agg #[b,c,c2,d,c4]) ?_ rfl h;simp[results,Tryz.results26,go_sem,e,d0,d1,d2,d3,d4]
theorem vp(m:Rd (List aC))(r2:Rd (List aT))(X:∀w F x vs,m.at_ w F x vs→∃q l c,vs=[.slice q l c])(n:∀w F x vs,r2.at_ w F x vs→∃q l c,vs=[.slice q l c])(e:aj)(I:Option Addr)(J K:Nat)(x1:Option Addr)(E H:Nat)(w:World)(hf:uA e)
  (L:∀W,Ft w W→Calls Tryz.prog 55 #[.slice I J K] W (eS m e.conds W)) (M:∀W,Ft w W→Calls Tryz.prog 56 #[.slice x1 E H] W (eS r2 e.acts W)) :
  Calls Tryz.prog 26 #[.agg #[.string e.name,int i64 e.sal,int i64 e.vars,.slice I J K,.slice x1 E H]] w (fM (AQ m r2) e w):=by
 have Y:=bz w (.cells #[.string e.name,int i64 e.sal,int i64 e.vars,.slice I J K,.slice x1 E H] 38) (.cells #[string ⟨#[]⟩,int i64 0,int i64 0,slice none 0 0,slice none 0 0] 38);obtain⟨Z,X2,_⟩:=am w (.cells #[.string e.name,int i64 e.sal,int i64 e.vars,.slice I J K,.slice x1 E H] 38) (.cells #[string ⟨#[]⟩,int i64 0,int i64 0,slice none 0 0,slice none 0 0] 38);have ad:=Hd Z;have af:=Hd X2;have HC:=Hd (L _ Y);have N:=Hd M;have ak:=Hd n;have HB:=Hd Y;have an:=Hd hf;obtain⟨a0,a1,a2,a3,a4⟩:=cells5 Z;clear Z X2 Y L M hf
 go_enter Tryz.func26,Tryz.ntmps26
 go_wp2_with fail
 refine HC.o.mono ?_;rintro e' V ⟨s1,rfl,i,hl⟩;obtain⟨d,f,c2,y⟩:=X _ _ _ _ hl;injection y with y _
 subst y;have aq:((w.alloc (.cells #[.string e.name,int i64 e.sal,int i64 e.vars,.slice I J K,.slice x1 E H] 38)).alloc (.cells #[string ⟨#[]⟩,int i64 0,int i64 0,slice none 0 0,slice none 0 0] 38)).heap.size=w.heap.size+2:=by simp
 have u:=aa i ad.o (by omega);have j:=aa i af.o (by omega);obtain⟨s,a⟩:=zzx (V.setCell ⟨w.heap.size,3,none⟩ (.slice d f c2));have z:Hid (Ft w s):=by
  have h:=(HB.o.trans (i.mono HB.o.size)).setCell (p:=⟨w.heap.size,3,none⟩) (EA _) (.slice d f c2);rw[←a]at h;exact h
 have A:Hid (s.heap[w.heap.size]?=some (.cells #[.string e.name,int i64 e.sal,int i64 e.vars,.slice d f c2,.slice x1 E H] 38 (0,0))):=by
  have h:=heap_set u 3 (.slice d f c2);rw[←a]at h;exact h
 have O:Hid (s.heap[w.heap.size+1]?=some (.cells #[string ⟨#[]⟩,int i64 0,int i64 0,slice none 0 0,slice none 0 0] 38 (0,0))):=by
  have h:=aB j (show w.heap.size≠w.heap.size+1 by omega) 3 (.slice d f c2);rw[←a]at h;exact h
 have P:Hid (s.heap.size=V.heap.size∧w.heap.size+2≤V.heap.size):=⟨by rw[a];simp[World.setCell],by have:=i.size;omega⟩;have ar:Hid (m.at_ s (fun b=>w.heap.size+2≤b∧b<s.heap.size) e.conds [.slice d f c2]):=m.sub (fun b h=>⟨by have:=h.1;omega,by have:=h.2;have:=P.o.1;omega⟩)
  (m.keep (fun b h o Q=>by rw[a];exact aG (by show b≠w.heap.size;have:=h.1;omega) Q) hl)
 have R:=Hd (N.o s z.o);clear hl i aq N HC;clear a0 a1 a2 a3 a4;obtain⟨a0,a1,a2,a3,a4⟩:=cells5 u;have f3:=ao u 3;clear u j;go_upto_region 2 with fail
 change Code.wp _ _ _ _ (V.setCell ⟨w.heap.size,3,none⟩ (.slice d f c2));rw[←a];clear a f3;clear a0 a1 a2 a3 a4;obtain⟨a0,a1,a2,a3,a4⟩:=cells5 A.o;go_wp2_with fail
 refine R.o.mono ?_;have n:=ak.o;rintro e' C ⟨s2,rfl,k,D⟩;obtain⟨x2,t,z2,y⟩:=n _ _ _ _ D;injection y with y _
 subst y;have u:=aa k A.o (Ez.1 A.o).1;have j:=aa k O.o (Ez.1 O.o).1;have av:=Hd (z.o.trans (k.mono z.o.size));have a6:=Hd D;have S:=Hd k;clear k D n R;clear a0 a1 a2 a3 a4;obtain⟨a0,a1,a2,a3,a4⟩:=cells5 u;have f4:=ao u 4;obtain⟨b0,b1,b2,b3,b4⟩:=cells5 j;have g0:=ao j 0;have g1:=ao j 1;have g2:=ao j 2;have g3:=ao j 3;have g4:=ao j 4;have H2:=Hd j;clear u j;go_wp2_with fail
 clear a0 a1 a2 a3 a4 f4;have HS:=Hd (show Ft w ((((((C.setCell ⟨w.heap.size,4,none⟩ (.slice x2 t z2)).setCell ⟨w.heap.size+1,0,none⟩ (.string e.name)).setCell ⟨w.heap.size+1,1,none⟩ (int i64 e.sal)).setCell ⟨w.heap.size+1,2,none⟩ (int i64 e.vars)).setCell ⟨w.heap.size+1,3,none⟩ (.slice d f c2)).setCell ⟨w.heap.size+1,4,none⟩ (.slice x2 t z2)) from ((((((av.o).setCell (EA _) _).setCell (EV _) _).setCell (EV _) _).setCell (EV _) _).setCell (EV _) _).setCell (EV _) _);clear b0 b1 b2 b3 b4 g0 g1 g2 g3 g4;have a7:w.heap.size≠w.heap.size+1:=by omega
 have hZ:=P.o;have a8:=S.o.size;have ba:=m.sub (G:=fun b=>w.heap.size+2≤b∧b<C.heap.size) (fun b h=>⟨h.1,EF h.2 a8⟩) (m.keep (fun b h o Q=>(S.o.block b h.2).trans Q) ar.o);have v:((((((C.setCell ⟨w.heap.size,4,none⟩ (.slice x2 t z2)).setCell ⟨w.heap.size+1,0,none⟩ (.string e.name)).setCell ⟨w.heap.size+1,1,none⟩ (int i64 e.sal)).setCell ⟨w.heap.size+1,2,none⟩ (int i64 e.vars)).setCell ⟨w.heap.size+1,3,none⟩ (.slice d f c2)).setCell ⟨w.heap.size+1,4,none⟩ (.slice x2 t z2)).heap[w.heap.size+1]?=some (.cells _ 38 (0,0)):=heap_set (heap_set (heap_set (heap_set (heap_set (aB (H2.o) a7 _ _) 0 _) 1 _) 2 _) 3 _) 4 _;simp only[EC,EI,EH]at v;refine ud (r:=w.heap.size+1) (by rfl) v ?_;have T:∀b,w.heap.size+2≤b→∀o,C.heap[b]?=some o→((((((C.setCell ⟨w.heap.size,4,none⟩ (.slice x2 t z2)).setCell ⟨w.heap.size+1,0,none⟩ (.string e.name)).setCell ⟨w.heap.size+1,1,none⟩ (int i64 e.sal)).setCell ⟨w.heap.size+1,2,none⟩ (int i64 e.vars)).setCell ⟨w.heap.size+1,3,none⟩ (.slice d f c2)).setCell ⟨w.heap.size+1,4,none⟩ (.slice x2 t z2)).heap[b]?=some o:=fun b h3 o Q=>aG (by show b≠w.heap.size+1;omega) (aG (by show b≠w.heap.size+1;omega) (aG (by show b≠w.heap.size+1;omega) (aG (by show b≠w.heap.size+1;omega) (aG (by show b≠w.heap.size+1;omega) (aG (by show b≠w.heap.size;omega) (Q))))))
 have U:((((((C.setCell ⟨w.heap.size,4,none⟩ (.slice x2 t z2)).setCell ⟨w.heap.size+1,0,none⟩ (.string e.name)).setCell ⟨w.heap.size+1,1,none⟩ (int i64 e.sal)).setCell ⟨w.heap.size+1,2,none⟩ (int i64 e.vars)).setCell ⟨w.heap.size+1,3,none⟩ (.slice d f c2)).setCell ⟨w.heap.size+1,4,none⟩ (.slice x2 t z2)).heap.size=C.heap.size:=by simp[World.setCell]
 refine⟨[.string e.name,int i64 e.sal,int i64 e.vars,.slice d f c2,.slice x2 t z2],rfl,HS.o,AX an.o (m.sub (fun b h=>⟨by have:=h.1;omega,by rw[U];exact h.2⟩) (m.keep (fun b h=>T b h.1) ba)) (r2.sub (fun b h=>⟨by have:=h.1;omega,by rw[U];exact h.2⟩) (r2.keep (fun b h=>T b (by have:=h.1;omega)) a6.o))⟩
theorem sC{W:World}{tmps:Array Value}{R:Ending→World→Prop}{r:Nat}{a b:Value}(e:tmps.getD 2 undef=.pointer (some ⟨r,0,none⟩))(d:W.heap[r]?=some (.cells #[a,b] 25 (0,0)))(f:R (.returned (.agg #[a,b])) W):bodyPost Tryz.prog Tryz.f6 R .ret ⟨tmps,[]⟩ W:=by
 have d0:W.cell? ⟨r,0,none⟩=some a:=by simp[World.cell?,d]
 have d1:W.cell? ⟨r,1,none⟩=some b:=by simp[World.cell?,d]
 have c:tmps[2]?.getD undef=.pointer (some ⟨r,0,none⟩):=by simpa using e
 refine bodyPost_ret (v:=.agg #[a,b]) ?_ rfl f;simp[results,Tryz.results6,go_sem,c,d0,d1]
theorem te(k:Rd (List ai))(r2:Rd (List aj))(X:∀w F x vs,k.at_ w F x vs→∃q l c,vs=[.slice q l c])(m:∀w F x vs,r2.at_ w F x vs→∃q l c,vs=[.slice q l c])(e:cd)(I:Option Addr)(J K:Nat)(x1:Option Addr)(E H:Nat)(w:World)(hf:True)
  (L:∀W,Ft w W→Calls Tryz.prog 12 #[.slice I J K] W (eS k e.types W)) (M:∀W,Ft w W→Calls Tryz.prog 13 #[.slice x1 E H] W (eS r2 e.rules W)) :
  Calls Tryz.prog 6 #[.agg #[.slice I J K,.slice x1 E H]] w (fM (xh k r2) e w):=by
 have Y:=bz w (.cells #[.slice I J K,.slice x1 E H] 25) (.cells #[slice none 0 0,slice none 0 0] 25);obtain⟨Z,X2,_⟩:=am w (.cells #[.slice I J K,.slice x1 E H] 25) (.cells #[slice none 0 0,slice none 0 0] 25);have ad:=Hd Z;have af:=Hd X2;have HC:=Hd (L _ Y);have N:=Hd M;have ak:=Hd m;have HB:=Hd Y;have an:=Hd hf;obtain⟨a0,a1⟩:=cells2 Z;clear Z X2 Y L M hf
 go_enter Tryz.func6,Tryz.ntmps6
 go_wp2_with fail
 refine HC.o.mono ?_;rintro e' V ⟨s1,rfl,i,hl⟩;obtain⟨d,f,c2,y⟩:=X _ _ _ _ hl;injection y with y _
 subst y;have aq:((w.alloc (.cells #[.slice I J K,.slice x1 E H] 25)).alloc (.cells #[slice none 0 0,slice none 0 0] 25)).heap.size=w.heap.size+2:=by simp
 have t:=aa i ad.o (by omega);have u:=aa i af.o (by omega);obtain⟨n,a⟩:=zzx (V.setCell ⟨w.heap.size,0,none⟩ (.slice d f c2));have z:Hid (Ft w n):=by
  have h:=(HB.o.trans (i.mono HB.o.size)).setCell (p:=⟨w.heap.size,0,none⟩) (EA _) (.slice d f c2);rw[←a]at h;exact h
 have A:Hid (n.heap[w.heap.size]?=some (.cells #[.slice d f c2,.slice x1 E H] 25 (0,0))):=by
  have h:=heap_set t 0 (.slice d f c2);rw[←a]at h;exact h
 have O:Hid (n.heap[w.heap.size+1]?=some (.cells #[slice none 0 0,slice none 0 0] 25 (0,0))):=by
  have h:=aB u (show w.heap.size≠w.heap.size+1 by omega) 0 (.slice d f c2);rw[←a]at h;exact h
 have P:Hid (n.heap.size=V.heap.size∧w.heap.size+2≤V.heap.size):=⟨by rw[a];simp[World.setCell],by have:=i.size;omega⟩;have ar:Hid (k.at_ n (fun b=>w.heap.size+2≤b∧b<n.heap.size) e.types [.slice d f c2]):=k.sub (fun b h=>⟨by have:=h.1;omega,by have:=h.2;have:=P.o.1;omega⟩)
  (k.keep (fun b h o Q=>by rw[a];exact aG (by show b≠w.heap.size;have:=h.1;omega) Q) hl)
 have R:=Hd (N.o n z.o);clear hl i aq N HC;clear a0 a1;obtain⟨a0,a1⟩:=cells2 t;have f0:=ao t 0;clear t u;go_upto_region 2 with fail
 change Code.wp _ _ _ _ (V.setCell ⟨w.heap.size,0,none⟩ (.slice d f c2));rw[←a];clear a f0;clear a0 a1;obtain⟨a0,a1⟩:=cells2 A.o;go_wp2_with fail
 refine R.o.mono ?_;have m:=ak.o;rintro e' C ⟨s2,rfl,j,D⟩;obtain⟨x2,s,z2,y⟩:=m _ _ _ _ D;injection y with y _
 subst y;have t:=aa j A.o (Ez.1 A.o).1;have u:=aa j O.o (Ez.1 O.o).1;have av:=Hd (z.o.trans (j.mono z.o.size));have a6:=Hd D;have S:=Hd j;clear j D m R;clear a0 a1;obtain⟨a0,a1⟩:=cells2 t;have f1:=ao t 1;obtain⟨b0,b1⟩:=cells2 u;have g0:=ao u 0;have g1:=ao u 1;have H2:=Hd u;clear t u;go_wp2_with fail
 clear a0 a1 f1;have HS:=Hd (show Ft w (((C.setCell ⟨w.heap.size,1,none⟩ (.slice x2 s z2)).setCell ⟨w.heap.size+1,0,none⟩ (.slice d f c2)).setCell ⟨w.heap.size+1,1,none⟩ (.slice x2 s z2)) from (((av.o).setCell (EA _) _).setCell (EV _) _).setCell (EV _) _);clear b0 b1 g0 g1;have a7:w.heap.size≠w.heap.size+1:=by omega
 have hZ:=P.o;have a8:=S.o.size;have ba:=k.sub (G:=fun b=>w.heap.size+2≤b∧b<C.heap.size) (fun b h=>⟨h.1,EF h.2 a8⟩) (k.keep (fun b h o Q=>(S.o.block b h.2).trans Q) ar.o);have v:(((C.setCell ⟨w.heap.size,1,none⟩ (.slice x2 s z2)).setCell ⟨w.heap.size+1,0,none⟩ (.slice d f c2)).setCell ⟨w.heap.size+1,1,none⟩ (.slice x2 s z2)).heap[w.heap.size+1]?=some (.cells _ 25 (0,0)):=heap_set (heap_set (aB (H2.o) a7 _ _) 0 _) 1 _;simp only[EC,EI,EH]at v;refine sC (r:=w.heap.size+1) (by rfl) v ?_;have T:∀b,w.heap.size+2≤b→∀o,C.heap[b]?=some o→(((C.setCell ⟨w.heap.size,1,none⟩ (.slice x2 s z2)).setCell ⟨w.heap.size+1,0,none⟩ (.slice d f c2)).setCell ⟨w.heap.size+1,1,none⟩ (.slice x2 s z2)).heap[b]?=some o:=fun b h3 o Q=>aG (by show b≠w.heap.size+1;omega) (aG (by show b≠w.heap.size+1;omega) (aG (by show b≠w.heap.size;omega) (Q)))
 have U:(((C.setCell ⟨w.heap.size,1,none⟩ (.slice x2 s z2)).setCell ⟨w.heap.size+1,0,none⟩ (.slice d f c2)).setCell ⟨w.heap.size+1,1,none⟩ (.slice x2 s z2)).heap.size=C.heap.size:=by simp[World.setCell]
 refine⟨[.slice d f c2,.slice x2 s z2],rfl,HS.o,yd an.o (k.sub (fun b h=>⟨by have:=h.1;omega,by rw[U];exact h.2⟩) (k.keep (fun b h=>T b h.1) ba)) (r2.sub (fun b h=>⟨by have:=h.1;omega,by rw[U];exact h.2⟩) (r2.keep (fun b h=>T b (by have:=h.1;omega)) a6.o))⟩
def nj:Nat→List ag→Prop
 | 0,l=>l.length≤20000
 | d+1,l=>l.length≤20000∧∀x∈l,nj d x.kids
theorem oZ:∀(d:Nat) (e:ag),nj d e.kids→jg d e
 | 0,_,h=>h
 | d+1,_e,h=>⟨h.1,fun k a=>oZ d k (h.2 k a)⟩
def Da(d:Nat) (l:List ag) (a:Int) (w:World) (e:Ending) (w':World):Prop:=
 ∃r:Int,e=.returned (int i64 r)∧0≤r∧r≤a+1∧(r≤a→nj d l)∧Ft w w'
def pm(d:Nat):Prop:=∀(l:List ag) (v:Value) (w:World) (a:Int),cu w (fun b=>b<w.heap.size) d l v→-1≤a→a≤9000→Calls Tryz.prog 11 #[v,int i64 a] w (Da d l a w)
def Ea(w:World) (d:Nat) (l:List ag) (a:Int) (n:Nat) (c i:Value) (W:World):Prop:=
 ∃(e:World) (k:Nat) (b:Int),e=W∧k≤n∧c=int i64 b∧i=int i64 k∧(k:Int)≤b∧b≤a+1∧(b≤a→∀x∈l.take k,nj (d-1) x.kids)∧Ft w e
theorem CX{d:Nat}{l:List ag}{a b:Int}(c:d=0→l=[])(f:(l.length:Int)≤b)(i:a≤9000)(h:b≤a→∀x∈l,nj (d-1) x.kids)(e:b≤a):nj d l:=by
 cases d with
 | zero=>show l.length≤20000;rw[c rfl];exact EM _
 | succ d=>exact⟨by omega,h e⟩
theorem qi(d:Nat)(U:∀d',d=d'+1→pm d'):pm d:=by
 intro l v w a f h0 Z;have t:∀W,Ft w W→∀(i:Nat) (x:ag),l[i]?=some x→∃(b off cap:Nat) (s:Value),v=slice (some ⟨b,off,none⟩) l.length cap∧W.cell? ⟨b,off+i*7+6,none⟩=some s∧∃d',d=d'+1∧cu W (fun b=>b<W.heap.size) d' x.kids s:=by
  intro W O i x m
  cases d with
  | zero=>rw[f.1]at m;cases m
  | succ d =>
   have hr:(ay d).row w (fun b=>b<w.heap.size) l v:=f;obtain⟨b,off,cap,vs,M,_,_,E,_,P,j⟩:=Rd.row_at hr m;obtain⟨_,s,rfl,V⟩:=bZ.1 P;rw[cB]at j;refine⟨b,off,cap,s,M,(O.cell (p:=⟨b,off+i*7+6,none⟩) E).trans (j 6 _ rfl),d,rfl,?_⟩;exact eh (fun b (E:b<w.heap.size)=>EF E O.size) (ea (fun b q o ho=>(O.block b q).trans ho) V)
 have A:d=0→l=[]:=fun e=>by subst e;exact f.1
 obtain⟨p,c,M⟩:=aI f;have C:l.length≤maxLen:=by
  cases d with
  | zero=>rw[A rfl];exact EM _
  | succ d=>exact Rd.row_len (r:=ay d) f
 obtain⟨n,Q⟩:=zzy (l.length);rw[Q]at M C;have ad:(n:Int)≤9223372036854775807:=by unfold maxLen at C;omega
 subst M;have HK:=Hd t;have HD:=Hd A;have H:=Hd Q;have HI:=Hd U;clear f t A Q C U
 go_enter Tryz.func11,Tryz.ntmps11
 go_wp2
 go_loopw [5,6] (Ea w d l a n) (fun _ i _=>n-(intOf i).toNat)
 case atStart=>exact⟨_,0,0,rfl,EM _,rfl,rfl,by omega,by omega,(fun _ x m=>by cases m),EB _ _⟩
 case round =>
  obtain⟨X,k,F,rfl,V,rfl,rfl,R,af,u,E⟩:=hrel;have ak:(0:Int)≤k:=by omega
  have Y:=Hd u;have I:=Hd E;clear u E
  by_cases J:k<n
  ·have an:(k:Int)<n:=by omega
   by_cases hle:F≤a
   ·obtain⟨x,m⟩:∃x,l[k]?=some x:=⟨l[k]'(by rw[H.o];exact J),EE (by rw[H.o];exact J)⟩;obtain⟨b,off,cap,s,K,j,d',D,L⟩:=HK.o X I.o k x m;rw[H.o]at K;injection K with e1 _ e3
    subst e1;subst e3;have HC:=Hd (HI.o d' D x.kids s X (a-F-1) L (by omega) (by omega));have HT:Hid (l.take (k+1)=l.take k++[x]):=by show _=_;rw[Fg,m];rfl
    have S:=Hd D;clear m L D;go_wp2_with fail
    refine HC.o.mono ?_;rintro e W3 ⟨r,rfl,aq,ar,z,q⟩;have HF:=Hd z;have T:=Hd (I.o.trans (q.mono I.o.size));clear z q j;go_wp2_with fail
    refine⟨⟨_,k+1,F+1+r,rfl,by omega,rfl,by go_num,by omega,by omega,fun N y G=>?_,T.o⟩,by simp[intOf];omega⟩;rw[HT.o,List.mem_append]at G;rcases G with G|G
    ·exact Y.o (by omega) y G
    ·obtain rfl:=List.mem_singleton.1 G;rw[S.o];exact HF.o (by omega)
   ·have av:decide (F≤a)=false:=oc hle;have hm:F=a+1:=by omega
    go_wp2_with fail
    go_ret;exact⟨a+1,by first|rfl|(simp;done)|(simp;omega),by omega,by omega,fun h=>by omega,I.o⟩
  ·obtain rfl:k=n:=by omega
   have HE:=Hd (fun N=>CX HD.o (by rw[H.o];exact R) Z (fun N x m=>Y.o N x (by rw[ER (by rw[H.o];exact EA _)];exact m)) N);go_wp2_with fail
   go_ret;exact⟨F,by first|rfl|(simp;done)|(simp;omega),by omega,by omega,HE.o,I.o⟩
theorem kS:∀d,pm d
 | 0=>qi 0 (fun d' h=>by omega)
 | d+1=>qi (d+1) (fun d' h=>by
  obtain rfl:d'=d:=by omega
  exact kS d')
def jY(d:Nat) (c:aC):Prop:=c.args.length≤20000∧jg d c.test
def kh(d:Nat) (r:aj):Prop:=r.conds.length≤20000∧r.acts.length≤20000∧(∀c∈r.conds,jY d c)∧∀a∈r.acts,kt d a
def qq(d:Nat) (R:cd):Prop:=R.types.length≤20000∧R.rules.length≤20000∧∀r∈R.rules,kh d r
theorem lj{α:Type}{a r:Rd α}{ms:List α}(w:World)(F:Nat→Prop)(x:List α)(vs:List Value)(h:(bJ a r ms).at_ w F x vs):∃q l c,vs=[.slice q l c]:=by
 obtain⟨g,rfl,_⟩:=h;exact⟨_,_,_,rfl⟩
theorem sW:∀{d:Nat} {w:World} {F:Nat→Prop} {e:ag} {vs:List Value},(fc d).at_ w F e vs→∃s,vs=bF e s∧ep e∧∃q l c,s=.slice q l c
 | d,w,F,e,vs,h=>by
  obtain⟨a,s,rfl,b⟩:=bZ.1 (gp d w F e vs h);obtain⟨p,c,rfl⟩:=aI b;exact⟨_,rfl,a,_,_,_,rfl⟩
theorem uv{d:Nat}(w:World)(F:Nat→Prop)(x:ag)(vs:List Value)(h:(fc d).at_ w F x vs):∃q l c,vs=[int .u8 x.kind,int .u8 x.val.kind,int i64 x.val.num,.string x.val.text,int i64 x.var,int .u8 x.op,.slice q l c]:=by
 obtain⟨s,rfl,_,q,l,c,rfl⟩:=sW h;exact⟨q,l,c,rfl⟩
theorem mY{d:Nat}(w:World)(F:Nat→Prop)(t:aC)(vs:List Value)(h:(bp d).at_ w F t vs):∃a b e x1 f i,vs=[int .u8 t.kind,int i64 t.type,.slice a b e,int .u8 t.test.kind,int .u8 t.test.val.kind,int i64 t.test.val.num,.string t.test.val.text,int i64 t.test.var,int .u8 t.test.op,.slice x1 f i]:=by
 obtain⟨_,_,_,l,s,rfl,j,k⟩:=dq.1 h;obtain⟨p,c,rfl⟩:=Rd.row_shape j;obtain⟨q,z,rfl⟩:=aI k;exact⟨_,_,_,_,_,_,rfl⟩
theorem mz{d:Nat}(w:World)(F:Nat→Prop)(t:aj)(vs:List Value)(h:(bh d).at_ w F t vs):∃a b e x1 f i,vs=[.string t.name,int i64 t.sal,int i64 t.vars,.slice a b e,.slice x1 f i]:=by
 obtain⟨_,_,_,l,m,rfl,j,k⟩:=dY.1 h;obtain⟨p,c,rfl⟩:=Rd.row_shape j;obtain⟨q,z,rfl⟩:=Rd.row_shape k;exact⟨_,_,_,_,_,_,rfl⟩
theorem six{a b c d e f g j b' k d' l m i:Value}(h:[a,b,c,d,e,f,g]=[j,b',k,d',l,m,i]):g=i:=by injection h with _ h;injection h with _ h;injection h with _ h;injection h with _ h;injection h with _ h;injection h with _ h;injection h
theorem uC(d:Nat)(F:Nat→Prop)(e:aC)(j:Option Addr)(k l:Nat)(x1:Option Addr)(f i:Nat)(w:World)
  (h:(bp d).at_ w F e [int .u8 e.kind,int i64 e.type,.slice j k l,int .u8 e.test.kind,int .u8 e.test.val.kind,int i64 e.test.val.num,.string e.test.val.text,int i64 e.test.var,int .u8 e.test.op,.slice x1 f i]) (hF:∀b,F b→b<w.heap.size) (p:jY d e) :
  Calls Tryz.prog 84 #[.agg #[int .u8 e.kind,int i64 e.type,.slice j k l,int .u8 e.test.kind,int .u8 e.test.val.kind,int i64 e.test.val.num,.string e.test.val.text,int i64 e.test.var,int .u8 e.test.op,.slice x1 f i]] w (fM (km d) e w):=by
 obtain⟨q,r,t,u,s,a,v,x⟩:=dq.1 h;have y:slice j k l=u:=by injection a with _ a;injection a with _ a;injection a
 have z:slice x1 f i=s:=by injection a with _ a;injection a with _ a;injection a with _ a;exact six a
 subst y;subst z;have m:∀W,Ft w W→∀b,F b→b<W.heap.size:=fun W c b n=>EF (hF b n) c.size
 exact v7 pG (fc d) lj uv e j k l x1 f i w ⟨q,r⟩
  (fun W c=>uk F e.args _ W (Rd.row_below v hF c) p.1)
  (fun W c=>j9 d F e.test x1 f i W (bZ.2 ⟨t,_,rfl,ea (fun b n o A=>(c.block b (hF b n)).trans A) x⟩) (m W c) p.2)
theorem tC(d m:Nat)(hm:m<12)(w:World):(bp d).at_ w (fun _=>False) (jn (db m)) [int .u8 0,int i64 (8000024+(m:Int)),slice none 0 0,int .u8 0,int .u8 0,int i64 0,string ⟨#[]⟩,int i64 0,int .u8 0,slice none 0 0]:=by
 have b:I64 (8000024+(m:Int)):=⟨by omega,by omega⟩;have a:I64 0:=⟨by decide,by decide⟩;have hu:U8 0:=⟨by decide,by decide⟩;have c:(⟨#[]⟩:ByteArray).size≤maxLen:=by decide
 refine dq.2 ⟨hu,b,⟨hu,⟨hu,a,c⟩,a,hu⟩,_,_,rfl,Rd.row_nil,?_⟩
 cases d with
 | zero=>exact⟨rfl,none,0,rfl⟩
 | succ d=>exact Rd.row_nil
theorem sH(d:Nat)(F:Nat→Prop)(xs:List aC)(v:Value)(w:World)(h:(bp d).row w F xs v)(hF:∀b,F b→b<w.heap.size)(f:xs.length≤20000)(i:∀t∈xs,jY d t):Calls Tryz.prog 55 #[v] w (eS (nb d) xs w):=
 uR F (km d) (bp d) (by show 1+(1+(1+(fc d).n))=10;rw[qG]) (jp d) (lz d) mY (fun m hm w=>tC d m hm w) xs v w h hF f
  (fun t j W2 q l c x y z k a=>uC d F t q l c x y z W2 a (fun b e=>EF (hF b e) k.size) (i t j))
theorem tt(d:Nat)(F:Nat→Prop)(e:aj)(i:Option Addr)(j k:Nat)(x1:Option Addr)(l m:Nat)(w:World)(h:(bh d).at_ w F e [.string e.name,int i64 e.sal,int i64 e.vars,.slice i j k,.slice x1 l m])(hF:∀b,F b→b<w.heap.size)(n:kh d e) :
  Calls Tryz.prog 26 #[.agg #[.string e.name,int i64 e.sal,int i64 e.vars,.slice i j k,.slice x1 l m]] w (fM (lu d) e w):=by
 obtain⟨p,q,r,s,t,a,o,has⟩:=dY.1 h;have u:slice i j k=s:=by injection a with _ a;injection a with _ a;injection a with _ a;injection a
 have v:slice x1 l m=t:=by injection a with _ a;injection a with _ a;injection a with _ a;injection a with _ a;injection a
 subst u;subst v;have f:∀W,Ft w W→∀b,F b→b<W.heap.size:=fun W c b x=>EF (hF b x) c.size
 exact vp (nb d) (pY d) lj lj e i j k x1 l m w ⟨p,q,r⟩
  (fun W c=>sH d F e.conds _ W (Rd.row_below o hF c) (f W c) n.1 n.2.2.1)
  (fun W c=>uu d F e.acts _ W (Rd.row_below has hF c) (f W c) n.2.1 n.2.2.2)
theorem s6(d m:Nat)(hm:m<12)(w:World):(bh d).at_ w (fun _=>False) (fP (db m)) [string ⟨#[]⟩,int i64 0,int i64 (8000024+(m:Int)),slice none 0 0,slice none 0 0]:=
 dY.2 ⟨(by decide:(⟨#[]⟩:ByteArray).size≤maxLen),(⟨by decide,by decide⟩:I64 0),⟨by show (-9223372036854775808:Int)≤8000024+(m:Int);omega,by show 8000024+(m:Int)<9223372036854775808;omega⟩,_,_,rfl,Rd.row_nil,Rd.row_nil⟩
theorem pO(d:Nat)(F:Nat→Prop)(xs:List aj)(v:Value)(w:World)(h:(bh d).row w F xs v)(hF:∀b,F b→b<w.heap.size)(f:xs.length≤20000)(i:∀t∈xs,kh d t):Calls Tryz.prog 13 #[v] w (eS (jX d) xs w):=
 qE F (lu d) (bh d) rfl rfl (ln d) mz (fun m hm w=>s6 d m hm w) xs v w h hF f
  (fun t j W2 q l c x y z k a=>tt d F t q l c x y z W2 a (fun b e=>EF (hF b e) k.size) (i t j))
theorem sj(d:Nat)(F:Nat→Prop)(R:cd)(c:Option Addr)(e f:Nat)(x1:Option Addr)(h i:Nat)(w:World)(k:bo.row w F R.types (.slice c e f))(l:(bh d).row w F R.rules (.slice x1 h i))(hF:∀b,F b→b<w.heap.size)(j:qq d R) :
  Calls Tryz.prog 6 #[.agg #[.slice c e f,.slice x1 h i]] w (fM (ka d) R w):=
 te qw (jX d) lj lj R c e f x1 h i w trivial
  (fun W a=>so F R.types _ W (Rd.row_below k hF a) j.1)
  (fun W a=>pO d F R.rules _ W (Rd.row_below l hF a) (fun b m=>EF (hF b m) a.size) j.2.1 j.2.2)
