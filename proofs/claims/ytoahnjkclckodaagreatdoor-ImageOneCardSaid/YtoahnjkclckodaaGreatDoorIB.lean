/- Parts of one proof, joined; conditions stand in each theorem. -/
import Derived.Test.YtoahnjkclckodaaGreatDoorIA
import Derived.Test.YtoahnjkclckodaaGreatDoorMA
import Derived.Handy
import Derived.Lib.BufferRead
import Derived.Test.YtoahnjkclckodaaGreatDoorMT
import Derived.Test.YtoahnjkclckodaaGreatDoorNA
open Go renaming World→J,Value→tT,Calls→wg,undef→wF
open Go.Value renaming slice→O,int→I,bool→xv,pointer→vv,string→tS,agg→xk
open Option renaming none→Y,some→A
open Go.IntKind renaming u8→tF,i64→U
open Go.Obj renaming cells→r9
open Bool renaming true→ur,false→va
open Or renaming inl→wD,inr→wP
open Go.World renaming setCell→AJ,cell?→AF
open Go.Proofs.Tryz renaming prog→vo
open Go.Ending renaming returned→wj
namespace Go.Proofs.YtoahnjkclckodaaGreatDoor
set_option maxHeartbeats 1000000
set_option maxRecDepth 100000
open Go.RowKit
def BytesAt(W:J) (g:Nat) (l:List UInt8) (v:tT):Prop:=
 (l=[]∧v=O Y 0 0)∨∃o c,v=O (A ⟨g,o,Y⟩) l.length c∧l.length≤c∧c≤maxLen∧g<W.heap.size∧∀(i:Nat) (b:UInt8),l[i]?=A b→W.cell? ⟨g,o+i,Y⟩=A (I tF (b.toNat:Int))
structure bv (W:J) (R g:Nat) (s:WSt):Prop where
 r:∃v,W.heap[R]?=A (r9 #[xv ur,xv s.2,v] 124 (0,0))∧BytesAt W g s.1 v
 ne:R≠g
 lt2:g<W.heap.size
def bg(W:J) (R g:Nat) (s:WSt) (W':J):Prop:=W.grownBy W' (A R)∧bv W' R g s
section
variable {W W':J} {R g:Nat} {l:List UInt8} {v:tT} {s s':WSt}
theorem lq{b:Nat}(h:W'.heap[b]?=W.heap[b]?)(i:Nat):W'.cell? ⟨b,i,Y⟩=W.cell? ⟨b,i,Y⟩:=by unfold World.cell?;simp only[h]
theorem BytesAt.t(h:BytesAt W g l v)(a:W'.heap[g]?=W.heap[g]?)(m:W.heap.size≤W'.heap.size):BytesAt W' g l v:=by
 rcases h with h|⟨o,c,d,e,f,n,j⟩
 ·exact wD h
 ·exact wP ⟨o,c,d,e,f,by omega,fun i b k=>(lq a _).trans (j i b k)⟩
theorem BytesAt.q(h:BytesAt W g l v):∃p c,v=O p l.length c∧l.length≤maxLen:=by
 rcases h with ⟨rfl,rfl⟩|⟨o,c,rfl,a,b,_⟩
 ·exact⟨_,_,Z,FR _⟩
 ·exact⟨_,_,Z,FH a b⟩
theorem bv.lt(h:bv W R g s):R<W.heap.size:=by
 obtain⟨v,a,_⟩:=h.r;exact (Fx.1 a).1
theorem bv.t(h:bv W R g s)(b:W'.heap[R]?=W.heap[R]?)(c:W'.heap[g]?=W.heap[g]?)(a:W.heap.size≤W'.heap.size):bv W' R g s:=by
 obtain⟨v,d,e⟩:=h.r;exact⟨⟨v,b.trans d,e.t c a⟩,h.ne,FG h.lt2 a⟩
theorem bv.C(h:bv W R g s)(a:Gl W W'):bv W' R g s:=h.t (a.block R h.lt) (a.block g h.lt2) a.size
theorem bv.set(h:bv W R g s){b:Nat}(a:b≠R)(c:b≠g)(i:Nat)(u:tT):bv (W.setCell ⟨b,i,Y⟩ u) R g s:=
 h.t (FC W _ _ R (fun e=>a e.symm)) (FC W _ _ g (fun e=>c e.symm)) (by simp[AJ])
theorem ia{a b c:J}{r:Option Nat}(h:a.grownBy b r)(k:b.grownBy c r):a.grownBy c r:=
 ⟨k.os.trans h.os,k.tape.trans h.tape,k.output.trans h.output,FH h.size k.size,fun i hi d=>(k.block i (FG hi h.size) d).trans (h.block i hi d)⟩
theorem bg.C(h:bg W R g s W'){W2:J}(a:Gl W' W2):bg W R g s W2:=⟨grown_below h.1 a,h.2.C a⟩
theorem bg.far(h:bg W R g s W')(a:bv W R g s'){b:Nat}(c:W.heap.size≤b)(i:Nat)(u:tT):bg W R g s (W'.setCell ⟨b,i,Y⟩ u):=
 ⟨bo h.1 c i u,h.2.set (by have:=a.lt;omega) (by have:=a.lt2;omega) i u⟩
theorem bg.ahead(a:Gl W W'){W2:J}(h:bg W' R g s W2):bg W R g s W2:=⟨ia (az a _) h.1,h.2⟩
theorem bg.h{W2:J}(h:bg W R g s W')(k:bg W' R g s' W2):bg W R g s' W2:=⟨ia h.1 k.1,k.2⟩
theorem bv.z(h:bv W R g s):∃v,BytesAt W g s.1 v∧W.cell? ⟨R,0,Y⟩=A (xv ur)∧W.cell? ⟨R,1,Y⟩=A (xv s.2)∧W.cell? ⟨R,2,Y⟩=A v∧W.frozen? ⟨R,1,Y⟩=va∧W.frozen? ⟨R,2,Y⟩=false:=by
 obtain⟨v,a,b⟩:=h.r;exact⟨v,b,by simp[AF,a],by simp[AF,a],by simp[AF,a],by simp[World.frozen?,a],by simp[World.frozen?,a]⟩
theorem bv.q(h:bv W R g s)(b:Bool):bv (W.setCell ⟨R,1,Y⟩ (xv b)) R g (s.1,b):=by
 obtain⟨v,a,c⟩:=h.r;have d:(W.setCell ⟨R,1,Y⟩ (xv b)).heap[g]?=W.heap[g]?:=FC W _ _ g (fun e=>h.ne e.symm);exact⟨⟨v,by rw[heap_set a 1];rfl,c.t d (by simp[AJ])⟩,h.ne,by simpa [AJ]using h.lt2⟩
theorem bv.setLeft(h:bv W R g s)(a:BytesAt W g l v):bv (W.setCell ⟨R,2,Y⟩ v) R g (l,s.2):=by
 obtain⟨v0,b,d⟩:=h.r;have c:(W.setCell ⟨R,2,Y⟩ v).heap[g]?=W.heap[g]?:=FC W _ _ g (fun e=>h.ne e.symm);exact⟨⟨v,by rw[heap_set b 2];rfl,a.t c (by simp[AJ])⟩,h.ne,by simpa [AJ]using h.lt2⟩
theorem BytesAt.set(h:BytesAt W g l v)(a:R≠g)(i:Nat)(u:tT):BytesAt (W.setCell ⟨R,i,Y⟩ u) g l v:=h.t (FC W _ _ g (fun e=>a e.symm)) (by simp[AJ])
theorem BytesAt.split{o c n:Nat}(h:BytesAt W g l (O (A ⟨g,o,Y⟩) l.length c))(k:n≤l.length):BytesAt W g (l.take n) (O (A ⟨g,o,Y⟩) n c)∧∀e,(n<c→e=o+n)→BytesAt W g (l.drop n) (O (A ⟨g,e,Y⟩) (l.length-n) (c-n)):=by
 rcases h with ⟨_,h⟩|⟨r,t,d,u,m,f,j⟩
 ·cases h
 ·injection d with d _ p
  injection d with d
  injection d with _ d
  subst d;subst p;refine⟨wP ⟨o,c,by rw[List.length_take,Nat.min_eq_left k],by rw[List.length_take];omega,m,f,fun i b a=>?_⟩,fun e q=>wP ⟨e,c-n,by rw[List.length_drop],by rw[List.length_drop];omega,by omega,f,fun i b a=>?_⟩⟩
  ·rw[List.getElem?_take]at a
   split at a
   ·exact j i b a
   ·cases a
  ·rw[List.getElem?_drop]at a;have:=(FU.1 a).1;rw[q (by omega),Nat.add_assoc];exact j (n+i) b a
theorem eX(h:bv W R g s):wg vo 53 #[vv (A ⟨R,0,Y⟩)] W fun e W'=>e=wj (xv ur)∧W=W':=by
 obtain⟨v,_,a,_⟩:=h.z;clear h
 go_enter Tryz.func53,Tryz.ntmps53
 go_wp2_with fail
 go_ret;exact⟨Z,Z⟩
theorem qT(h:bv W R g s)(n:Nat):wg vo 54 #[vv (A ⟨R,0,Y⟩),I U n] W fun e W'=>∃v,e=wj v∧BytesAt W' g (aT n s).1 v∧bg W R g (aT n s).2 W':=by
 have H:=Hd h;obtain⟨v,k,T,G,c2,f1,f2⟩:=h.z;have V:=h.lt;obtain⟨l,bad⟩:=s;dsimp only at k G;have t:=Hd (fun i u=>dO (g:=R) (o3 W _) i u)
 cases bad with
 | true =>
  have e:aT n (l,ur)=([],l,ur):=by simp[aT]
  rw[e];have d:=Hd (H.o.q ur);clear h k e
  go_enter Tryz.func54,Tryz.ntmps54
  go_wp2_with fail
  go_returns
  exact⟨_,Z,wD ⟨Z,Z⟩,t.o _ _,d.o⟩
 | false =>
  by_cases w:l.length<n
  ·have e:aT n (l,va)=([],l,ur):=by simp[aT,w]
   rw[e];obtain⟨p,c,rfl,_⟩:=k.q;have hm:decide ((l.length:Int)<n)=true:=by simp;omega
   have d:=Hd (H.o.q ur);clear h k e;generalize l.length=m at *
   go_enter Tryz.func54,Tryz.ntmps54
   go_wp2_with fail
   go_returns
   exact⟨_,Z,wD ⟨Z,Z⟩,t.o _ _,d.o⟩
  ·have e:aT n (l,va)=(l.take n,l.drop n,va):=by simp[aT];omega
   rw[e];have hm:decide ((l.length:Int)<n)=false:=by simp;omega
   have K:(n:Int)≤l.length:=by omega
   have q:n≤l.length:=by omega
   have d:=Hd (H.o.q va);rcases k with ⟨rfl,rfl⟩|⟨o,c,rfl,L,B,M,C⟩
   ·obtain rfl:n=0:=by simpa using q
    have r:=Hd (d.o.setLeft (l:=[]) (v:=O Y 0 0) (wD ⟨Z,Z⟩));have a:=Hd (dO (t.o 1 (xv va)) 2 (O Y 0 0));clear h e
    go_enter Tryz.func54,Tryz.ntmps54
    go_wp2_with fail
    go_returns
    exact⟨_,Z,wD ⟨Z,Z⟩,a.o,r.o⟩
   ·have D:BytesAt W g l (O (A ⟨g,o,Y⟩) l.length c):=wP ⟨o,c,Z,L,B,M,C⟩;obtain⟨E,F⟩:=D.split q;have b:=h.ne;obtain⟨f,r,a⟩:=zz3 (fun i u j N=>(E.set b i u).set b j N) (fun P Q=>d.o.setLeft ((F P Q).set b 1 (xv va))) (fun u=>dO (t.o 1 (xv va)) 2 u);unfold maxLen at B;clear h e D E F C H d b;generalize x:l.length=m at *;clear x
    by_cases y:c=0
    ·subst y;obtain rfl:m=0:=by omega
     obtain rfl:n=0:=by omega
     go_enter Tryz.func54,Tryz.ntmps54
     go_wp2_with fail
     go_returns
     exact⟨_,Z,f.o _ _ _ _,a.o _,r.o _ (by omega)⟩
    ·by_cases z:c=n
     ·subst z;obtain rfl:m=c:=by omega
      go_enter Tryz.func54,Tryz.ntmps54
      go_wp2_with fail
      go_returns
      exact⟨_,Z,f.o _ _ _ _,a.o _,by have S:=r.o o (fun h=>absurd h (Nat.lt_irrefl _));rwa [Nat.sub_self]at S⟩
     ·go_enter Tryz.func54,Tryz.ntmps54
      go_wp2_with fail
      go_returns
      exact⟨_,Z,f.o _ _ _ _,a.o _,r.o _ (by omega)⟩
end
theorem CO(l:List UInt8)(k:Nat)(c:UInt8)(h:l[k]?=A c):beI (l.take (k+1))=gP (beI (l.take k)*256+(c.toNat:Int)):=by
 unfold beI;rw[Gd,h,List.foldl_append];rfl
theorem Cx(n:Int):IntKind.wrap U n=gP n:=by
 unfold IntKind.wrap gP;simp only[IntKind.bits,IntKind.signed,Bool.true_and,oX,ge_iff_le];rfl
theorem Ec(acc:Int){a:Nat}(b:a<256):bits .or U (wrap64 (acc*256)) (a:Int)=gP (acc*256+(a:Int)):=by
 have c:(BitVec.ofInt 64 (wrap64 (acc*256))).toNat=2 ^ 8*((acc*256) % 18446744073709551616 / 256).toNat:=by
  rw[BitVec.toNat_ofInt];unfold wrap64;have:((2 ^ 64:Nat):Int)=18446744073709551616:=by decide
  rw[this];omega
 have d:(BitVec.ofInt 64 (a:Int)).toNat=a:=by
  rw[BitVec.toNat_ofInt];have:((2 ^ 64:Nat):Int)=18446744073709551616:=by decide
  rw[this];omega
 have e:(BitVec.ofInt 64 (wrap64 (acc*256)) ||| BitVec.ofInt 64 (a:Int)).toNat=2 ^ 8*((acc*256) % 18446744073709551616 / 256).toNat+a:=by rw[BitVec.toNat_or,c,d,Nat.two_pow_add_eq_or_of_lt (show a<2 ^ 8 from b)]
 show IntKind.wrap U ((BitVec.ofInt 64 (wrap64 (acc*256)) ||| BitVec.ofInt 64 (a:Int)).toNat:Int)=_
 rw[e,Cx];unfold gP
 split<;>split<;>omega
section
variable {W:J} {R g:Nat} {s:WSt}
def DJ(w:J) (t:List UInt8) (n i:tT) (W:J):Prop:=∃(a:J) (k:Nat),a=W∧w=a∧k≤t.length∧i=I U k∧n=I U (beI (t.take k))
theorem kF(h:bv W R g s)(n:Nat):wg vo 79 #[vv (A ⟨R,0,Y⟩),I U n] W fun e W'=>e=wj (I U (aD n s).1)∧bg W R g (aD n s).2 W':=by
 have q:=Hd (qT h n);unfold aD;obtain⟨⟨t,s'⟩,a⟩:∃x,aT n s=x:=⟨_,rfl⟩;rw[a]at q ⊢;dsimp only at q ⊢;clear h a
 go_enter Tryz.func79,Tryz.ntmps79
 go_wp2_with fail
 refine q.o.mono ?_;rintro e z ⟨v,rfl,D,d⟩;have f:=Hd d;clear q d;rcases D with ⟨rfl,rfl⟩|⟨o,c,rfl,E,F,M,B⟩
 ·go_wp2_with fail
  go_loopw [5,12] (DJ z []) (fun _ i _=>0)
  case atStart=>exact⟨_,0,Z,Z,Fy _,Z,Z⟩
  case round =>
   obtain⟨G,k,rfl,rfl,r,rfl,rfl⟩:=hrel;obtain rfl:k=0:=by simpa using r
   go_wp2_with fail
   go_ret;exact⟨Z,f.o⟩
 ·have H:=Hd B;have u:t.length≤9223372036854775807:=by unfold maxLen at F;omega
  obtain⟨m,hm⟩:=zzy (t.length);rw[hm]at E u ⊢;have j:=Hd hm;clear B hm;go_wp2_with fail
  go_loopw [5,12] (DJ z t) (fun _ i _=>m-(intOf i).toNat)
  case atStart=>exact⟨_,0,Z,Z,FR _,Z,Z⟩
  case round =>
   obtain⟨G,k,rfl,rfl,r,rfl,rfl⟩:=hrel;rw[j.o]at r
   by_cases p:k<m
   ·obtain⟨b,w⟩:∃b,t[k]?=A b:=⟨t[k]'(by rw[j.o];exact p),FD (by rw[j.o];exact p)⟩;have N:=H.o k b w;have K:(k:Int)<m:=by omega
    have L:=Hd (CO t k b w);have y:b.toNat<256:=b.toNat_lt;generalize b.toNat=P at *;generalize beI (t.take k)=acc at *;clear w;go_wp2_with fail
    refine⟨⟨_,k+1,Z,Z,by rw[j.o];omega,by go_num,?_⟩,by simp[intOf];omega⟩;rw[Ec acc y,L.o]
   ·obtain rfl:k=m:=by omega
    have C:beI (t.take k)=beI t:=by rw[←j.o,List.take_length]
    rw[C];clear C;go_wp2_with fail
    go_ret;exact⟨Z,f.o⟩
theorem kX(h:bv W R g s):wg vo 56 #[vv (A ⟨R,0,Y⟩)] W fun e W'=>e=wj (I U (aD 8 s).1)∧bg W R g (aD 8 s).2 W':=by
 obtain⟨c,d⟩:=zz2 (eX h) (kF h 8);clear h
 go_enter Tryz.func56,Tryz.ntmps56
 go_wp2_with fail
 refine c.o.mono ?_;rintro e w1 ⟨rfl,rfl⟩;go_wp2_with fail
 refine d.o.mono ?_;rintro e f ⟨rfl,a⟩;have b:=Hd a;clear a;go_wp2_with fail
 go_ret;exact⟨Z,b.o⟩
theorem lY(h:bv W R g s):wg vo 59 #[vv (A ⟨R,0,Y⟩)] W fun e W'=>e=wj (I U (aD 8 s).1)∧bg W R g (aD 8 s).2 W':=by
 have c:=Hd (kF h 8);clear h
 go_enter Tryz.func59,Tryz.ntmps59
 go_wp2_with fail
 refine c.o.mono ?_;rintro e d ⟨rfl,a⟩;have b:=Hd a;clear a;go_wp2_with fail
 go_ret;exact⟨Z,b.o⟩
theorem Cv(s:WSt):0≤(aD 1 s).1∧(aD 1 s).1<256:=by
 have a:(aT 1 s).1.length≤1:=by
  unfold aT
  split
  ·exact FR _
  ·exact List.length_take_le _ _
 show 0≤beI (aT 1 s).1∧beI (aT 1 s).1<256
 rw[nS _ (by omega)];have h:=gi (aT 1 s).1;have:(256:Int) ^ (aT 1 s).1.length≤256:=by
  generalize (aT 1 s).1.length=k at a;have:k=0∨k=1:=by omega
  rcases this with rfl|rfl<;>decide
 omega
theorem xW(h:bv W R g s):wg vo 109 #[vv (A ⟨R,0,Y⟩)] W fun e W'=>e=wj (I tF (aD 1 s).1)∧bg W R g (aD 1 s).2 W':=by
 have c:=Hd (kF h 1);obtain⟨d,f⟩:=Cv s;generalize (aD 1 s).1=n at *;clear h
 go_enter Tryz.func109,Tryz.ntmps109
 go_wp2_with fail
 refine c.o.mono ?_;rintro e i ⟨rfl,a⟩;have b:=Hd a;clear a;go_wp2_with fail
 go_ret;exact⟨Z,b.o⟩
theorem nX(h:bv W R g s):wg vo 58 #[vv (A ⟨R,0,Y⟩)] W fun e W'=>e=wj (xv s.2)∧W=W':=by
 have a:=Hd (eX h);obtain⟨v,_,_,b,_⟩:=h.z;clear h
 go_enter Tryz.func58,Tryz.ntmps58
 go_wp2_with fail
 refine a.o.mono ?_;rintro e w1 ⟨rfl,rfl⟩;go_wp2_with fail
 go_ret;exact⟨Z,Z⟩
theorem qF(h:bv W R g s):wg vo 37 #[vv (A ⟨R,0,Y⟩)] W fun e W'=>e=wj (xv (!s.2&&s.1.isEmpty))∧W=W':=by
 have f:=Hd (eX h);obtain⟨v,a,_,i,c2,_⟩:=h.z;obtain⟨p,c,rfl,_⟩:=a.q;have he:((s.1.length:Int)==0)=s.1.isEmpty:=by cases s.1<;>simp;omega
 clear h a;generalize s.1.isEmpty=em at *;generalize s.1.length=m at *;obtain⟨b,d⟩:=zzy (s.2);rw[d]at i ⊢;clear d
 go_enter Tryz.func37,Tryz.ntmps37
 go_wp2_with fail
 refine f.o.mono ?_;rintro e w1 ⟨rfl,rfl⟩
 cases b with
 | true =>
  go_wp2_with fail
  go_ret;exact⟨Z,Z⟩
 | false =>
  go_wp2_with fail
  go_ret;exact⟨by rw[←he];rfl,Z⟩
theorem lM(h:bv W R g s):wg vo 55 #[vv (A ⟨R,0,Y⟩)] W fun e W'=>e=wj (I U ((bp s).1:Nat))∧bg W R g (bp s).2 W':=by
 have j:=Hd (kF h 4);have q:0≤(aD 4 s).1:=by
  have C:(aT 4 s).1.length≤4:=by
   unfold aT
   split
   ·exact FR _
   ·exact List.length_take_le _ _
  show 0≤beI (aT 4 s).1
  rw[nS _ (by omega)];exact (gi _).1
 unfold bp;obtain⟨⟨n,l,b⟩,u⟩:∃x,aD 4 s=x:=⟨_,rfl⟩;rw[u]at j q ⊢;dsimp only at j q ⊢;clear h u;have c:∀(f:Nat) (b':Bool),(b=ur→f=0∧b'=ur)→(b=va→n≤65536→(f:Int)=n∧b'=va)→(b=va→65536<n→f=0∧b'=ur)→wg vo 55 #[vv (A ⟨R,0,Y⟩)] W fun e W'=>e=wj (I U (f:Int))∧bg W R g (l,b') W':=by
  intro f b' k m p
  go_enter Tryz.func55,Tryz.ntmps55
  go_wp2_with fail
  refine j.o.mono ?_;rintro e D ⟨rfl,a⟩;obtain⟨v,w,_,y,c2,f1,f2⟩:=a.2.z;have r:=Hd (fun b=>(⟨dO a.1 1 (xv b),a.2.q b⟩:bg W R g (l,b) _));clear a w j;dsimp only at y
  cases b with
  | true =>
   obtain⟨rfl,rfl⟩:=k Z;clear k m p;go_wp2_with fail
   go_ret;exact⟨Z,r.o ur⟩
  | false =>
   by_cases hm:n≤65536
   ·obtain⟨d,rfl⟩:=m Z hm;have d:=Hd d;clear k m p;go_wp2_with fail
    go_ret;have z:decide (65536<n)=false:=by simp;omega
    exact⟨by rw[d.o];rfl,by rw[z];exact r.o va⟩
   ·have t:65536<n:=by omega
    obtain⟨rfl,rfl⟩:=p Z t;clear k m p;go_wp2_with fail
    go_ret;exact⟨Z,r.o ur⟩
 split
 ·rename_i i
  refine c 0 ur (fun _=>⟨Z,Z⟩) (fun B hm=>?_) (fun _ _=>⟨Z,Z⟩);rw[B]at i;simp at i;omega
 ·rename_i i
  simp at i;obtain⟨rfl,hm⟩:=i;exact c n.toNat va (fun h=>by cases h) (fun _ _=>⟨Int.toNat_of_nonneg q,Z⟩) (fun _ h=>by omega)
end
section
variable {W:J} {R g:Nat} {s:WSt}
theorem BytesAt.h{l:List UInt8}{v:tT}(h:BytesAt W g l v):(convert 29 9 v).run vo W=.ok (tS ⟨l.toArray⟩) W:=by
 rcases h with ⟨rfl,rfl⟩|⟨o,c,rfl,_,_,_,a⟩
 ·exact Lib.run_convert_nil_bytes W _ _ 5 0 Tryz.underlying29 Tryz.underlying5 Tryz.underlying9
 ·exact run_convert_bytes_back W _ _ 5 _ c l Tryz.underlying29 Tryz.underlying5 Tryz.underlying9 fun j b=>by rw[Addr.add_mid];exact a j _ (FD b)
def TxS(W:J) (R g:Nat) (s s1 s2:WSt):Nat→J→Prop
 | 0,V=>bg W R g s V
 | 1,V=>bg W R g s1 V
 | _+2,V=>bg W R g s2 V
def TxP(g n:Nat) (t:List UInt8) (k:Nat) (V:J) (xs:List tT):Prop:=
 if k=6 then xs.getD 0 wF=I U n else if k=7 then BytesAt V g t (xs.getD 0 wF) else True
theorem TxP.t{g n R:Nat}{t:List UInt8}{k:Nat}{V f:J}{xs:List tT}(a:R≠g)(h:TxP g n t k V xs)(j:V.grownBy f (A R)):TxP g n t k f xs:=by
 unfold TxP at h ⊢
 split
 ·rename_i d;rw[oE d]at h;exact h
 ·rename_i d
  rw[oB d]at h
  split
  ·rename_i p
   rw[oE p]at h;rcases h with h|⟨o,c,e,q,r,m,u⟩
   ·exact wD h
   ·have w:=j.block g m (fun e=>a (by injection e with e;exact e.symm))
    exact wP ⟨o,c,e,q,r,FG m j.size,fun i b hi=>(lq w _).trans (u i b hi)⟩
  ·trivial
theorem qD(h:bv W R g s):wg vo 29 #[vv (A ⟨R,0,Y⟩)] W fun e W'=>e=wj (tS (ez s).1)∧bg W R g (ez s).2 W':=by
 have L:=Hd (eX h);have j:bg W R g s W.drew:=⟨⟨Z,Z,Z,Fy _,fun _ _ _=>rfl⟩,h.t Z Z (Fy _)⟩;have k:=h.ne;have H:=Hd j;unfold ez;obtain⟨⟨n,s1⟩,a⟩:∃x,bp s=x:=⟨_,rfl⟩;have F:Hid (∀V,bg W R g s V→wg vo 55 #[vv (A ⟨R,0,Y⟩)] V fun e W'=>e=wj (I U (n:Nat))∧bg V R g s1 W'):=fun V z=>by
  have:=lM z.2;rw[a]at this;exact this
 rw[a];dsimp only;obtain⟨⟨t,s2⟩,b⟩:∃x,aT n s1=x:=⟨_,rfl⟩;have m:Hid (∀V,bg W R g s1 V→wg vo 54 #[vv (A ⟨R,0,Y⟩),I U n] V fun e W'=>∃v,e=wj v∧BytesAt W' g t v∧bg V R g s2 W'):=fun V z=>by
  have:=qT z.2 n;rw[b]at this;exact this
 rw[b];dsimp only;have B:=Hd k;clear h j a b k
 go_enter Tryz.func29,Tryz.ntmps29
 go_wp2_with fail
 refine L.o.mono ?_;rintro e w1 ⟨rfl,rfl⟩;go_upto_region 3 with fail
 refine RE.u (by kernel_rfl) 8 [6,7] [6,7] (TxS W R g s s1 s2) (fun V C=>V.grownBy C (A R)) (fun _ w=>w.getD 0 wF) (TxP g n t) (by kernel_rfl) (fun i j d _ _ _ _ _=>by rw[d]at j;cases j) (fun _ _ _ _ h _ M=>h.t B.o M) H.o ?_;simp only[FO,FY,FQ,FX]
 repeat (refine RE.q (fun _=>True) (fun _ _ _ _=>trivial) Z Z Z H.o ?_;go_big_quiet_step (fail);refine wpQuiet_nil ?_)
 refine RE.h Z Z ?_ (fun xs=>?_)
 ·intro V _ f _;have q:bg W R g s V:=f Z;refine RE.z 55 _ _ Z (enters_of Tryz.func55 (by kernel_rfl) Z) #[vv (A ⟨R,0,Y⟩)] (by simp[Act.eval]) ((F.o V q).mono ?_);rintro e C ⟨rfl,d⟩;exact⟨_,Z,[I U n],Z,q.h d,d.1,Z⟩
 simp only[Act.put,FA,FM,FK];refine RE.h Z Z ?_ (fun w=>?_)
 ·intro V _ f y;have q:bg W R g s1 V:=f Z;have N:xs.getD 0 wF=I U n:=y 6 xs (by kernel_rfl) Z;refine RE.z 54 _ _ Z (enters_of Tryz.func54 (by kernel_rfl) Z) #[vv (A ⟨R,0,Y⟩),I U n] (by simp[Act.eval,←N]) ((m.o V q).mono ?_);rintro e C ⟨v,rfl,r,d⟩;exact⟨_,Z,[v],Z,q.h d,d.1,r⟩
 simp only[Act.put,FA,FM,FK];refine RE.t ?_;intro G f y;have u:bg W R g s2 G:=f;have r:BytesAt G g t (w.getD 0 wF):=y 7 w Z;have D:=r.h;obtain⟨p,c,K,_⟩:=r.q;rw[K]at D ⊢;have E:=Hd u;clear u r y f H F m K;generalize t.length=P at *;go_wp2_with fail
 go_ret;exact⟨Z,E.o⟩
end
def jL(v:bj):Value:=xk #[I tF v.q,I U v.u,tS v.h]
theorem aE{W:J}{b:Nat}{a c c2:tT}{t:TypeId}(h:W.heap[b]?=A (r9 #[a,c,c2] t (0,0))):W.cell? ⟨b,0,Y⟩=A a∧W.cell? ⟨b,1,Y⟩=A c∧W.cell? ⟨b,2,Y⟩=A c2∧W.frozen? ⟨b,0,Y⟩=va∧W.frozen? ⟨b,1,Y⟩=va∧W.frozen? ⟨b,2,Y⟩=false:=
 ⟨by simp[AF,h],by simp[AF,h],by simp[AF,h],ax h 0,ax h 1,ax h 2⟩
theorem lP(w:J)(a b c:Obj):Gl w (((w.alloc a).alloc b).alloc c)∧(((w.alloc a).alloc b).alloc c).heap[w.heap.size]?=A a∧(((w.alloc a).alloc b).alloc c).heap[w.heap.size+1]?=A b∧(((w.alloc a).alloc b).alloc c).heap[w.heap.size+1+1]?=A c:=by
 obtain⟨e,f,_⟩:=aW w a b;have d:Below ((w.alloc a).alloc b).heap.size ((w.alloc a).alloc b) (((w.alloc a).alloc b).alloc c):=(Fz _ _).alloc (Fy _) _;have h:((w.alloc a).alloc b).heap.size=w.heap.size+2:=by simp
 refine⟨(((Fz _ w).alloc (Fy _) _).alloc (by simp) _).alloc (by simp;omega) _,(d.block _ (by omega)).trans e,(d.block _ (by omega)).trans f,?_⟩;have:=oA ((w.alloc a).alloc b) c;rw[h]at this;exact this
theorem nP{W:J}{b:Nat}{a c c2:tT}{t:TypeId}(h:W.heap[b]?=A (r9 #[a,c,c2] t (0,0)))(x y z:tT):(((W.setCell ⟨b,0,Y⟩ x).setCell ⟨b,1,Y⟩ y).setCell ⟨b,2,Y⟩ z).heap[b]?=A (r9 #[x,y,z] t (0,0)):=by rw[heap_set (heap_set (heap_set h 0 x) 1 y) 2 z];rfl
theorem eU{W:J}{f:Func}{t b:Nat}{ty:TypeId}{x y z:tT}{tmps:Array tT}{R:Ending→J→Prop}(e:f.results=#[.cell t ty])(a:(isAgg ty).run vo W=.ok ur W)(c:(Go.sizeOf ty).run vo W=.ok 3 W)(i:tmps.getD t wF=vv (A ⟨b,0,Y⟩))
  (h:W.heap[b]?=A (r9 #[x,y,z] ty (0,0))) (j:R (wj (xk #[x,y,z])) W):bodyPost vo f R .ret ⟨tmps,[]⟩ W:=by
 obtain⟨k,m,c2,_⟩:=aE h;have d:tmps[t]?.getD wF=vv (A ⟨b,0,Y⟩):=by simpa using i
 refine bodyPost_ret (v:=xk #[x,y,z]) ?_ Z j;simp[results,e,go_sem,d,a,c,k,m,c2]
section
variable {W:J} {R g:Nat} {s:WSt}
theorem rq(h:bv W R g s)(v:bj):wg vo 110 #[vv (A ⟨R,0,Y⟩),jL v] W fun e W'=>e=wj (jL (if s.2 then .zero else v))∧Gl W W':=by
 have u:=h.lt;obtain⟨k,n,t⟩:=v;obtain⟨l,b⟩:=s;obtain⟨w1,a⟩:=zzx (((W.alloc (r9 #[I tF k,I U n,tS t] 88)).alloc (r9 #[I tF 0,I U 0,tS ⟨#[]⟩] 88)).alloc (r9 #[I tF 0,I U 0,tS ⟨#[]⟩] 88));obtain⟨c,f,d,i⟩:=lP W (r9 #[I tF k,I U n,tS t] 88) (r9 #[I tF 0,I U 0,tS ⟨#[]⟩] 88) (r9 #[I tF 0,I U 0,tS ⟨#[]⟩] 88);rw[←a]at c f d i;obtain⟨_,_,_,r,_⟩:=(h.C c).z;obtain⟨w,x,x2,_⟩:=aE f;obtain⟨y,z,B,f0,f1,f2⟩:=aE d;obtain⟨z0,C,z2,_⟩:=aE i;obtain⟨j,m,q⟩:=zz3 (nP d) c a;dsimp only at r ⊢;unfold jL;clear h f d i c a
 go_enter Tryz.func110,Tryz.ntmps110
 go_upto_region 2 with fail
 change Code.wp _ _ _ _ (((W.alloc (r9 #[I tF k,I U n,tS t] 88)).alloc (r9 #[I tF 0,I U 0,tS ⟨#[]⟩] 88)).alloc (r9 #[I tF 0,I U 0,tS ⟨#[]⟩] 88));rw[←q.o];clear q
 cases b with
 | true =>
  go_wp2_with fail
  exact eU Tryz.results110 (by simp[go_sem]) (by simp[go_sem]) Z (j.o _ _ _) ⟨Z,((m.o.setCell (p:=⟨W.heap.size+1,0,Y⟩) (F3 _) _).setCell (p:=⟨W.heap.size+1,1,Y⟩) (F3 _) _).setCell (p:=⟨W.heap.size+1,2,Y⟩) (F3 _) _⟩
 | false =>
  go_wp2_with fail
  exact eU Tryz.results110 (by simp[go_sem]) (by simp[go_sem]) Z (j.o _ _ _) ⟨Z,((m.o.setCell (p:=⟨W.heap.size+1,0,Y⟩) (F3 _) _).setCell (p:=⟨W.heap.size+1,1,Y⟩) (F3 _) _).setCell (p:=⟨W.heap.size+1,2,Y⟩) (F3 _) _⟩
end
