/- Parts of one proof, joined; conditions stand in each theorem. -/
import Derived.Test.YtoahnjkclckodaaGreatDoorIA
import Derived.Test.YtoahnjkclckodaaGreatDoorMA
import Derived.Handy
import Derived.Lib.BufferRead
import Derived.Test.YtoahnjkclckodaaGreatDoorMT
import Derived.Test.YtoahnjkclckodaaGreatDoorNA
open Go renaming World→J,Value→tS,Calls→vv,undef→xk
open Go.Value renaming slice→O,int→I,bool→xt,pointer→vo,string→r9,agg→wP
open Option renaming none→Y,some→A
open Go.IntKind renaming u8→r8,i64→U
open Go.Obj renaming cells→r7
open Bool renaming true→tT,false→ur
open Or renaming inl→wD,inr→wF
open Go.World renaming setCell→AF,cell?→At
open Go.Proofs.Tryz renaming prog→va
open Go.Ending renaming returned→wg
namespace Go.Proofs.YtoahnjkclckodaaGreatDoor
set_option maxHeartbeats 1000000
set_option maxRecDepth 100000
open Go.RowKit
def BytesAt(W:J) (g:Nat) (l:List UInt8) (v:tS):Prop:=
 (l=[]∧v=O Y 0 0)∨∃o c,v=O (A ⟨g,o,Y⟩) l.length c∧l.length≤c∧c≤maxLen∧g<W.heap.size∧∀(i:Nat) (b:UInt8),l[i]?=A b→W.cell? ⟨g,o+i,Y⟩=A (I r8 (b.toNat:Int))
structure bF (W:J) (R g:Nat) (s:WSt):Prop where
 r:∃v,W.heap[R]?=A (r7 #[xt tT,xt s.2,v] 124 (0,0))∧BytesAt W g s.1 v
 ne:R≠g
 lt2:g<W.heap.size
def bv(W:J) (R g:Nat) (s:WSt) (W':J):Prop:=W.grownBy W' (A R)∧bF W' R g s
section
variable {W W':J} {R g:Nat} {l:List UInt8} {v:tS} {s s':WSt}
theorem me{b:Nat}(h:W'.heap[b]?=W.heap[b]?)(i:Nat):W'.cell? ⟨b,i,Y⟩=W.cell? ⟨b,i,Y⟩:=by unfold World.cell?;simp only[h]
theorem BytesAt.K(h:BytesAt W g l v)(a:W'.heap[g]?=W.heap[g]?)(m:W.heap.size≤W'.heap.size):BytesAt W' g l v:=by
 rcases h with h|⟨o,c,d,e,f,n,j⟩
 ·exact wD h
 ·exact wF ⟨o,c,d,e,f,by omega,fun i b k=>(me a _).trans (j i b k)⟩
theorem BytesAt.q(h:BytesAt W g l v):∃p c,v=O p l.length c∧l.length≤maxLen:=by
 rcases h with ⟨rfl,rfl⟩|⟨o,c,rfl,a,b,_⟩
 ·exact⟨_,_,Z,J0 _⟩
 ·exact⟨_,_,Z,JU a b⟩
theorem bF.lt(h:bF W R g s):R<W.heap.size:=by
 obtain⟨v,a,_⟩:=h.r;exact (JL.1 a).1
theorem bF.K(h:bF W R g s)(b:W'.heap[R]?=W.heap[R]?)(c:W'.heap[g]?=W.heap[g]?)(a:W.heap.size≤W'.heap.size):bF W' R g s:=by
 obtain⟨v,d,e⟩:=h.r;exact⟨⟨v,b.trans d,e.K c a⟩,h.ne,JS h.lt2 a⟩
theorem bF.C(h:bF W R g s)(a:Kr W W'):bF W' R g s:=h.K (a.block R h.lt) (a.block g h.lt2) a.size
theorem bF.set(h:bF W R g s){b:Nat}(a:b≠R)(c:b≠g)(i:Nat)(u:tS):bF (W.setCell ⟨b,i,Y⟩ u) R g s:=
 h.K (JQ W _ _ R (fun e=>a e.symm)) (JQ W _ _ g (fun e=>c e.symm)) (by simp[AF])
theorem iH{a b c:J}{r:Option Nat}(h:a.grownBy b r)(k:b.grownBy c r):a.grownBy c r:=
 ⟨k.os.trans h.os,k.tape.trans h.tape,k.output.trans h.output,JU h.size k.size,fun i hi d=>(k.block i (JS hi h.size) d).trans (h.block i hi d)⟩
theorem bv.C(h:bv W R g s W'){W2:J}(a:Kr W' W2):bv W R g s W2:=⟨grown_below h.1 a,h.2.C a⟩
theorem bv.far(h:bv W R g s W')(a:bF W R g s'){b:Nat}(c:W.heap.size≤b)(i:Nat)(u:tS):bv W R g s (W'.setCell ⟨b,i,Y⟩ u):=
 ⟨bz h.1 c i u,h.2.set (by have:=a.lt;omega) (by have:=a.lt2;omega) i u⟩
theorem bv.ahead(a:Kr W W'){W2:J}(h:bv W' R g s W2):bv W R g s W2:=⟨iH (aF a _) h.1,h.2⟩
theorem bv.h{W2:J}(h:bv W R g s W')(k:bv W' R g s' W2):bv W R g s' W2:=⟨iH h.1 k.1,k.2⟩
theorem bF.z(h:bF W R g s):∃v,BytesAt W g s.1 v∧W.cell? ⟨R,0,Y⟩=A (xt tT)∧W.cell? ⟨R,1,Y⟩=A (xt s.2)∧W.cell? ⟨R,2,Y⟩=A v∧W.frozen? ⟨R,1,Y⟩=ur∧W.frozen? ⟨R,2,Y⟩=false:=by
 obtain⟨v,a,b⟩:=h.r;exact⟨v,b,by simp[At,a],by simp[At,a],by simp[At,a],by simp[World.frozen?,a],by simp[World.frozen?,a]⟩
theorem bF.q(h:bF W R g s)(b:Bool):bF (W.setCell ⟨R,1,Y⟩ (xt b)) R g (s.1,b):=by
 obtain⟨v,a,c⟩:=h.r;have d:(W.setCell ⟨R,1,Y⟩ (xt b)).heap[g]?=W.heap[g]?:=JQ W _ _ g (fun e=>h.ne e.symm);exact⟨⟨v,by rw[heap_set a 1];rfl,c.K d (by simp[AF])⟩,h.ne,by simpa [AF]using h.lt2⟩
theorem bF.setLeft(h:bF W R g s)(a:BytesAt W g l v):bF (W.setCell ⟨R,2,Y⟩ v) R g (l,s.2):=by
 obtain⟨v0,b,d⟩:=h.r;have c:(W.setCell ⟨R,2,Y⟩ v).heap[g]?=W.heap[g]?:=JQ W _ _ g (fun e=>h.ne e.symm);exact⟨⟨v,by rw[heap_set b 2];rfl,a.K c (by simp[AF])⟩,h.ne,by simpa [AF]using h.lt2⟩
theorem BytesAt.set(h:BytesAt W g l v)(a:R≠g)(i:Nat)(u:tS):BytesAt (W.setCell ⟨R,i,Y⟩ u) g l v:=h.K (JQ W _ _ g (fun e=>a e.symm)) (by simp[AF])
theorem BytesAt.split{o c n:Nat}(h:BytesAt W g l (O (A ⟨g,o,Y⟩) l.length c))(k:n≤l.length):BytesAt W g (l.take n) (O (A ⟨g,o,Y⟩) n c)∧∀e,(n<c→e=o+n)→BytesAt W g (l.drop n) (O (A ⟨g,e,Y⟩) (l.length-n) (c-n)):=by
 rcases h with ⟨_,h⟩|⟨r,t,d,u,m,f,j⟩
 ·cases h
 ·injection d with d _ p
  injection d with d
  injection d with _ d
  subst d;subst p;refine⟨wF ⟨o,c,by rw[List.length_take,Nat.min_eq_left k],by rw[List.length_take];omega,m,f,fun i b a=>?_⟩,fun e q=>wF ⟨e,c-n,by rw[List.length_drop],by rw[List.length_drop];omega,by omega,f,fun i b a=>?_⟩⟩
  ·rw[List.getElem?_take]at a
   split at a
   ·exact j i b a
   ·cases a
  ·rw[List.getElem?_drop]at a;have:=(J3.1 a).1;rw[q (by omega),Nat.add_assoc];exact j (n+i) b a
theorem fB(h:bF W R g s):vv va 53 #[vo (A ⟨R,0,Y⟩)] W fun e W'=>e=wg (xt tT)∧W=W':=by
 obtain⟨v,_,a,_⟩:=h.z;clear h
 go_enter Tryz.func53,Tryz.ntmps53
 go_wp2_with fail
 go_ret;exact⟨Z,Z⟩
theorem tc(h:bF W R g s)(n:Nat):vv va 54 #[vo (A ⟨R,0,Y⟩),I U n] W fun e W'=>∃v,e=wg v∧BytesAt W' g (aT n s).1 v∧bv W R g (aT n s).2 W':=by
 have H:=Hd h;obtain⟨v,k,T,G,c2,f1,f2⟩:=h.z;have V:=h.lt;obtain⟨l,bad⟩:=s;dsimp only at k G;have t:=Hd (fun i u=>ec (g:=R) (oT W _) i u)
 cases bad with
 | true =>
  have e:aT n (l,tT)=([],l,tT):=by simp[aT]
  rw[e];have d:=Hd (H.o.q tT);clear h k e
  go_enter Tryz.func54,Tryz.ntmps54
  go_wp2_with fail
  go_returns
  exact⟨_,Z,wD ⟨Z,Z⟩,t.o _ _,d.o⟩
 | false =>
  by_cases w:l.length<n
  ·have e:aT n (l,ur)=([],l,tT):=by simp[aT,w]
   rw[e];obtain⟨p,c,rfl,_⟩:=k.q;have hm:decide ((l.length:Int)<n)=true:=by simp;omega
   have d:=Hd (H.o.q tT);clear h k e;generalize l.length=m at *
   go_enter Tryz.func54,Tryz.ntmps54
   go_wp2_with fail
   go_returns
   exact⟨_,Z,wD ⟨Z,Z⟩,t.o _ _,d.o⟩
  ·have e:aT n (l,ur)=(l.take n,l.drop n,ur):=by simp[aT];omega
   rw[e];have hm:decide ((l.length:Int)<n)=false:=by simp;omega
   have K:(n:Int)≤l.length:=by omega
   have q:n≤l.length:=by omega
   have d:=Hd (H.o.q ur);rcases k with ⟨rfl,rfl⟩|⟨o,c,rfl,L,B,M,C⟩
   ·obtain rfl:n=0:=by simpa using q
    have r:=Hd (d.o.setLeft (l:=[]) (v:=O Y 0 0) (wD ⟨Z,Z⟩));have a:=Hd (ec (t.o 1 (xt ur)) 2 (O Y 0 0));clear h e
    go_enter Tryz.func54,Tryz.ntmps54
    go_wp2_with fail
    go_returns
    exact⟨_,Z,wD ⟨Z,Z⟩,a.o,r.o⟩
   ·have D:BytesAt W g l (O (A ⟨g,o,Y⟩) l.length c):=wF ⟨o,c,Z,L,B,M,C⟩;obtain⟨E,F⟩:=D.split q;have b:=h.ne;obtain⟨f,r,a⟩:=zz3 (fun i u j N=>(E.set b i u).set b j N) (fun P Q=>d.o.setLeft ((F P Q).set b 1 (xt ur))) (fun u=>ec (t.o 1 (xt ur)) 2 u);unfold maxLen at B;clear h e D E F C H d b;generalize x:l.length=m at *;clear x
    by_cases y:c=0
    ·subst y;obtain rfl:m=0:=by omega
     obtain rfl:n=0:=by omega
     go_enter Tryz.func54,Tryz.ntmps54
     go_wp2_with fail
     go_returns
     exact⟨_,Z,f.o _ _ _ _,a.o _,r.o _ (by omega)⟩
    ·by_cases z:c=n
     ·subst z;obtain rfl:m=c:=by omega
      go_enter Tryz.func54,Tryz.ntmps54
      go_wp2_with fail
      go_returns
      exact⟨_,Z,f.o _ _ _ _,a.o _,by have S:=r.o o (fun h=>absurd h (Nat.lt_irrefl _));rwa [Nat.sub_self]at S⟩
     ·go_enter Tryz.func54,Tryz.ntmps54
      go_wp2_with fail
      go_returns
      exact⟨_,Z,f.o _ _ _ _,a.o _,r.o _ (by omega)⟩
end
theorem Gy(l:List UInt8)(k:Nat)(c:UInt8)(h:l[k]?=A c):beI (l.take (k+1))=iw (beI (l.take k)*256+(c.toNat:Int)):=by
 unfold beI;rw[Kj,h,List.foldl_append];rfl
theorem Gj(n:Int):IntKind.wrap U n=iw n:=by
 unfold IntKind.wrap iw;simp only[IntKind.bits,IntKind.signed,Bool.true_and,oB,ge_iff_le];rfl
theorem Iw(acc:Int){a:Nat}(b:a<256):bits .or U (wrap64 (acc*256)) (a:Int)=iw (acc*256+(a:Int)):=by
 have c:(BitVec.ofInt 64 (wrap64 (acc*256))).toNat=2 ^ 8*((acc*256) % 18446744073709551616 / 256).toNat:=by
  rw[BitVec.toNat_ofInt];unfold wrap64;have:((2 ^ 64:Nat):Int)=18446744073709551616:=by decide
  rw[this];omega
 have d:(BitVec.ofInt 64 (a:Int)).toNat=a:=by
  rw[BitVec.toNat_ofInt];have:((2 ^ 64:Nat):Int)=18446744073709551616:=by decide
  rw[this];omega
 have e:(BitVec.ofInt 64 (wrap64 (acc*256)) ||| BitVec.ofInt 64 (a:Int)).toNat=2 ^ 8*((acc*256) % 18446744073709551616 / 256).toNat+a:=by rw[BitVec.toNat_or,c,d,Nat.two_pow_add_eq_or_of_lt (show a<2 ^ 8 from b)]
 show IntKind.wrap U ((BitVec.ofInt 64 (wrap64 (acc*256)) ||| BitVec.ofInt 64 (a:Int)).toNat:Int)=_
 rw[e,Gj];unfold iw
 split<;>split<;>omega
section
variable {W:J} {R g:Nat} {s:WSt}
def Hz(w:J) (t:List UInt8) (n i:tS) (W:J):Prop:=∃(a:J) (k:Nat),a=W∧w=a∧k≤t.length∧i=I U k∧n=I U (beI (t.take k))
theorem lw(h:bF W R g s)(n:Nat):vv va 79 #[vo (A ⟨R,0,Y⟩),I U n] W fun e W'=>e=wg (I U (aw n s).1)∧bv W R g (aw n s).2 W':=by
 have q:=Hd (tc h n);unfold aw;obtain⟨⟨t,s'⟩,a⟩:∃x,aT n s=x:=⟨_,rfl⟩;rw[a]at q ⊢;dsimp only at q ⊢;clear h a
 go_enter Tryz.func79,Tryz.ntmps79
 go_wp2_with fail
 refine q.o.mono ?_;rintro e z ⟨v,rfl,D,d⟩;have f:=Hd d;clear q d;rcases D with ⟨rfl,rfl⟩|⟨o,c,rfl,E,F,M,B⟩
 ·go_wp2_with fail
  go_loopw [5,12] (Hz z []) (fun _ i _=>0)
  case atStart=>exact⟨_,0,Z,Z,JM _,Z,Z⟩
  case round =>
   obtain⟨G,k,rfl,rfl,r,rfl,rfl⟩:=hrel;obtain rfl:k=0:=by simpa using r
   go_wp2_with fail
   go_ret;exact⟨Z,f.o⟩
 ·have H:=Hd B;have u:t.length≤9223372036854775807:=by unfold maxLen at F;omega
  obtain⟨m,hm⟩:=zzy (t.length);rw[hm]at E u ⊢;have j:=Hd hm;clear B hm;go_wp2_with fail
  go_loopw [5,12] (Hz z t) (fun _ i _=>m-(intOf i).toNat)
  case atStart=>exact⟨_,0,Z,Z,J0 _,Z,Z⟩
  case round =>
   obtain⟨G,k,rfl,rfl,r,rfl,rfl⟩:=hrel;rw[j.o]at r
   by_cases p:k<m
   ·obtain⟨b,w⟩:∃b,t[k]?=A b:=⟨t[k]'(by rw[j.o];exact p),JR (by rw[j.o];exact p)⟩;have N:=H.o k b w;have K:(k:Int)<m:=by omega
    have L:=Hd (Gy t k b w);have y:b.toNat<256:=b.toNat_lt;generalize b.toNat=P at *;generalize beI (t.take k)=acc at *;clear w;go_wp2_with fail
    refine⟨⟨_,k+1,Z,Z,by rw[j.o];omega,by go_num,?_⟩,by simp[intOf];omega⟩;rw[Iw acc y,L.o]
   ·obtain rfl:k=m:=by omega
    have C:beI (t.take k)=beI t:=by rw[←j.o,List.take_length]
    rw[C];clear C;go_wp2_with fail
    go_ret;exact⟨Z,f.o⟩
theorem lT(h:bF W R g s):vv va 56 #[vo (A ⟨R,0,Y⟩)] W fun e W'=>e=wg (I U (aw 8 s).1)∧bv W R g (aw 8 s).2 W':=by
 obtain⟨c,d⟩:=zz2 (fB h) (lw h 8);clear h
 go_enter Tryz.func56,Tryz.ntmps56
 go_wp2_with fail
 refine c.o.mono ?_;rintro e w1 ⟨rfl,rfl⟩;go_wp2_with fail
 refine d.o.mono ?_;rintro e f ⟨rfl,a⟩;have b:=Hd a;clear a;go_wp2_with fail
 go_ret;exact⟨Z,b.o⟩
theorem mV(h:bF W R g s):vv va 59 #[vo (A ⟨R,0,Y⟩)] W fun e W'=>e=wg (I U (aw 8 s).1)∧bv W R g (aw 8 s).2 W':=by
 have c:=Hd (lw h 8);clear h
 go_enter Tryz.func59,Tryz.ntmps59
 go_wp2_with fail
 refine c.o.mono ?_;rintro e d ⟨rfl,a⟩;have b:=Hd a;clear a;go_wp2_with fail
 go_ret;exact⟨Z,b.o⟩
theorem Gh(s:WSt):0≤(aw 1 s).1∧(aw 1 s).1<256:=by
 have a:(aT 1 s).1.length≤1:=by
  unfold aT
  split
  ·exact J0 _
  ·exact List.length_take_le _ _
 show 0≤beI (aT 1 s).1∧beI (aT 1 s).1<256
 rw[kH _ (by omega)];have h:=gZ (aT 1 s).1;have:(256:Int) ^ (aT 1 s).1.length≤256:=by
  generalize (aT 1 s).1.length=k at a;have:k=0∨k=1:=by omega
  rcases this with rfl|rfl<;>decide
 omega
theorem AT(h:bF W R g s):vv va 109 #[vo (A ⟨R,0,Y⟩)] W fun e W'=>e=wg (I r8 (aw 1 s).1)∧bv W R g (aw 1 s).2 W':=by
 have c:=Hd (lw h 1);obtain⟨d,f⟩:=Gh s;generalize (aw 1 s).1=n at *;clear h
 go_enter Tryz.func109,Tryz.ntmps109
 go_wp2_with fail
 refine c.o.mono ?_;rintro e i ⟨rfl,a⟩;have b:=Hd a;clear a;go_wp2_with fail
 go_ret;exact⟨Z,b.o⟩
theorem pQ(h:bF W R g s):vv va 58 #[vo (A ⟨R,0,Y⟩)] W fun e W'=>e=wg (xt s.2)∧W=W':=by
 have a:=Hd (fB h);obtain⟨v,_,_,b,_⟩:=h.z;clear h
 go_enter Tryz.func58,Tryz.ntmps58
 go_wp2_with fail
 refine a.o.mono ?_;rintro e w1 ⟨rfl,rfl⟩;go_wp2_with fail
 go_ret;exact⟨Z,Z⟩
theorem sO(h:bF W R g s):vv va 37 #[vo (A ⟨R,0,Y⟩)] W fun e W'=>e=wg (xt (!s.2&&s.1.isEmpty))∧W=W':=by
 have f:=Hd (fB h);obtain⟨v,a,_,i,c2,_⟩:=h.z;obtain⟨p,c,rfl,_⟩:=a.q;have he:((s.1.length:Int)==0)=s.1.isEmpty:=by cases s.1<;>simp;omega
 clear h a;generalize s.1.isEmpty=em at *;generalize s.1.length=m at *;obtain⟨b,d⟩:=zzy (s.2);rw[d]at i ⊢;clear d
 go_enter Tryz.func37,Tryz.ntmps37
 go_wp2_with fail
 refine f.o.mono ?_;rintro e w1 ⟨rfl,rfl⟩
 cases b with
 | true =>
  go_wp2_with fail
  go_ret;exact⟨Z,Z⟩
 | false =>
  go_wp2_with fail
  go_ret;exact⟨by rw[←he];rfl,Z⟩
theorem mH(h:bF W R g s):vv va 55 #[vo (A ⟨R,0,Y⟩)] W fun e W'=>e=wg (I U ((bf s).1:Nat))∧bv W R g (bf s).2 W':=by
 have j:=Hd (lw h 4);have q:0≤(aw 4 s).1:=by
  have C:(aT 4 s).1.length≤4:=by
   unfold aT
   split
   ·exact J0 _
   ·exact List.length_take_le _ _
  show 0≤beI (aT 4 s).1
  rw[kH _ (by omega)];exact (gZ _).1
 unfold bf;obtain⟨⟨n,l,b⟩,u⟩:∃x,aw 4 s=x:=⟨_,rfl⟩;rw[u]at j q ⊢;dsimp only at j q ⊢;clear h u;have c:∀(f:Nat) (b':Bool),(b=tT→f=0∧b'=tT)→(b=ur→n≤65536→(f:Int)=n∧b'=ur)→(b=ur→65536<n→f=0∧b'=tT)→vv va 55 #[vo (A ⟨R,0,Y⟩)] W fun e W'=>e=wg (I U (f:Int))∧bv W R g (l,b') W':=by
  intro f b' k m p
  go_enter Tryz.func55,Tryz.ntmps55
  go_wp2_with fail
  refine j.o.mono ?_;rintro e D ⟨rfl,a⟩;obtain⟨v,w,_,y,c2,f1,f2⟩:=a.2.z;have r:=Hd (fun b=>(⟨ec a.1 1 (xt b),a.2.q b⟩:bv W R g (l,b) _));clear a w j;dsimp only at y
  cases b with
  | true =>
   obtain⟨rfl,rfl⟩:=k Z;clear k m p;go_wp2_with fail
   go_ret;exact⟨Z,r.o tT⟩
  | false =>
   by_cases hm:n≤65536
   ·obtain⟨d,rfl⟩:=m Z hm;have d:=Hd d;clear k m p;go_wp2_with fail
    go_ret;have z:decide (65536<n)=false:=by simp;omega
    exact⟨by rw[d.o];rfl,by rw[z];exact r.o ur⟩
   ·have t:65536<n:=by omega
    obtain⟨rfl,rfl⟩:=p Z t;clear k m p;go_wp2_with fail
    go_ret;exact⟨Z,r.o tT⟩
 split
 ·rename_i i
  refine c 0 tT (fun _=>⟨Z,Z⟩) (fun B hm=>?_) (fun _ _=>⟨Z,Z⟩);rw[B]at i;simp at i;omega
 ·rename_i i
  simp at i;obtain⟨rfl,hm⟩:=i;exact c n.toNat ur (fun h=>by cases h) (fun _ _=>⟨Int.toNat_of_nonneg q,Z⟩) (fun _ h=>by omega)
end
section
variable {W:J} {R g:Nat} {s:WSt}
theorem BytesAt.h{l:List UInt8}{v:tS}(h:BytesAt W g l v):(convert 29 9 v).run va W=.ok (r9 ⟨l.toArray⟩) W:=by
 rcases h with ⟨rfl,rfl⟩|⟨o,c,rfl,_,_,_,a⟩
 ·exact Lib.run_convert_nil_bytes W _ _ 5 0 Tryz.underlying29 Tryz.underlying5 Tryz.underlying9
 ·exact run_convert_bytes_back W _ _ 5 _ c l Tryz.underlying29 Tryz.underlying5 Tryz.underlying9 fun j b=>by rw[Addr.add_mid];exact a j _ (JR b)
def TxS(W:J) (R g:Nat) (s s1 s2:WSt):Nat→J→Prop
 | 0,V=>bv W R g s V
 | 1,V=>bv W R g s1 V
 | _+2,V=>bv W R g s2 V
def TxP(g n:Nat) (t:List UInt8) (k:Nat) (V:J) (xs:List tS):Prop:=
 if k=6 then xs.getD 0 xk=I U n else if k=7 then BytesAt V g t (xs.getD 0 xk) else True
theorem TxP.K{g n R:Nat}{t:List UInt8}{k:Nat}{V f:J}{xs:List tS}(a:R≠g)(h:TxP g n t k V xs)(j:V.grownBy f (A R)):TxP g n t k f xs:=by
 unfold TxP at h ⊢
 split
 ·rename_i d;rw[oj d]at h;exact h
 ·rename_i d
  rw[oe d]at h
  split
  ·rename_i p
   rw[oj p]at h;rcases h with h|⟨o,c,e,q,r,m,u⟩
   ·exact wD h
   ·have w:=j.block g m (fun e=>a (by injection e with e;exact e.symm))
    exact wF ⟨o,c,e,q,r,JS m j.size,fun i b hi=>(me w _).trans (u i b hi)⟩
  ·trivial
theorem sM(h:bF W R g s):vv va 29 #[vo (A ⟨R,0,Y⟩)] W fun e W'=>e=wg (r9 (dO s).1)∧bv W R g (dO s).2 W':=by
 have L:=Hd (fB h);have j:bv W R g s W.drew:=⟨⟨Z,Z,Z,JM _,fun _ _ _=>rfl⟩,h.K Z Z (JM _)⟩;have k:=h.ne;have H:=Hd j;unfold dO;obtain⟨⟨n,s1⟩,a⟩:∃x,bf s=x:=⟨_,rfl⟩;have F:Hid (∀V,bv W R g s V→vv va 55 #[vo (A ⟨R,0,Y⟩)] V fun e W'=>e=wg (I U (n:Nat))∧bv V R g s1 W'):=fun V z=>by
  have:=mH z.2;rw[a]at this;exact this
 rw[a];dsimp only;obtain⟨⟨t,s2⟩,b⟩:∃x,aT n s1=x:=⟨_,rfl⟩;have m:Hid (∀V,bv W R g s1 V→vv va 54 #[vo (A ⟨R,0,Y⟩),I U n] V fun e W'=>∃v,e=wg v∧BytesAt W' g t v∧bv V R g s2 W'):=fun V z=>by
  have:=tc z.2 n;rw[b]at this;exact this
 rw[b];dsimp only;have B:=Hd k;clear h j a b k
 go_enter Tryz.func29,Tryz.ntmps29
 go_wp2_with fail
 refine L.o.mono ?_;rintro e w1 ⟨rfl,rfl⟩;go_upto_region 3 with fail
 refine RE.z (by kernel_rfl) 8 [6,7] [6,7] (TxS W R g s s1 s2) (fun V C=>V.grownBy C (A R)) (fun _ w=>w.getD 0 xk) (TxP g n t) (by kernel_rfl) (fun i j d _ _ _ _ _=>by rw[d]at j;cases j) (fun _ _ _ _ h _ M=>h.K B.o M) H.o ?_;simp only[JY,J7,JZ,J6]
 repeat (refine RE.q (fun _=>True) (fun _ _ _ _=>trivial) Z Z Z H.o ?_;go_big_quiet_step (fail);refine wpQuiet_nil ?_)
 refine RE.h Z Z ?_ (fun xs=>?_)
 ·intro V _ f _;have q:bv W R g s V:=f Z;refine RE.C 55 _ _ Z (enters_of Tryz.func55 (by kernel_rfl) Z) #[vo (A ⟨R,0,Y⟩)] (by simp[Act.eval]) ((F.o V q).mono ?_);rintro e C ⟨rfl,d⟩;exact⟨_,Z,[I U n],Z,q.h d,d.1,Z⟩
 simp only[Act.put,JP,JW,JV];refine RE.h Z Z ?_ (fun w=>?_)
 ·intro V _ f y;have q:bv W R g s1 V:=f Z;have N:xs.getD 0 xk=I U n:=y 6 xs (by kernel_rfl) Z;refine RE.C 54 _ _ Z (enters_of Tryz.func54 (by kernel_rfl) Z) #[vo (A ⟨R,0,Y⟩),I U n] (by simp[Act.eval,←N]) ((m.o V q).mono ?_);rintro e C ⟨v,rfl,r,d⟩;exact⟨_,Z,[v],Z,q.h d,d.1,r⟩
 simp only[Act.put,JP,JW,JV];refine RE.u ?_;intro G f y;have u:bv W R g s2 G:=f;have r:BytesAt G g t (w.getD 0 xk):=y 7 w Z;have D:=r.h;obtain⟨p,c,K,_⟩:=r.q;rw[K]at D ⊢;have E:=Hd u;clear u r y f H F m K;generalize t.length=P at *;go_wp2_with fail
 go_ret;exact⟨Z,E.o⟩
end
def kh(v:aE):Value:=wP #[I r8 v.q,I U v.u,r9 v.h]
theorem aL{W:J}{b:Nat}{a c c2:tS}{t:TypeId}(h:W.heap[b]?=A (r7 #[a,c,c2] t (0,0))):W.cell? ⟨b,0,Y⟩=A a∧W.cell? ⟨b,1,Y⟩=A c∧W.cell? ⟨b,2,Y⟩=A c2∧W.frozen? ⟨b,0,Y⟩=ur∧W.frozen? ⟨b,1,Y⟩=ur∧W.frozen? ⟨b,2,Y⟩=false:=
 ⟨by simp[At,h],by simp[At,h],by simp[At,h],aB h 0,aB h 1,aB h 2⟩
theorem mJ(w:J)(a b c:Obj):Kr w (((w.alloc a).alloc b).alloc c)∧(((w.alloc a).alloc b).alloc c).heap[w.heap.size]?=A a∧(((w.alloc a).alloc b).alloc c).heap[w.heap.size+1]?=A b∧(((w.alloc a).alloc b).alloc c).heap[w.heap.size+1+1]?=A c:=by
 obtain⟨e,f,_⟩:=bc w a b;have d:Below ((w.alloc a).alloc b).heap.size ((w.alloc a).alloc b) (((w.alloc a).alloc b).alloc c):=(JO _ _).alloc (JM _) _;have h:((w.alloc a).alloc b).heap.size=w.heap.size+2:=by simp
 refine⟨(((JO _ w).alloc (JM _) _).alloc (by simp) _).alloc (by simp;omega) _,(d.block _ (by omega)).trans e,(d.block _ (by omega)).trans f,?_⟩;have:=oc ((w.alloc a).alloc b) c;rw[h]at this;exact this
theorem pL{W:J}{b:Nat}{a c c2:tS}{t:TypeId}(h:W.heap[b]?=A (r7 #[a,c,c2] t (0,0)))(x y z:tS):(((W.setCell ⟨b,0,Y⟩ x).setCell ⟨b,1,Y⟩ y).setCell ⟨b,2,Y⟩ z).heap[b]?=A (r7 #[x,y,z] t (0,0)):=by rw[heap_set (heap_set (heap_set h 0 x) 1 y) 2 z];rfl
theorem fx{W:J}{f:Func}{t b:Nat}{ty:TypeId}{x y z:tS}{tmps:Array tS}{R:Ending→J→Prop}(e:f.results=#[.cell t ty])(a:(isAgg ty).run va W=.ok tT W)(c:(Go.sizeOf ty).run va W=.ok 3 W)(i:tmps.getD t xk=vo (A ⟨b,0,Y⟩))
  (h:W.heap[b]?=A (r7 #[x,y,z] ty (0,0))) (j:R (wg (wP #[x,y,z])) W):bodyPost va f R .ret ⟨tmps,[]⟩ W:=by
 obtain⟨k,m,c2,_⟩:=aL h;have d:tmps[t]?.getD xk=vo (A ⟨b,0,Y⟩):=by simpa using i
 refine bodyPost_ret (v:=wP #[x,y,z]) ?_ Z j;simp[results,e,go_sem,d,a,c,k,m,c2]
section
variable {W:J} {R g:Nat} {s:WSt}
theorem tY(h:bF W R g s)(v:aE):vv va 110 #[vo (A ⟨R,0,Y⟩),kh v] W fun e W'=>e=wg (kh (if s.2 then .zero else v))∧Kr W W':=by
 have u:=h.lt;obtain⟨k,n,t⟩:=v;obtain⟨l,b⟩:=s;obtain⟨w1,a⟩:=zzx (((W.alloc (r7 #[I r8 k,I U n,r9 t] 88)).alloc (r7 #[I r8 0,I U 0,r9 ⟨#[]⟩] 88)).alloc (r7 #[I r8 0,I U 0,r9 ⟨#[]⟩] 88));obtain⟨c,f,d,i⟩:=mJ W (r7 #[I r8 k,I U n,r9 t] 88) (r7 #[I r8 0,I U 0,r9 ⟨#[]⟩] 88) (r7 #[I r8 0,I U 0,r9 ⟨#[]⟩] 88);rw[←a]at c f d i;obtain⟨_,_,_,r,_⟩:=(h.C c).z;obtain⟨w,x,x2,_⟩:=aL f;obtain⟨y,z,B,f0,f1,f2⟩:=aL d;obtain⟨z0,C,z2,_⟩:=aL i;obtain⟨j,m,q⟩:=zz3 (pL d) c a;dsimp only at r ⊢;unfold kh;clear h f d i c a
 go_enter Tryz.func110,Tryz.ntmps110
 go_upto_region 2 with fail
 change Code.wp _ _ _ _ (((W.alloc (r7 #[I r8 k,I U n,r9 t] 88)).alloc (r7 #[I r8 0,I U 0,r9 ⟨#[]⟩] 88)).alloc (r7 #[I r8 0,I U 0,r9 ⟨#[]⟩] 88));rw[←q.o];clear q
 cases b with
 | true =>
  go_wp2_with fail
  exact fx Tryz.results110 (by simp[go_sem]) (by simp[go_sem]) Z (j.o _ _ _) ⟨Z,((m.o.setCell (p:=⟨W.heap.size+1,0,Y⟩) (J9 _) _).setCell (p:=⟨W.heap.size+1,1,Y⟩) (J9 _) _).setCell (p:=⟨W.heap.size+1,2,Y⟩) (J9 _) _⟩
 | false =>
  go_wp2_with fail
  exact fx Tryz.results110 (by simp[go_sem]) (by simp[go_sem]) Z (j.o _ _ _) ⟨Z,((m.o.setCell (p:=⟨W.heap.size+1,0,Y⟩) (J9 _) _).setCell (p:=⟨W.heap.size+1,1,Y⟩) (J9 _) _).setCell (p:=⟨W.heap.size+1,2,Y⟩) (J9 _) _⟩
end
