/- Parts of one proof, joined; conditions stand in each theorem. -/
import Derived.Test.YtmpekinjoeibbaaGreatDoorGB
import Derived.Test.YtmpekinjoeibbaaGreatDoorMT
import Derived.Test.YtmpekinjoeibbaaGreatDoorNC
open Go.Value renaming slice→O,string→p9,int→I,agg→s3,bool→ur,pointer→tv
open Option renaming some→A,none→V
open Go renaming World→p7,TypeId→vn,Value→r3,undef→tT,Calls→r9,wpQuiet_nil→vk
open Go.Obj renaming cells→p8
open Go.IntKind renaming i64→Y
open Or renaming inl→tE,inr→tS
open Go.Proofs.Tryz renaming prog→r6
open Go.Act renaming put→wj
namespace Go.Proofs.YtmpekinjoeibbaaGreatDoor
set_option maxHeartbeats 20000000
set_option maxRecDepth 100000
open Go.RowKit
def cg(blk:Nat→Nat→Nat) (k i:Nat):List Value:=[O (A ⟨blk k i,0,V⟩) 1 1,O V 0 0]
theorem iu(blk:Nat→Nat→Nat)(k i:Nat):(cg blk k i).length=2:=rfl
def TB(blk:Nat→Nat→Nat) (U:Nat→Nat→Prop) (W:p7):Prop:=∀j m,U j m→W.heap[blk j m]?=A (p8 #[p9 ⟨#[]⟩,I Y (mkA j m)] 41 (0,0))
def upB(blk:Nat→Nat→Nat) (k i g:Nat) (j m:Nat):Nat:=if j=k∧m=i then g else blk j m
section
variable {blk:Nat→Nat→Nat} {U U':Nat→Nat→Prop} {W W':p7} {k i g n j:Nat}
theorem TB.C(h:TB blk U W)(a:FS W W'):TB blk U W':=fun j m hu=>(a.block _ (ES.1 (h j m hu)).1).trans (h j m hu)
theorem TB.N(h:TB blk U W)(a:∀j m,U' j m→U j m):TB blk U' W:=fun j m hu=>h j m (a j m hu)
theorem TB.other{E:vn}{cs:Array r3}(h:TB blk U W)(c:W.heap[g]?=A (p8 cs E (0,0)))(d:E≠41)(f:∀b,b<W.heap.size→b≠g→W'.heap[b]?=W.heap[b]?):TB blk U W':=fun j m hu=>by
 have a:=h j m hu;refine (f _ (ES.1 a).1 fun e=>?_).trans a;rw[e,c]at a;injection a with a
 injection a with _ a
 exact d a
theorem TB.gone{E:vn}{z B m:Nat}{v f:r3}{xs:List r3}(h:TB blk U W)(l:W.ownsRow B E z v n xs)(o:E≠41)(a:Gone W W' v f n m):TB blk U W':=by
 rcases a with ⟨g,cap,rfl,_,a⟩|⟨cap,_,c⟩
 ·obtain⟨cs,p⟩:=mM l (g:=g) Z;exact h.other p o fun b c d=>a.block b c (fun e=>d (by injection e))
 ·exact h.C c
theorem TB.up(h:TB blk U W)(a:FS W W')(b:W'.heap[g]?=A (p8 #[p9 ⟨#[]⟩,I Y (mkA k i)] 41 (0,0)))(c:∀j m,U' j m→U j m∨(j=k∧m=i)):TB (upB blk k i g) U' W':=fun j m hu=>by
 unfold upB
 split
 ·rename_i e
  rw[e.1,e.2];exact b
 ·rename_i e
  exact h.C a j m ((c j m hu).resolve_right e)
theorem uE:cg (upB blk k i g) k i=[O (A ⟨g,0,V⟩) 1 1,O V 0 0]:=by
 unfold cg upB;rw[oA ⟨Z,Z⟩]
theorem jB:∀{n:Nat},(j≠k∨n≤i)→aI (cg (upB blk k i g)) j n=aI (cg blk) j n
 | 0,_=>rfl
 | n+1,h=>by
  have e:cg (upB blk k i g) j n=cg blk j n:=by
   unfold cg upB;rw[ox (by omega)]
  rw[dR,dR,jB (n:=n) (h.imp id (by omega)),e]
theorem EG{xs:List r3}(h:q1 2 (cg blk) k i j n xs):q1 2 (cg (upB blk k i g)) k i j n xs:=
 ⟨fun a=>by rw[jB (tE (by omega))];exact h.1 a,fun a=>by rw[jB (tS (ET _))];exact h.2 a⟩
theorem Bd{E S:vn}{z B b0:Nat}{c0:Array r3}{D:List (r3×Nat)}{q a:Nat→Nat→List r3→Prop}(h:Fm E S z B b0 c0 D q W)(d:∀k v n xs,D[k]?=A (v,n)→q k n xs→a k n xs):Fm E S z B b0 c0 D a W:=
 ⟨h.1,fun k v n b=>(h.2 k v n b).imp fun xs c=>⟨c.1,d k v n xs b c.2⟩⟩
theorem Ep{E S:vn}{z B b1:Nat}{D:List (r3×Nat)}{q a:Nat→Nat→List r3→Prop}(h:Gs E S z B b1 D k q W)(c:∀j n xs,j<k→q j n xs→a j n xs):Gs E S z B b1 D k a W:=by
 obtain⟨c1,d,e,f⟩:=h;refine⟨c1,d,e,fun j v n b l=>?_⟩;obtain⟨m,ys,a1,a2,a3,a4⟩:=f j v n b l;exact⟨m,ys,a1,a2,c j n ys b a3,a4⟩
end
theorem TB.gone_set{E S:vn}{z B b1 m a:Nat}{v p u:r3}{xs:List r3}{c1:Array r3}{blk:Nat→Nat→Nat}{U:Nat→Nat→Prop}{W W':p7}{n:Nat}(h:TB blk U W)(o:W.ownsRow B E z v n xs)(q:E≠41)(r:S≠41)(f:S≠E)(c:W.heap[b1]?=A (p8 c1 S (0,0)))(d:Gone W W' v p n m):TB blk U (W'.setCell ⟨b1,a,V⟩ u):=by
 have s:=h.gone o q d;have t:W'.heap[b1]?=A (p8 c1 S (0,0)):=by
  rcases d with ⟨g,cap,rfl,_,d⟩|⟨cap,_,x⟩
  ·refine aJ d c fun e=>?_
   injection e with e
   exact eA f o c (by rw[e];rfl)
  ·exact (x.block b1 (ES.1 c).1).trans c
 exact s.other t r fun b _ l=>o7 _ _ _ _ l
def kW(W W':p7):Prop:=∀(b:Nat) (o:Obj),W.heap[b]?=A o→W'.heap[b]?=A o
theorem kW.b{W W':p7}(h:FS W W'):kW W W':=fun b _ a=>(h.block b (ES.1 a).1).trans a
def RMk(k i L:Nat) (W:p7) (xs:List r3):Prop:=∃g,xs=[O (A ⟨g,0,V⟩) 1 1]∧L≤g∧W.heap[g]?=A (p8 #[p9 ⟨#[]⟩,I Y (mkA k i)] 41 (0,0))
theorem RMk.t{k i L:Nat}{W W':p7}{xs:List r3}(h:RMk k i L W xs)(a:kW W W'):RMk k i L W' xs:=by
 obtain⟨g,b,c,d⟩:=h;exact⟨g,b,c,a _ _ d⟩
def rkV(a b i:Nat) (ys:List r3):Value:=if i=a∨i=b then s3 #[ys.getD 0 tT,O V 0 0] else ur true
theorem yr{a b:Nat}{ys:List r3}:rkV a b a ys=s3 #[ys.getD 0 tT,O V 0 0]:=oA (tE Z)
theorem Dm{a b:Nat}{ys:List r3}:rkV a b b ys=s3 #[ys.getD 0 tT,O V 0 0]:=oA (tS Z)
theorem pQ{a b i:Nat}{ys:List r3}(h:i≠a∧i≠b):rkV a b i ys=ur true:=ox (by omega)
section
variable (B b0 b1:Nat) (c0:Array r3) (D:List (r3×Nat)) (w W0:p7)
def EQ(i:r3) (W:p7):Prop:=
 ∃(a:p7) (k:Nat) (blk:Nat→Nat→Nat),a=W∧k≤D.length∧i=I Y k∧Chg (Dg D) w a∧B≤a.heap.size∧Fm 26 34 2 B b0 c0 D (q1 2 (cg blk) k 0) a∧TB blk (fun j m=>j<k∧m<1) a
def EP(k n:Nat) (i:r3) (W:p7):Prop:=
 ∃(b:p7) (j:Nat) (blk:Nat→Nat→Nat),b=W∧j≤n∧i=I Y j∧Chg (Dg D) w b∧B≤b.heap.size∧Fm 26 34 2 B b0 c0 D (q1 2 (cg blk) k j) b∧TB blk (fun a m=>(a<k∧m<1)∨(a=k∧m<j)) b
def ni(blk:Nat→Nat→Nat) (j n:Nat) (ys:List r3):Prop:=ys=aI (cg blk) j (n+64)
def EI(i:r3) (W:p7):Prop:=
 ∃(a:p7) (k:Nat) (blk:Nat→Nat→Nat),a=W∧k≤D.length∧i=I Y k∧Chg (Dg D) w a∧B≤a.heap.size∧Fm 26 34 2 B b0 c0 D (qM (cg blk)) a∧Gs 26 34 2 B b1 D k (ni blk) a∧
  TB blk (fun j m=>j<D.length∧(m<1∨(j<k∧m<65))) a
def ER(k n:Nat) (v g i:r3) (W:p7):Prop:=
 ∃(b:p7) (j:Nat) (blk:Nat→Nat→Nat),b=W∧j≤64∧i=I Y j∧Chg (Dg D) w b∧B≤b.heap.size∧Gr4 26 34 2 (cg blk) B b0 c0 W0 k n v g j b∧
  Fm 26 34 2 B b0 c0 D (qM (cg blk)) W0∧Gs 26 34 2 B b1 D k (ni blk) W0∧TB blk (fun a m=>a<D.length∧(m<1∨(a<k∧m<65)∨(a=k∧m<1+j))) b
end
theorem oK:(Tryz.prog.info? 26).map (fun i=>(i.zero,i.size,i.bytes))=A (A (s3 #[O V 0 0,O V 0 0]),2,48):=by kernel_rfl
theorem Ay(W:p7):∃C:Array r3,C.size=64*2∧(∀u∈C.toList,u.oneCell'=true)∧(Instr.makeSlice 34 (I Y 64) (I Y 64)).run r6 W=.ok (O (A ⟨W.heap.size,0,V⟩) 64 64) (W.alloc (p8 C 26)):=gW (S:=34) (E:=26) (z:=2) Tryz.underlying34 oK (by decide) (by kernel_rfl) (by decide) (by kernel_rfl) W
theorem wm{W:p7}{tmps:Array r3}{R:Ending→p7→Prop}{r:Nat}{c0 c1:r3}(c:tmps.getD 4 tT=tv (A ⟨r,0,V⟩))(b:W.heap[r]?=A (p8 #[c0,c1] 26 (0,0)))(d:R (Ending.returned (s3 #[c0,c1])) W):bodyPost r6 Tryz.f132 R .ret ⟨tmps,[]⟩ W:=by
 have d0:W.cell? ⟨r,0,V⟩=A c0:=by simp[World.cell?,b]
 have d1:W.cell? ⟨r,1,V⟩=A c1:=by simp[World.cell?,b]
 have a:tmps[4]?.getD tT=tv (A ⟨r,0,V⟩):=by simpa using c
 refine bodyPost_ret (v:=s3 #[c0,c1]) ?_ Z d;simp[results,Tryz.results132,go_sem,a,d0,d1]
def yl(k i:Nat) (w:p7) (e:Ending) (w':p7):Prop:=∃g,e=Ending.returned (s3 #[O (A ⟨g,0,V⟩) 1 1,O V 0 0])∧FS w w'∧w.heap.size≤g∧w'.heap[g]?=A (p8 #[p9 ⟨#[]⟩,I Y (mkA k i)] 41 (0,0))
theorem i9(k i:Nat)(w:p7)(f:k≤1000000)(h:i≤1000000):r9 r6 132 #[I Y k,I Y i] w (yl k i w):=by
 have l:=Hd (fun W=>mk_any k i W f h);clear f h
 go_enter Tryz.func132,Tryz.ntmps132
 go_wp2_with (first
  | (go_at_call 116;refine Ff (l.o _) ?_;rintro e w' ⟨rfl,rfl⟩))
 obtain⟨b,a⟩:=zzx (w.alloc (p8 #[O (A ⟨w.heap.size+1,0,V⟩) 1 1,O V 0 0] 26));have c:b.heap.size=w.heap.size+1:=by rw[a];simp
 have m:b.heap[w.heap.size]?=A (p8 #[O (A ⟨w.heap.size+1,0,V⟩) 1 1,O V 0 0] 26 (0,0)):=by rw[a];exact ot w _
 have d:FS w b:=by rw[a];exact (EU _ w).alloc (ET _) _
 refine wm (r:=w.heap.size) Z ((heap_alloc_old _ _ (by rw[←a,c];omega)).trans (by rw[←a];exact m)) ⟨w.heap.size+1,Z,by rw[←a];exact d.alloc (by omega) _,by omega,?_⟩;rw[←a,←c];exact ot b _
theorem ly{k i a b:Nat}{w:p7}(l:k≤1000000)(o:i≤1000000)(d:w.heap[a]?=A (p8 #[p9 ⟨#[]⟩,I Y (mkA k i)] 41 (0,0)))(p:w.heap[b]?=A (p8 #[p9 ⟨#[]⟩,I Y (mkA k i)] 41 (0,0))) :
  r9 r6 6 #[s3 #[O (A ⟨a,0,V⟩) 1 1,O V 0 0],s3 #[O (A ⟨b,0,V⟩) 1 1,O V 0 0]] w fun e w'=>e=Ending.returned (ur true)∧FS w w':=by
 have f:∀a,w.heap[a]?=A (p8 #[p9 ⟨#[]⟩,I Y (mkA k i)] 41 (0,0))→(ko 0).at_ w (fun b=>b<w.heap.size) ⟨[⟨⟨#[]⟩,mkA k i⟩],[]⟩ [O (A ⟨a,0,V⟩) 1 1,O V 0 0]:=fun a d=>by
  have c:=(ES.1 d).1;refine md.2 ⟨_,_,Z,tS ⟨a,0,1,by simp,c,c,by simp,by decide,Z,fun j x h=>?_⟩,Rd.sv⟩;obtain rfl:j=0:=by
   have:=(Fo.1 h).1
   simpa using this
  obtain rfl:(⟨⟨#[]⟩,mkA k i⟩:ap)=x:=by simpa using h
  refine⟨_,fW.2 ⟨Z,Fi _,kG l o⟩,fun m u hu=>?_⟩;rw[show 0+0*cN.n+m=m by omega,FR _ _ _ _ _ _ d]
  match m,hu with
  | 0,hu=>exact hu
  | 1,hu=>exact hu
  | m+2,hu=>simp[Dl]at hu
 exact mZ 0 _ _ _ w (f a d) (f b p)
theorem pp{w:p7}{B b0 gT:Nat}{c0:Array r3}{D:List (r3×Nat)}(hI:FIn B b0 c0 D)(hF:Fm 26 34 2 B b0 c0 D (fun _ _ _=>True) w)(hB:B≤w.heap.size)(dr:∀(k:Nat)(v:r3)(n:Nat),D[k]?=A (v,n)→n=1) :
  r9 r6 72 #[O (A ⟨b0,0,V⟩) D.length gT] w (dZ D w):=by
 obtain⟨N,hN⟩:=zzy (D.length);have kr:N≤100000:=by rw[←hN];exact hI.N
 rw[hN];obtain⟨ti,hc,hf,hh,hl⟩:=info_parts oK;obtain⟨HI,HU,HF,HN⟩:=zz4 hI dr hF hN;clear hI hF hN dr
 go_enter Tryz.func72,Tryz.ntmps72
 go_wp2
 go_loopw [3] (EQ B b0 c0 D w) (fun i _=>N-(intOf i).toNat)
 case atStart=>exact⟨_,0,fun _ _=>0,Z,Fi _,Z,Chg.y _ _,hB,⟨HF.o.1,fun k v n h=>(HF.o.2 k v n h).imp fun xs h=>⟨h.1,fun h=>absurd h (Nat.not_lt_zero _),fun _=>rfl⟩⟩,fun j m h=>absurd h.1 (Nat.not_lt_zero _)⟩
 case round =>
  obtain⟨W1,k,blk,rfl,hk,rfl,hb,hs,hm,hp⟩:=hrel;have ht:=Hd hp;clear hp;rw[HN.o]at hk;have nt:(0:Int)≤k:=by omega
  have nu:(N:Int)≤100000:=by omega
  obtain⟨HM,HB⟩:=zz2 hm hb;clear hm hb
  by_cases z:k<N
  ·obtain⟨⟨v,n⟩,Q⟩:∃d,D[k]?=A d:=⟨_,EX (by rw[HN.o];exact z)⟩;have hn:=HI.o.n k v n Q;have HD:=Hd Q;have c5:(k:Int)<N:=by omega
   have c6:(0:Int)≤n:=by omega
   have ad:(n:Int)≤20000:=by omega
   clear Q
   go_wp2
   go_loopw [4] (EP B b0 c0 D w k n) (fun i _=>n-(intOf i).toNat)
   case atStart=>exact⟨_,0,blk,Z,Fi _,Z,HB.o,hs,HM.o,ht.o.N fun a m h=>h.resolve_right fun h=>Nat.not_lt_zero _ h.2⟩
   case round =>
    obtain⟨W2,i,blk,rfl,hi,rfl,hy,hz,c7,ds⟩:=hrel;have dv:=Hd ds;clear ds;have c8:(0:Int)≤i:=by omega
    obtain⟨xs,r,hq⟩:=c7.2 k v n HD.o;obtain⟨p,c,rfl⟩:=aC r;have hv:W2.cell? ⟨b0,k,V⟩=A (O p n c):=by rw[FR _ _ _ _ _ _ c7.1];exact HI.o.b k _ n HD.o
    obtain⟨fz,hA,HO,HQ⟩:=zz4 c7 hy r hq;clear c7 hy r hq
    by_cases eg:i<n
    ·have b7:(i:Int)<n:=by omega
     obtain⟨g,c',cb,hD⟩:=aU HO.o (by omega);injection cb with h1 h2 h3
     subst h1;clear h2 h3;have ks:i*2+2≤xs.length:=by rw[HO.o.1];omega
     have HV:=fun x:Wb W2=>x.b hv
     have kv:k≤1000000:=by omega
     have kI:i≤1000000:=by omega
     go_wp2
     refine RE.t (by kernel_rfl) 9 [7] [7] (fun _ W=>∃x:Wb W2,W=x.1) kW (fun _ xs=>s3 #[xs.getD 0 tT,O V 0 0]) (fun _=>RMk k i W2.heap.size) (by kernel_rfl) (fun i h1 h2=>by rw[h1]at h2;cases h2) (fun _ _ _ _ h _ hr=>h.t hr) ⟨⟨W2.drew,(EU _ _).drew⟩,Z⟩ ?_;simp only[Fg,Fu,Fh,Ft];have hG:∀(n s:Nat) (W:p7),s≤n→(∃x:Wb W2,W=x.1)→∃x:Wb W2,W=x.1:=fun _ _ _ _ h=>h
     have hH:=Hd hG;clear hG
     repeat (refine RE.h (fun W=>∃x:Wb W2,W=x.1) (hH.o _) Z Z Z ⟨⟨W2.drew,(EU _ _).drew⟩,Z⟩ ?_;go_big_quiet_step (fail);refine vk ?_)
     refine RE.b Z Z ?_ (fun k0=>?_)
     ·intro W _ hS _;obtain⟨x,rfl⟩:=hS Z;refine RE.u 132 _ _ Z (enters_of Tryz.func132 (by kernel_rfl) Z) #[I Y k,I Y i] (by simp[Act.eval]) ((i9 k i x.1 kv kI).mono ?_);rintro e W' ⟨t,rfl,f,c9,l⟩;exact⟨_,Z,[O (A ⟨t,0,V⟩) 1 1],Z,⟨⟨W',x.2.trans (f.mono x.2.size)⟩,Z⟩,kW.b f,t,Z,EZ x.2.size c9,l⟩
     simp only[wj,EV,Fe,Fc]
     repeat (refine RE.h (fun W=>∃x:Wb W2,W=x.1) (hH.o _) Z Z Z ⟨⟨W2.drew,(EU _ _).drew⟩,Z⟩ ?_;go_big_quiet_step (fail);refine vk ?_)
     refine RE.q ?_;rintro W3 ⟨⟨W3,av⟩,rfl⟩ hE;obtain⟨t,k1,c9,l⟩:=hE 7 k0 Z;subst k1;have l:W3.heap[t]?=A (p8 #[p9 ⟨#[]⟩,I Y (mkA k i)] 41 (0,0)):=l;clear hE
     show wpList _ _ _ _ _ W3
     simp only[List.getD_cons_zero];have b8:=gJ.step (by decide) (iu (upB blk k i t)) HI.o HD.o eg (Bd fz.o fun _ _ _ _ _ h=>EG h) av;have bd:TB (upB blk k i t) (fun a m=>(a<k∧m<1)∨(a=k∧m<i+1)) (di W3 g (i*2) (cg (upB blk k i t) k i)):=by
      obtain⟨cs,k2⟩:=mM (ab HO.o av) (g:=g) Z;refine TB.other (g:=g) (dv.o.up av l fun a m h=>?_) k2 (by decide) fun b hb b9=>((dV (cg (upB blk k i t) k i) W3 xs (i*2) (ab HO.o av)).2.block b hb (fun e=>b9 (by injection e)))
      rcases h with h|⟨h1,h2⟩
      ·exact tE (tE h)
      ·rcases Nat.lt_or_ge m i with h3|h3
       ·exact tE (tS ⟨h1,h3⟩)
       ·exact tS ⟨h1,by omega⟩
     rw[uE]at bd b8;have ch:=Hd bd;clear bd l;have ck:=ab HO.o av;have z0:=ck.frozenAt (i*2);have z1:=ck.frozenAt (i*2+1);obtain⟨a0,y0⟩:=am ck (i*2) (by omega);obtain⟨a1,y1⟩:=am ck (i*2+1) (by omega);have HS:=Hd b8;have cl:Chg (Dg D) w W3:=hA.o.h (Chg.b av);have k3:Dg D g∨w.heap.size≤g:=tE ⟨k,_,n,HD.o,Z⟩;have bl:Chg (Dg D) w (di W3 g (i*2) [O (A ⟨t,0,V⟩) 1 1,O V 0 0]):=fy _ _ _ _ cl k3;have fI:B≤W3.heap.size:=EZ hz av.size;have fT:=Hd bl;clear b8 ck cl bl av HV ks
     go_wp2
     refine⟨⟨_,i+1,upB blk k i t,Z,by omega,by go_num,fT.o,?_,HS.o,ch.o⟩,by simp[intOf];omega⟩
     simpa [World.setCell]using fI
    ·obtain rfl:i=n:=by omega
     clear eg
     go_wp2
     refine⟨⟨_,k+1,blk,Z,by rw[HN.o];omega,by go_num,hA.o,hz,⟨fz.o.1,fun j u m hj=>?_⟩,dv.o.N fun a m h=>?_⟩,by simp[intOf];omega⟩
     rotate_left
     ·have:=HU.o k _ _ HD.o;have h:a<k+1∧m<1:=h;rcases Nat.lt_or_ge a k with h3|h3
      ·exact tE ⟨h3,h.2⟩
      ·exact tS ⟨by omega,by omega⟩
     obtain⟨ys,ho,hq⟩:=fz.o.2 j u m hj;refine⟨ys,ho,fun h=>?_,fun _=>rfl⟩
     by_cases k4:j=k
     ·subst k4;have k5:m=i:=by have:=HD.o;rw[hj]at this;simp only[oF,o6]at this;exact this.2
      subst k5;have:=hq.2 Z
      rwa [Fq (by rw[ho.1];exact ET _)]at this
     ·exact hq.1 (by omega)
  ·obtain rfl:N=k:=by omega
   clear z;obtain⟨C,hC,br⟩:=ie (R:=70) (S:=34) Tryz.underlying70 (by kernel_rfl) N kr W1;obtain⟨W3,bt⟩:=zzx (W1.alloc (p8 C 34));have hJ:Fm 26 34 2 B b0 c0 D (fun j n xs=>xs=aI (cg blk) j n) W3:=by
    rw[bt];refine⟨(heap_alloc_old W1 _ (ES.1 HM.o.1).1).trans HM.o.1,fun j v n hj=>?_⟩;obtain⟨xs,ho,hq⟩:=HM.o.2 j v n hj;exact⟨xs,ho.alloc _,hq.1 (by have:=(Fo.1 hj).1;rw[HN.o]at this;exact this)⟩
   have av:Chg (Dg D) w W3:=by rw[bt];exact HB.o.h (Chg.b ((EU _ W1).alloc (ET _) _))
   have fI:B≤W3.heap.size:=by rw[bt];simp;omega
   have ga:W3.heap[W1.heap.size]?=A (p8 C 34 (0,0)):=by rw[bt];exact ot W1 _
   obtain⟨b1,bn⟩:=zzy (W1.heap.size);have en:w.heap.size≤b1:=by rw[←bn];exact HB.o.u
   have b9:b0≠b1:=by have:=(ES.1 HM.o.1).1;omega
   rw[bn]at br ga;have bd:TB blk (fun j m=>j<N∧m<1) W3:=by rw[bt];exact ht.o.C ((EU _ W1).alloc (ET _) _)
   have ch:=Hd bd;clear bd;obtain⟨hK,hL,hO,HC⟩:=zz4 hJ av ga hC;clear hJ av ga hC bn
   go_wp2
   rw[←bt];clear bt
   go_loopw [6] (EI B b0 b1 c0 D w) (fun i _=>N-(intOf i).toNat)
   case atStart=>exact⟨_,0,blk,Z,Fi _,Z,hL.o,fI,hK.o,⟨C,hO.o,HC.o.trans HN.o.symm,fun j v n h=>absurd h (Nat.not_lt_zero _)⟩,ch.o.N fun j m h=>⟨by rw[←HN.o];exact h.1,by have:=h.2;omega⟩⟩
   case round =>
    obtain⟨W4,k,blk,rfl,k6,rfl,hP,hQ,hR,hT,eo⟩:=hrel;have b5:=Hd eo;clear eo;rw[HN.o]at k6;have ng:(0:Int)≤k:=by omega
    obtain⟨a6,da,cp⟩:=zz3 hR hP hT;clear hR hP hT hK hL hO HM HB HF
    by_cases z:k<N
    ·obtain⟨⟨v,n⟩,Q⟩:∃d,D[k]?=A d:=⟨_,EX (by rw[HN.o];exact z)⟩;have hn:=HI.o.n k v n Q;obtain⟨xs,r,hq⟩:=a6.o.2 k v n Q;obtain rfl:xs=aI (cg blk) k n:=hq;obtain⟨p,c,rfl⟩:=aC r;have hv:W4.cell? ⟨b0,k,V⟩=A (O p n c):=by rw[FR _ _ _ _ _ _ a6.o.1];exact HI.o.b k _ n Q
     obtain⟨HD,HO⟩:=zz2 Q r;have c5:(k:Int)<N:=by omega
     have c6:(0:Int)≤n:=by omega
     have ad:(n:Int)≤20000:=by omega
     clear Q r
     go_wp2
     go_loopw [7,8] (ER B b0 b1 c0 D w W4 k n (O p n c)) (fun _ i _=>64-(intOf i).toNat)
     case atStart=>exact⟨_,0,blk,Z,Fi _,Z,da.o,hQ,⟨a6.o.1,Chg.y _ _,HO.o,HO.o,tE Z⟩,a6.o,cp.o,b5.o.N fun a m h=>⟨h.1,by have:=h.2;omega⟩⟩
     case round =>
      obtain⟨W5,i,blk,rfl,hi,rfl,cr,dc,gb,er,et,ev⟩:=hrel;obtain⟨e0,e1,e2⟩:=zz3 er et ev;clear er et ev;have c8:(0:Int)≤i:=by omega
      have hU:(i:Int)≤64:=by omega
      obtain⟨ba,bB⟩:=zz2 cr gb;have nx:W5.cell? ⟨b0,k,V⟩=A (O p n c):=by rw[FR _ _ _ _ _ _ gb.b0];exact HI.o.b k _ n HD.o
      clear cr gb hv
      by_cases hV:i<64
      ·have b7:(i:Int)<64:=by omega
       have br:∀W,r9 r6 132 #[I Y k,I Y ((n:Int)+i)] W (yl k (n+i) W):=fun W=>by
        have h:=i9 k (n+i) W (by omega) (by omega)
        rwa [Int.natCast_add]at h
       have gf:=Hd br;clear br;go_wp2_with fail
       refine (gf.o W5).mono ?_;rintro e y ⟨t,rfl,G,c9,l⟩;have ad:=HU.o k _ _ HD.o;obtain⟨W7,bb⟩:=zzx (y.alloc (p8 (cg (upB blk k (n+i) t) k (n+i)).toArray 26));have E:FS W5 W7:=by rw[bb];exact G.alloc G.size _
       have e3:W7.heap[t]?=A (p8 #[p9 ⟨#[]⟩,I Y (mkA k (n+i))] 41 (0,0)):=by rw[bb];exact (heap_alloc_old y _ (ES.1 l).1).trans l
       have e4:TB (upB blk k (n+i) t) (fun a m=>a<D.length∧(m<1∨(a<k∧m<65)∨(a=k∧m<1+(i+1)))) W7:=e2.o.up E e3 fun a m h=>by
        have h:a<D.length∧(m<1∨(a<k∧m<65)∨(a=k∧m<1+(i+1))):=h
        show (a<D.length∧(m<1∨(a<k∧m<65)∨(a=k∧m<1+i)))∨(a=k∧m=n+i)
        omega
       have hW:Gr4 26 34 2 (cg (upB blk k (n+i) t)) B b0 c0 W4 k n (O p n c) u7 i W7:=by
        have h:=bB.o.C E;exact⟨h.b0,h.chg,by rw[jB (tS (ET _))];exact h.ri,by rw[jB (tS (Nat.le_add_right _ _))];exact h.rv,h.or⟩
       have hX:Fm 26 34 2 B b0 c0 D (qM (cg (upB blk k (n+i) t))) W4:=Bd e0.o fun a _ m xs Q h=>by
        have:=HU.o a _ _ Q;unfold qM;rw[jB (tS (by omega))];exact h
       have hY:Gs 26 34 2 B b1 D k (ni (upB blk k (n+i) t)) W4:=Ep e1.o fun a m xs ha h=>by
        unfold ni;rw[jB (tE (by omega))];exact h
       rw[uE]at bb;obtain⟨h0,k7,k8⟩:=zz3 e4 hX hY;clear e4 hX hY l e3 ad;have a7:∀j u,[O (A ⟨t,0,V⟩) 1 1,O V 0 0][j]?=A u→W7.cell? ((⟨y.heap.size,0,V⟩:Addr).add j)=A u:=by rw[bb];exact dp y _ _
       have gg:B≤W7.heap.size:=EZ dc E.size;have e5:y.alloc (p8 #[O (A ⟨t,0,V⟩) 1 1,O V 0 0] 26)=W7:=bb.symm;obtain⟨dd,gD,a8,k9⟩:=zz4 hW a7 (ba.o.h (Chg.b E)) e5;clear G E hW a7 bb e5 c9;go_wp2_with (at_builtin;go_must (rw[k9.o];refine aA _ Z (.tmp 57) (.tmp 67) 34 Z B 26 ti _ 2 48 Tryz.underlying34 hc hf hh hl Z (by decide) u7 (n+i) (aI (cg (upB blk k (n+i) t)) k (n+i)) Z dd.o.ri ⟨y.heap.size,0,V⟩ 1 1 [O (A ⟨t,0,V⟩) 1 1,O V 0 0] Z Z gD.o (by simp[Value.oneCell']) (by unfold maxLen;omega) (by omega) gg (by decide) ?_);intro v8 W8 H ar)
       have bR:=Gr4.h (by decide) (by decide) dd.o H ar
       have K:=gk a8.o (fun g hg=>by
        rcases dd.o.or with h|⟨g',h,h2⟩
        ·exact tE ⟨k,_,n,HD.o,h.symm.trans hg⟩
        ·rw[hg]at h;injection h with h;have:=da.o.u;exact tS (by omega)) ar
       have dg:B≤W8.heap.size:=by
        rcases ar with ⟨_,_,_,_,h⟩|⟨_,_,h⟩
        ·exact EZ gg h.size
        ·exact EZ gg h.size
       refine⟨⟨W8,i+1,upB blk k (n+i) t,Z,by omega,by go_num,K,dg,⟨bR.1,bR.2.1,?_,bR.2.2.1,bR.2.2.2⟩,k7.o,k8.o,h0.o.gone dd.o.ri (by decide) ar⟩,by simp[intOf];omega⟩;rw[←Nat.add_assoc,dR,uE];exact H
      ·obtain rfl:i=64:=by omega
       clear hV;obtain⟨q,cq,rfl⟩:=aC bB.o.ri;obtain⟨c1,F,T,_⟩:=cp.o;have h4:(O p n c).ownBlock≠A b1:=eA (by decide) HO.o F;have bn:W5.heap[b1]?=A (p8 c1 34 (0,0)):=(bB.o.chg.q b1 (ES.1 F).1 h4).trans F;have z0:=ae bn k;obtain⟨a0,y0⟩:∃a,W5.cell? ⟨b1,k,V⟩=A a:=⟨_,(FR _ _ _ _ _ _ bn).trans (Array.getElem?_eq_getElem (by rw[T,HN.o];exact z))⟩;have bR:=jc (mk:=(cg blk)) (by decide) (k:=k) (q:=ni blk) HI.o b9 e0.o e1.o HD.o bB.o.chg bB.o.rv bB.o.ri Z bB.o.or;have h5:=ba.o.t (p:=⟨b1,k,V⟩) (tS en) (O q (n+64) cq);have la:B≤(W5.setCell ⟨b1,k,V⟩ (O q (n+64) cq)).heap.size:=by simpa [World.setCell]using dc
       have e6:TB blk (fun j m=>j<D.length∧(m<1∨(j<k+1∧m<65))) (W5.setCell ⟨b1,k,V⟩ (O q (n+64) cq)):=(e2.o.other bn (by decide) fun b _ b9=>o7 _ _ _ _ b9).N fun a m h=>⟨h.1,by have:=h.2;omega⟩
       have h6:=Hd e6;clear e6;obtain⟨b2,lb⟩:=zz2 bR h5;clear bR h5 F h4 bn T;go_wp2_with fail
       exact⟨⟨_,k+1,blk,Z,by rw[HN.o];omega,by go_num,lb.o,la,b2.o.1,b2.o.2,h6.o⟩,by simp[intOf];omega⟩
    ·obtain rfl:N=k:=by omega
     clear z
     go_wp2
     go_loopw [9] (bJ N W4) (fun i _=>N-(intOf i).toNat)
     case atStart=>exact⟨_,0,Z,Fi _,Z,EU _ _⟩
     case round =>
      obtain⟨W5,k,rfl,nA,rfl,cr⟩:=hrel;have nk:(0:Int)≤k:=by omega
      have ba:=Hd cr;clear cr
      by_cases z:k<N
      ·obtain⟨⟨v,n⟩,Q⟩:∃d,D[k]?=A d:=⟨_,EX (by rw[HN.o];exact z)⟩;have hn:=HI.o.n k v n Q;obtain⟨xs,r,hq⟩:=a6.o.2 k v n Q;obtain rfl:xs=aI (cg blk) k n:=hq;obtain⟨p,c,rfl⟩:=aC r;obtain⟨c1,F,T,ct⟩:=cp.o;obtain⟨v',ys,cu,L,ld,_⟩:=ct k _ n z Q;obtain rfl:ys=aI (cg blk) k (n+64):=ld;obtain⟨g',c',rfl,lf⟩:=aU L (by omega);obtain⟨HD,HO,cv,HV,cx⟩:=zz5 Q r L ((FR _ b0 k _ _ _ a6.o.1).trans (HI.o.b k _ n Q)) ((FR _ b1 k _ _ _ F).trans cu);have c5:(k:Int)<N:=by omega
       have c6:(0:Int)≤n:=by omega
       have ad:(n:Int)≤20000:=by omega
       clear Q r L F T ct cu
       go_wp2
       go_loopw [10] (bJ (n+64) W4) (fun i _=>(n+64)-(intOf i).toNat)
       case atStart=>exact⟨_,0,Z,Fi _,Z,ba.o⟩
       case round =>
        obtain⟨y,i,rfl,nC,rfl,G⟩:=hrel;have c8:(0:Int)≤i:=by omega
        have gE:=(G.cell (p:=⟨b0,k,V⟩) (ES.1 a6.o.1).1).trans HV.o;have cT:=(G.cell (p:=⟨b1,k,V⟩) (World.block_lt_of_cell? _ _ cx.o)).trans cx.o;have bc:=Hd G
        by_cases bq:i<n+64
        ·have b7:(i:Int)<(n:Int)+64:=by omega
         have nR:decide ((i:Int)<(n:Int)+64)=true:=decide_eq_true b7;have m0:=ai (iu blk) (ab cv.o G) ⟨[],(List.append_nil _).symm⟩ bq bq (m:=0) Z;rw[Nat.add_zero]at m0;have m1:=ai (iu blk) (ab cv.o G) ⟨[],(List.append_nil _).symm⟩ bq bq (m:=1) Z;have M0:=fun x:Wb y=>x.b m0
         have M1:=fun x:Wb y=>x.b m1
         have kn:=fun x:Wb y=>x.b gE
         have V':=fun x:Wb y=>x.b cT
         clear m0 m1
         by_cases b6:i<n
         ·have cV:(i:Int)<n:=by omega
          have lg:decide ((i:Int)<(n:Int))=true:=decide_eq_true cV;obtain⟨g,c2,cb,hD⟩:=aU HO.o (by omega);injection cb with h1 h2 h3
          subst h1;clear h2 h3;have m0:=ai (iu blk) (ab HO.o G) ⟨[],(List.append_nil _).symm⟩ b6 b6 (m:=0) Z;rw[Nat.add_zero]at m0;have m1:=ai (iu blk) (ab HO.o G) ⟨[],(List.append_nil _).symm⟩ b6 b6 (m:=1) Z;have K0:=fun x:Wb y=>x.b m0
          have K1:=fun x:Wb y=>x.b m1
          clear m0 m1 G;have ad:=HU.o k _ _ HD.o;have af:k≤1000000:=by omega
          have ak:i≤1000000:=by omega
          have P:Hid (y.heap[blk k i]?=A (p8 #[p9 ⟨#[]⟩,I Y (mkA k i)] 41 (0,0))):=b5.o.C bc.o k i ⟨by rw[HN.o];exact z,by omega⟩;clear ad;go_wp2_with fail
          refine RE.t (by kernel_rfl) 35 [9,10,30,31] [] (fun _ W=>∃x:Wb y,W=x.1) (fun W W'=>FS W W') (rkV 9 30) (fun a W ys=>(a=9∨a=30)→RMk k i 0 W ys) (by kernel_rfl) (fun _ _ _ _ _ _ h hb=>cd h hb) (fun _ _ _ _ h _ hb h9=>(h h9).t (kW.b hb)) ⟨⟨y.drew,(EU _ _).drew⟩,Z⟩ ?_;simp only[Fg,Fu,Fh,Ft]
          repeat (refine RE.h (fun W=>∃x:Wb y,W=x.1) (fun _ _ _ h=>h) Z Z Z ⟨⟨y.drew,(EU _ _).drew⟩,Z⟩ ?_;go_big_quiet_step (fail);refine vk ?_)
          refine RE.b Z Z ?_ (fun ys=>?_)
          ·intro W hC _ _;obtain⟨_,_,x,rfl⟩:=hC;refine RE.u 132 _ _ Z (enters_of Tryz.func132 (by kernel_rfl) Z) #[I Y k,I Y i] (by simp[Act.eval]) ((i9 k i x.1 af ak).mono ?_);rintro e W' ⟨t,rfl,f,_,l⟩;exact⟨_,Z,[O (A ⟨t,0,V⟩) 1 1],Z,f,f,fun _=>⟨t,Z,Fi _,l⟩⟩
          simp only[wj,EV,Fe,Fc,yr];refine RE.b Z Z ?_ (fun zs=>?_)
          ·intro W hC _ hE;obtain⟨_,_,x,rfl⟩:=hC;obtain⟨t,hx,_,l⟩:=hE 9 ys (by kernel_rfl) Z (by decide);subst hx;refine RE.u 6 _ _ Z (enters_of Tryz.func6 (by kernel_rfl) Z) #[s3 #[O (A ⟨blk k i,0,V⟩) 1 1,O V 0 0],s3 #[O (A ⟨t,0,V⟩) 1 1,O V 0 0]] (by simp[Act.eval]) ((ly af ak ((x.2.block _ (ES.1 P.o).1).trans P.o) l).mono ?_);rintro e W' ⟨rfl,f⟩;exact⟨_,Z,[],Z,f,f,fun h=>absurd h (by decide)⟩
          rw[pQ (by decide)];simp only[wj,EV,Fe,Fc]
          repeat (refine RE.h (fun W=>∃x:Wb y,W=x.1) (fun _ _ _ h=>h) Z Z Z ⟨⟨y.drew,(EU _ _).drew⟩,Z⟩ ?_;go_big_quiet_step (fail);refine vk ?_)
          refine RE.b Z Z ?_ (fun gF=>?_)
          ·intro W hC _ _;obtain⟨_,_,x,rfl⟩:=hC;refine RE.u 132 _ _ Z (enters_of Tryz.func132 (by kernel_rfl) Z) #[I Y k,I Y i] (by simp[Act.eval]) ((i9 k i x.1 af ak).mono ?_);rintro e W' ⟨t,rfl,f,_,l⟩;exact⟨_,Z,[O (A ⟨t,0,V⟩) 1 1],Z,f,f,fun _=>⟨t,Z,Fi _,l⟩⟩
          simp only[wj,EV,Fe,Fc,Dm];refine RE.b Z Z ?_ (fun lo=>?_)
          ·intro W hC _ hE;obtain⟨_,_,x,rfl⟩:=hC;obtain⟨t,hx,_,l⟩:=hE 30 gF (by kernel_rfl) Z (by decide);subst hx;refine RE.u 6 _ _ Z (enters_of Tryz.func6 (by kernel_rfl) Z) #[s3 #[O (A ⟨blk k i,0,V⟩) 1 1,O V 0 0],s3 #[O (A ⟨t,0,V⟩) 1 1,O V 0 0]] (by simp[Act.eval]) ((ly af ak ((x.2.block _ (ES.1 P.o).1).trans P.o) l).mono ?_);rintro e W' ⟨rfl,f⟩;exact⟨_,Z,[],Z,f,f,fun h=>absurd h (by decide)⟩
          rw[pQ (by decide)];simp only[wj,EV,Fe,Fc]
          repeat (refine RE.h (fun W=>∃x:Wb y,W=x.1) (fun _ _ _ h=>h) Z Z Z ⟨⟨y.drew,(EU _ _).drew⟩,Z⟩ ?_;go_big_quiet_step (fail);refine vk ?_)
          refine RE.q ?_;rintro W7 ⟨⟨W7,E⟩,rfl⟩ _
          show wpList _ _ _ _ _ W7
          have a8:=Hd (bc.o.trans (E.mono bc.o.size));clear E P M0 M1 kn V' K0 K1 gE cT;go_wp2_with fail
          exact⟨⟨_,i+1,Z,by omega,by go_num,a8.o⟩,by simp[intOf];omega⟩
         ·have cV:¬(i:Int)<n:=by omega
          have lg:decide ((i:Int)<(n:Int))=false:=oB cV;clear G;have ad:=HU.o k _ _ HD.o;have af:k≤1000000:=by omega
          have ak:i≤1000000:=by omega
          have P:Hid (y.heap[blk k i]?=A (p8 #[p9 ⟨#[]⟩,I Y (mkA k i)] 41 (0,0))):=b5.o.C bc.o k i ⟨by rw[HN.o];exact z,by omega⟩;clear ad;go_wp2_with fail
          refine RE.t (by kernel_rfl) 35 [9,10,30,31] [] (fun _ W=>∃x:Wb y,W=x.1) (fun W W'=>FS W W') (rkV 9 30) (fun a W ys=>(a=9∨a=30)→RMk k i 0 W ys) (by kernel_rfl) (fun _ _ _ _ _ _ h hb=>cd h hb) (fun _ _ _ _ h _ hb h9=>(h h9).t (kW.b hb)) ⟨⟨y.drew,(EU _ _).drew⟩,Z⟩ ?_;simp only[Fg,Fu,Fh,Ft]
          repeat (refine RE.h (fun W=>∃x:Wb y,W=x.1) (fun _ _ _ h=>h) Z Z Z ⟨⟨y.drew,(EU _ _).drew⟩,Z⟩ ?_;go_big_quiet_step (fail);refine vk ?_)
          refine RE.b Z Z ?_ (fun ys=>?_)
          ·intro W hC _ _;obtain⟨_,_,x,rfl⟩:=hC;refine RE.u 132 _ _ Z (enters_of Tryz.func132 (by kernel_rfl) Z) #[I Y k,I Y i] (by simp[Act.eval]) ((i9 k i x.1 af ak).mono ?_);rintro e W' ⟨t,rfl,f,_,l⟩;exact⟨_,Z,[O (A ⟨t,0,V⟩) 1 1],Z,f,f,fun _=>⟨t,Z,Fi _,l⟩⟩
          simp only[wj,EV,Fe,Fc,yr];refine RE.b Z Z ?_ (fun zs=>?_)
          ·intro W hC _ hE;obtain⟨_,_,x,rfl⟩:=hC;obtain⟨t,hx,_,l⟩:=hE 9 ys (by kernel_rfl) Z (by decide);subst hx;refine RE.u 6 _ _ Z (enters_of Tryz.func6 (by kernel_rfl) Z) #[s3 #[O (A ⟨blk k i,0,V⟩) 1 1,O V 0 0],s3 #[O (A ⟨t,0,V⟩) 1 1,O V 0 0]] (by simp[Act.eval]) ((ly af ak ((x.2.block _ (ES.1 P.o).1).trans P.o) l).mono ?_);rintro e W' ⟨rfl,f⟩;exact⟨_,Z,[],Z,f,f,fun h=>absurd h (by decide)⟩
          rw[pQ (by decide)];simp only[wj,EV,Fe,Fc]
          repeat (refine RE.h (fun W=>∃x:Wb y,W=x.1) (fun _ _ _ h=>h) Z Z Z ⟨⟨y.drew,(EU _ _).drew⟩,Z⟩ ?_;go_big_quiet_step (fail);refine vk ?_)
          refine RE.wpE_off Z (fun W h=>by cases h) ?_;refine RE.wpE_off Z (fun W h=>by cases h) ?_;simp only[wj,EV,Fe,Fc]
          repeat (refine RE.h (fun W=>∃x:Wb y,W=x.1) (fun _ _ _ h=>h) Z Z Z ⟨⟨y.drew,(EU _ _).drew⟩,Z⟩ ?_;go_big_quiet_step (fail);refine vk ?_)
          refine RE.q ?_;rintro W7 ⟨⟨W7,E⟩,rfl⟩ _
          show wpList _ _ _ _ _ W7
          have a8:=Hd (bc.o.trans (E.mono bc.o.size));clear E P M0 M1 kn V' gE cT;go_wp2_with fail
          exact⟨⟨_,i+1,Z,by omega,by go_num,a8.o⟩,by simp[intOf];omega⟩
        ·obtain rfl:i=n+64:=by omega
         clear bq G;go_wp2_with fail
         exact⟨⟨_,k+1,Z,by omega,by go_num,bc.o⟩,by simp[intOf];omega⟩
      ·obtain rfl:N=k:=by omega
       clear z;have h7:Hid (Fm 26 34 2 B b0 c0 D (qM (cg blk)) W5):=⟨(ba.o.block b0 (ES.1 a6.o.1).1).trans a6.o.1,fun j v n h=>(a6.o.2 j v n h).imp fun xs hx=>⟨ab hx.1 ba.o,hx.2⟩⟩;have e7:=da.o.h (Chg.b ba.o);have dc:B≤W5.heap.size:=EZ hQ ba.o.size;obtain⟨c1,F,T,_⟩:=cp.o;have h8:Hid (Gs 26 34 2 B b1 D 0 (fun j n ys=>∃zs,ys=aI (cg blk) j n++zs) W5):=⟨c1,(ba.o.block b1 (ES.1 F).1).trans F,T,fun j v n h=>absurd h (Nat.not_lt_zero _)⟩;have e8:=Hd e7;clear e7 F T
       go_wp2
       go_loopw [11] (fun i W=>lN 26 34 2 (cg blk) B b0 b1 c0 D w i W∧TB blk (fun j m=>j<D.length∧m<1) W) (fun i _=>N-(intOf i).toNat)
       case atStart=>exact⟨⟨_,0,Z,Fi _,Z,e8.o,dc,h7.o,h8.o⟩,(b5.o.C ba.o).N fun j m h=>⟨h.1,tE h.2⟩⟩
       case round =>
        obtain⟨⟨y,k,rfl,l0,rfl,G,l1,ih,ix⟩,e9⟩:=hrel;have fe:=Hd e9;clear e9;rw[HN.o]at l0;have nn:(0:Int)≤k:=by omega
        obtain⟨b3,bc,gH⟩:=zz3 ih G ix;clear ih G ix h7 e8 h8 a6 da cp
        by_cases z:k<N
        ·obtain⟨⟨v,n⟩,Q⟩:∃d,D[k]?=A d:=⟨_,EX (by rw[HN.o];exact z)⟩;have hn:=HI.o.n k v n Q;obtain⟨xs,r,hq⟩:=b3.o.2 k v n Q;obtain rfl:xs=aI (cg blk) k n:=hq;obtain⟨p,c,rfl⟩:=aC r;obtain⟨HD,HO⟩:=zz2 Q r;have c5:(k:Int)<N:=by omega
         have c6:(0:Int)≤n:=by omega
         have ad:(n:Int)≤20000:=by omega
         obtain⟨C6,iA,fm,iB⟩:=Ay y;obtain⟨W7,bb⟩:=zzx (y.alloc (p8 C6 26));have E:FS y W7:=by rw[bb];exact (EU _ _).alloc (ET _) _
         have cW:W7.ownsRow y.heap.size 26 2 (O (A ⟨y.heap.size,0,V⟩) 64 64) 64 C6.toList:=by rw[bb];exact World.ownsRow_lit y C6 64 (ET _) (by unfold maxLen;omega) iA
         obtain⟨a8,l2,l3⟩:=zz3 E cW fm;obtain⟨M,hM⟩:=zzx (y.heap.size);rw[←hM]at iB;have l4:y.heap.size≤M:=by omega
         have iX:=Hd hM;clear Q r E cW fm iA hM
         go_wp2
         rw[←bb]
         go_loopw [13] (lY 26 2 y) (fun i _=>64-(intOf i).toNat)
         case atStart=>exact⟨_,0,_,Z,Fi _,Z,a8.o,l2.o,l3.o⟩
         case round =>
          obtain⟨W8,i,xs,rfl,ma,rfl,K,H,b4⟩:=hrel;have c8:(0:Int)≤i:=by omega
          have hU:(i:Int)≤64:=by omega
          rw[←iX.o]at H;obtain⟨aq,gL,fp⟩:=zz3 K H b4
          by_cases X:i<64
          ·have b7:(i:Int)<64:=by omega
           have br:∀W,r9 r6 132 #[I Y ((k:Int)+N),I Y i] W (yl (k+N) i W):=fun W=>by
            have h:=i9 (k+N) i W (by omega) (by omega)
            rwa [Int.natCast_add]at h
           have gf:=Hd br;clear br K H b4;go_wp2_with fail
           refine (gf.o W8).mono ?_;rintro e W9 ⟨t,rfl,gM,_,_⟩;have ca:=ab gL.o gM;have z0:=ca.frozenAt (i*2);have z1:=ca.frozenAt (i*2+1);obtain⟨a0,y0⟩:=am ca (i*2) (by omega);obtain⟨a1,y1⟩:=am ca (i*2+1) (by omega);have b8:=dV [O (A ⟨t,0,V⟩) 1 1,O V 0 0] W9 xs (i*2) ca;have fr:=ia [O (A ⟨t,0,V⟩) 1 1,O V 0 0] xs (i*2) fp.o (by simp[Value.oneCell']);have cl:FS y W9:=aq.o.trans (gM.mono aq.o.size);have bl:FS y (di W9 M (i*2) [O (A ⟨t,0,V⟩) 1 1,O V 0 0]):=eF _ _ _ _ cl l4;obtain⟨HS,mb,fT⟩:=zz3 b8.1 fr bl;clear b8 fr cl bl gM ca;go_wp2_with fail
           refine⟨⟨_,i+1,_,Z,by omega,by go_num,fT.o,?_,mb.o⟩,by simp[intOf];omega⟩;rw[←iX.o];exact HS.o
          ·obtain rfl:i=64:=by omega
           clear X;have gN:Gr4 26 34 2 (cg blk) B b0 c0 y k n (O p n c) (O p n c) 0 W8:=Gr4.C ⟨b3.o.1,Chg.y _ _,HO.o,HO.o,tE Z⟩ aq.o;have gO:W8.cell? ⟨b0,k,V⟩=A (O p n c):=by rw[FR _ _ _ _ _ _ gN.b0];exact HI.o.b k _ n HD.o
           have dg:B≤W8.heap.size:=EZ l1 aq.o.size;obtain⟨jj,gS⟩:=zz2 (bc.o.h (Chg.b aq.o)) gN;have a7:∀j u,xs[j]?=A u→W8.cell? ((⟨M,0,V⟩:Addr).add j)=A u:=gL.o.cells Z;have gD:=Hd a7;have j2:xs.length=64*2:=gL.o.1;have mc:=Hd j2;clear K H b4 gN a7 j2;go_wp2_with (at_builtin;go_must (refine aA _ Z (.tmp 148) (.tmp 149) 34 Z B 26 ti _ 2 48 Tryz.underlying34 hc hf hh hl Z (by decide) (O p n c) n (aI (cg blk) k n) Z gS.o.rv ⟨M,0,V⟩ 64 64 xs Z mc.o gD.o fp.o (by unfold maxLen;omega) (by omega) dg (by decide) ?_);intro v9 W9 c3 bk;obtain⟨q9,mu,rfl,z9,⟨a9,y9⟩,b2⟩:=kH (by decide) (by decide) HI.o b9 en b3.o gH.o HD.o gS.o jj.o dg c3 bk;obtain⟨c1,F,_⟩:=gH.o;have ka:=Hd (TB.gone_set (a:=k) (u:=O q9 (n+64) mu) (fe.o.C aq.o) gS.o.rv (by decide) (by decide) (by decide) ((aq.o.block b1 (ES.1 F).1).trans F) bk);clear c3 bk F)
           exact⟨⟨⟨_,k+1,Z,by rw[HN.o];omega,by go_num,b2.o.2.2.1,b2.o.2.2.2,b2.o.1,b2.o.2.1⟩,ka.o⟩,by simp[intOf];omega⟩
        ·obtain rfl:N=k:=by omega
         clear z
         go_wp2
         go_loopw [14] (bJ N y) (fun i _=>N-(intOf i).toNat)
         case atStart=>exact⟨_,0,Z,Fi _,Z,EU _ _⟩
         case round =>
          obtain⟨W7,k,rfl,nT,rfl,E⟩:=hrel;have nr:(0:Int)≤k:=by omega
          have a8:=Hd E;clear E
          by_cases z:k<N
          ·obtain⟨⟨v,n⟩,Q⟩:∃d,D[k]?=A d:=⟨_,EX (by rw[HN.o];exact z)⟩;have hn:=HI.o.n k v n Q;obtain⟨xs,r,hq⟩:=b3.o.2 k v n Q;obtain rfl:xs=aI (cg blk) k n:=hq;obtain⟨p,c,rfl⟩:=aC r;obtain⟨c1,F,T,ct⟩:=gH.o;obtain⟨v',ys,cu,L,kc,_⟩:=ct k _ n z Q;obtain⟨g',c',rfl,lf⟩:=aU L (by omega);obtain⟨HD,HO,cv,kk,HV,cx⟩:=zz6 Q r L kc ((FR _ b0 k _ _ _ b3.o.1).trans (HI.o.b k _ n Q)) ((FR _ b1 k _ _ _ F).trans cu);have c5:(k:Int)<N:=by omega
           have c6:(0:Int)≤n:=by omega
           have ad:(n:Int)≤20000:=by omega
           have mv:=(a8.o.cell (p:=⟨b0,k,V⟩) (ES.1 b3.o.1).1).trans HV.o;clear Q r L F T ct cu kc
           go_wp2
           go_loopw [15] (bJ n y) (fun i _=>n-(intOf i).toNat)
           case atStart=>exact⟨_,0,Z,Fi _,Z,a8.o⟩
           case round =>
            obtain⟨W8,i,rfl,ma,rfl,K⟩:=hrel;have c8:(0:Int)≤i:=by omega
            have gO:=(K.cell (p:=⟨b0,k,V⟩) (ES.1 b3.o.1).1).trans HV.o;have fv:=(K.cell (p:=⟨b1,k,V⟩) (World.block_lt_of_cell? _ _ cx.o)).trans cx.o;have aq:=Hd K;clear mv
            by_cases X:i<n
            ·have b7:(i:Int)<n:=by omega
             have n0:decide ((i:Int)<(n:Int))=true:=decide_eq_true b7;have m0:=ai (iu blk) (ab cv.o K) kk.o X (by omega) (m:=0) Z;rw[Nat.add_zero]at m0;have m1:=ai (iu blk) (ab cv.o K) kk.o X (by omega) (m:=1) Z;have M0:=fun x:Wb W8=>x.b m0
             have M1:=fun x:Wb W8=>x.b m1
             have kn:=fun x:Wb W8=>x.b gO
             have V':=fun x:Wb W8=>x.b fv
             clear m0 m1;obtain⟨g,c2,cb,hD⟩:=aU HO.o (by omega);injection cb with h1 h2 h3
             subst h1;clear h2 h3;have m0:=ai (iu blk) (ab HO.o K) ⟨[],(List.append_nil _).symm⟩ X X (m:=0) Z;rw[Nat.add_zero]at m0;have m1:=ai (iu blk) (ab HO.o K) ⟨[],(List.append_nil _).symm⟩ X X (m:=1) Z;have K0:=fun x:Wb W8=>x.b m0
             have K1:=fun x:Wb W8=>x.b m1
             have na:i<n+64:=by omega
             have nc:(i:Int)<(n:Int)+64:=by omega
             clear m0 m1 K;have ad:=HU.o k _ _ HD.o;have af:k≤1000000:=by omega
             have ak:i≤1000000:=by omega
             have P:Hid (W8.heap[blk k i]?=A (p8 #[p9 ⟨#[]⟩,I Y (mkA k i)] 41 (0,0))):=fe.o.C aq.o k i ⟨by rw[HN.o];exact z,by omega⟩;clear ad;go_wp2_with fail
             refine RE.t (by kernel_rfl) 26 [9,10,22,23] [] (fun _ W=>∃x:Wb W8,W=x.1) (fun W W'=>FS W W') (rkV 9 22) (fun a W ys=>(a=9∨a=22)→RMk k i 0 W ys) (by kernel_rfl) (fun _ _ _ _ _ _ h hb=>cd h hb) (fun _ _ _ _ h _ hb h9=>(h h9).t (kW.b hb)) ⟨⟨W8.drew,(EU _ _).drew⟩,Z⟩ ?_;simp only[Fg,Fu,Fh,Ft]
             repeat (refine RE.h (fun W=>∃x:Wb W8,W=x.1) (fun _ _ _ h=>h) Z Z Z ⟨⟨W8.drew,(EU _ _).drew⟩,Z⟩ ?_;go_big_quiet_step (fail);refine vk ?_)
             refine RE.b Z Z ?_ (fun ys=>?_)
             ·intro W hC _ _;obtain⟨_,_,x,rfl⟩:=hC;refine RE.u 132 _ _ Z (enters_of Tryz.func132 (by kernel_rfl) Z) #[I Y k,I Y i] (by simp[Act.eval]) ((i9 k i x.1 af ak).mono ?_);rintro e W' ⟨t,rfl,f,_,l⟩;exact⟨_,Z,[O (A ⟨t,0,V⟩) 1 1],Z,f,f,fun _=>⟨t,Z,Fi _,l⟩⟩
             simp only[wj,EV,Fe,Fc,yr];refine RE.b Z Z ?_ (fun zs=>?_)
             ·intro W hC _ hE;obtain⟨_,_,x,rfl⟩:=hC;obtain⟨t,hx,_,l⟩:=hE 9 ys (by kernel_rfl) Z (by decide);subst hx;refine RE.u 6 _ _ Z (enters_of Tryz.func6 (by kernel_rfl) Z) #[s3 #[O (A ⟨blk k i,0,V⟩) 1 1,O V 0 0],s3 #[O (A ⟨t,0,V⟩) 1 1,O V 0 0]] (by simp[Act.eval]) ((ly af ak ((x.2.block _ (ES.1 P.o).1).trans P.o) l).mono ?_);rintro e W' ⟨rfl,f⟩;exact⟨_,Z,[],Z,f,f,fun h=>absurd h (by decide)⟩
             rw[pQ (by decide)];simp only[wj,EV,Fe,Fc]
             repeat (refine RE.h (fun W=>∃x:Wb W8,W=x.1) (fun _ _ _ h=>h) Z Z Z ⟨⟨W8.drew,(EU _ _).drew⟩,Z⟩ ?_;go_big_quiet_step (fail);refine vk ?_)
             refine RE.b Z Z ?_ (fun gF=>?_)
             ·intro W hC _ _;obtain⟨_,_,x,rfl⟩:=hC;refine RE.u 132 _ _ Z (enters_of Tryz.func132 (by kernel_rfl) Z) #[I Y k,I Y i] (by simp[Act.eval]) ((i9 k i x.1 af ak).mono ?_);rintro e W' ⟨t,rfl,f,_,l⟩;exact⟨_,Z,[O (A ⟨t,0,V⟩) 1 1],Z,f,f,fun _=>⟨t,Z,Fi _,l⟩⟩
             simp only[wj,EV,Fe,Fc,Dm];refine RE.b Z Z ?_ (fun lo=>?_)
             ·intro W hC _ hE;obtain⟨_,_,x,rfl⟩:=hC;obtain⟨t,hx,_,l⟩:=hE 22 gF (by kernel_rfl) Z (by decide);subst hx;refine RE.u 6 _ _ Z (enters_of Tryz.func6 (by kernel_rfl) Z) #[s3 #[O (A ⟨blk k i,0,V⟩) 1 1,O V 0 0],s3 #[O (A ⟨t,0,V⟩) 1 1,O V 0 0]] (by simp[Act.eval]) ((ly af ak ((x.2.block _ (ES.1 P.o).1).trans P.o) l).mono ?_);rintro e W' ⟨rfl,f⟩;exact⟨_,Z,[],Z,f,f,fun h=>absurd h (by decide)⟩
             rw[pQ (by decide)];simp only[wj,EV,Fe,Fc]
             repeat (refine RE.h (fun W=>∃x:Wb W8,W=x.1) (fun _ _ _ h=>h) Z Z Z ⟨⟨W8.drew,(EU _ _).drew⟩,Z⟩ ?_;go_big_quiet_step (fail);refine vk ?_)
             refine RE.q ?_;rintro W9 ⟨⟨W9,E⟩,rfl⟩ _
             show wpList _ _ _ _ _ W9
             have nd:=Hd (aq.o.trans (E.mono aq.o.size));clear E P M0 M1 kn V' K0 K1 gO fv;go_wp2_with fail
             exact⟨⟨_,i+1,Z,by omega,by go_num,nd.o⟩,by simp[intOf];omega⟩
            ·obtain rfl:i=n:=by omega
             clear X K;go_wp2_with fail
             exact⟨⟨_,k+1,Z,by omega,by go_num,aq.o⟩,by simp[intOf];omega⟩
          ·obtain rfl:N=k:=by omega
           clear z
           go_wp2
           go_ret;exact⟨Z,bc.o.h (Chg.b a8.o)⟩
