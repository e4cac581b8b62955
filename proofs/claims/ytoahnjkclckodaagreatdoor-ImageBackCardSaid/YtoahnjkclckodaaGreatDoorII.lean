/- Parts of one proof, joined; conditions stand in each theorem. -/
import Derived.Test.YtoahnjkclckodaaGreatDoorShelf
import Derived.Test.YtoahnjkclckodaaGreatDoorIA
import Derived.Test.YtoahnjkclckodaaGreatDoorMA
import Derived.Handy
import Derived.Test.YtoahnjkclckodaaGreatDoorMT
import Derived.Test.YtoahnjkclckodaaGreatDoorID
import Derived.StillTailTactics
import Derived.Test.YtoahnjkclckodaaGreatDoorIF
open Go renaming World→J,Calls→vv,Value→tS,undef→xk
open Option renaming none→Y,some→A
open Go.IntKind renaming u8→r8,i64→U
open Go.Proofs.Tryz renaming prog→va
open Go.Value renaming pointer→vo,int→I,slice→O,tuple→y9,string→r9
open Go.Ending renaming returned→wg
open Go.Obj renaming cells→r7
namespace Go.Proofs.YtoahnjkclckodaaGreatDoor
set_option maxHeartbeats 2000000
set_option maxRecDepth 100000
open Go.RowKit
def kj(W:J) (B b:Nat) (l:List UInt8):Prop:=LibA.IsBuffer 96 (fun _=>Y) 5 B b 0 (Lib.byteCells l) W∧B≤W.heap.size
def dW(W:J) (B b:Nat) (l:List UInt8) (W':J):Prop:=kj W' B b l∧Below B W W'∧Lib.OthersKept 5 (A b) W W'
section
variable {W W' W2:J} {B b:Nat} {l l':List UInt8}
theorem ic(a c:List UInt8):Lib.byteCells (a++c)=Lib.byteCells a++Lib.byteCells c:=by simp[Lib.byteCells]
theorem byteCells_one(a:List UInt8):∀v∈Lib.byteCells a,v.oneCell'=true:=by
 intro v c;simp only[Lib.byteCells,List.mem_map]at c;obtain⟨_,_,rfl⟩:=c;rfl
theorem db(a:List UInt8):(Lib.byteCells a).length=a.length:=by simp[Lib.byteCells]
theorem dW.refl(h:kj W B b l):dW W B b l W:=⟨h,JO _ _,Lib.OthersKept.refl _ _ _⟩
theorem wrap_u8(n:Int):IntKind.wrap r8 n=n % 256:=by
 unfold IntKind.wrap;simp[IntKind.bits,IntKind.signed]
theorem dW.C(h:dW W B b l W')(a:Kr W' W2):dW W B b l W2:=
 ⟨⟨h.1.1.old a,JU h.1.2 a.size⟩,h.2.1.trans (a.mono h.1.2),h.2.2.trans (fun k _o c _ _=>(a.block k (JL.1 c).1).trans c)⟩
theorem byte_at(x:Int)(j:Nat):x / 2 ^ (8*(j:Int)).toNat % 256=((UInt8.ofNat ((x / 256 ^ j) % 256).toNat).toNat:Int):=by
 rw[byte_of (by omega) (by omega)];have a:(8*(j:Int)).toNat=8*j:=by omega
 have c:(2:Int) ^ (8*j)=256 ^ j:=by rw[Int.pow_mul];rfl
 rw[a,c]
theorem dW.h(h:dW W B b l W')(k:dW W' B b l' W2):dW W B b l' W2:=⟨k.1,h.2.1.trans k.2.1,h.2.2.trans k.2.2⟩
theorem yT(h:kj W B b l)(c:UInt8)(d:l.length+1≤140737488355328):vv va 70 #[vo (A ⟨b,0,Y⟩),I r8 (c.toNat:Int)] W fun e W'=>e=wg .nilIface∧dW W B b (l++[c]) W':=by
 refine (Tryz.Buffer_WriteByte_at 96 (fun _=>Y) B b 0 (Lib.byteCells l) (c.toNat:Int) W h.1 h.2 (byteCells_one l) (by rw[db];exact d)).mono ?_;rintro e W' ⟨f,g,a,i⟩;exact⟨f,⟨by rw[ic];exact g,JU h.2 a.size⟩,a,i⟩
def Jw(W0:J) (B b sz:Nat) (x:Int) (l:List UInt8) (i:tS) (W:J):Prop:=
 ∃(a:J) (j:Nat) (c:List UInt8),a=W∧i=I U ((j:Int)-1)∧j≤sz∧c++beB j x=beB sz x∧dW W0 B b (l++c) a
def JC(W0:J) (B b sz:Nat) (ns:List Int) (l:List UInt8) (i:tS) (W:J):Prop:=
 ∃(a:J) (k:Nat),a=W∧i=I U k∧k≤ns.length∧dW W0 B b (l++(ns.take k).flatMap (beB sz)) a
def PbP(x:Int) (j:Nat) (i:Nat) (_:J) (a:List tS):Prop:=
 if i=6 then a.getD 0 xk=I U (x / 2 ^ (8*(j:Int)).toNat) else if i=7 then a.getD 0 xk=I r8 (x / 2 ^ (8*(j:Int)).toNat % 256) else True
theorem cG(sz:Nat):∀ns:List Int,(ns.flatMap (beB sz)).length=ns.length*sz
 | []=>by simp
 | x::ns=>by rw[List.flatMap_cons,J2,cG sz ns,aO,Kf,Nat.add_mul,Nat.one_mul];omega
theorem kN{o sz:Nat}{ns:List Int}(h:kj W B b l)(R:1≤sz∧sz≤8)(hx:W.heap[o]?=A (r7 (ns.map (I .i64 ·)).toArray 2 (0,0)))(S:o≠b)(V:l.length+ns.length*sz≤140737488355328)(c:Nat) :
  vv va 46 #[vo (A ⟨b,0,Y⟩),I U sz,O (A ⟨o,0,Y⟩) ns.length c] W fun e W'=>e=wg (y9 #[])∧dW W B b (l++ns.flatMap (beB sz)) W':=by
 obtain⟨HX,H,HL⟩:=zz3 hx h V;obtain⟨n,N⟩:=zzy (ns.length);have a6:n≤9223372036854775807:=by
  rw[N]at V;have:n*1≤n*sz:=Nat.mul_le_mul_left _ R.1;omega
 rw[N];have d:=Hd N;clear hx h V N
 go_enter Tryz.func46,Tryz.ntmps46
 go_wp2_with fail
 go_loopw [11] (JC W B b sz ns l) (fun i _=>n-(intOf i).toNat)
 case atStart=>exact⟨_,0,Z,Z,J0 _,by simpa using dW.refl H.o⟩
 case round =>
  obtain⟨W1,k,rfl,rfl,hk,z⟩:=hrel;rw[d.o]at hk;have g:=Hd z;clear z
  by_cases r:k<n
  ·have a1:(k:Int)<n:=by omega
   obtain⟨x,s⟩:∃x,ns[k]?=A x:=⟨ns[k]'(by rw[d.o];exact r),JR (by rw[d.o];exact r)⟩;have X:W1.cell? ⟨o,k,Y⟩=A (I U x):=by
    have C:=g.o.2.2 o _ HX.o (fun e=>S (by injection e)) (fun c fz e=>by injection e with _ e;exact absurd e (by decide))
    rw[Kq _ _ _ _ _ _ C];simp[s]
   have ad:=Hd s;clear s;go_wp2_with fail
   go_loopw [8] (Jw W B b sz x (l++(ns.take k).flatMap (beB sz))) (fun i _=>(intOf i+1).toNat)
   case atStart=>exact⟨_,sz,[],Z,Z,JM _,Z,by simpa using g.o⟩
   case round =>
    obtain⟨W2,j,P,rfl,rfl,hj,D,m⟩:=hrel;obtain⟨p,t⟩:=zz2 m D;clear m D
    by_cases E:j=0
    ·subst E;have F:dW W B b (l++(ns.take (k+1)).flatMap (beB sz)) W2:=by
      have C:=p.o;have h2:=t.o;simp only[beB,List.append_nil]at h2;rw[Kj,ad.o,List.flatMap_append];simp only[Option.toList,List.flatMap_cons,List.flatMap_nil,List.append_nil];rw[←List.append_assoc,←h2];exact C
     have af:=Hd F;clear F;go_wp2_with fail
     refine⟨⟨_,k+1,Z,by go_num,by rw[d.o];omega,af.o⟩,by simp[intOf];omega⟩
    ·obtain⟨a,rfl⟩:∃a,j=a+1:=⟨j-1,by omega⟩;have e1:(((a+1:Nat):Int)-1)=(a:Int):=by omega
     rw[e1];have ba:(0:Int)≤(a:Int):=by omega
     have bb:(a:Int)≤7:=by omega
     have bd:(0:Int)≤8*(a:Int):=by omega
     have bg:8*(a:Int)≤64:=by omega
     clear e1 E;go_upto_region 6 with fail
     refine RE.z (by kernel_rfl) 8 [6,7] [] (fun _ f=>∃y:Wb W2,f=y.1) (fun _ _=>True) (fun _ ys=>ys.getD 0 xk) (PbP x a) (by kernel_rfl) (fun _ _ _ _ f U' h hb=>by obtain⟨y,rfl⟩:=h;exact⟨⟨U',y.2.trans (hb.mono y.2.size)⟩,Z⟩) (fun _ _ _ _ h _ _=>h) ⟨⟨W2.drew,(JO _ _).drew⟩,Z⟩ ?_;simp only[JY,J7,JZ,J6]
     repeat (refine RE.q (fun f=>∃y:Wb W2,f=y.1) (fun _ _ _ h=>h) Z Z Z ⟨⟨W2.drew,(JO _ _).drew⟩,Z⟩ ?_;go_big_quiet_step (fail);refine wpQuiet_nil ?_)
     refine RE.h Z Z ?_ (fun u=>?_)
     ·intro f _ _ _;refine RE.upon_run (v:=I U (x / 2 ^ (8*(a:Int)).toNat)) (w':=f) ?_ ⟨[I U (x / 2 ^ (8*(a:Int)).toNat)],Z,JO _ _,trivial,Z⟩;simp[execOp,Act.eval,go_sem]
     simp only[Act.put,JP,JW,JV];refine RE.h Z Z ?_ (fun G=>?_)
     ·intro f _ _ Q;have h6:u.getD 0 xk=I U (x / 2 ^ (8*(a:Int)).toNat):=by
       have:=Q 6 u (by kernel_rfl) Z
       simpa [PbP]using this
      have aq:u[0]?.getD xk=I U (x / 2 ^ (8*(a:Int)).toNat):=by simpa using h6
      refine RE.upon_run (v:=I r8 (x / 2 ^ (8*(a:Int)).toNat % 256)) (w':=f) ?_ ⟨[I r8 (x / 2 ^ (8*(a:Int)).toNat % 256)],Z,JO _ _,trivial,Z⟩;simp[execOp,Act.eval,go_sem,aq,wrap_u8]
     simp only[Act.put,JP,JW,JV];refine RE.u ?_;intro f hS Q;have h7:G.getD 0 xk=I r8 (x / 2 ^ (8*(a:Int)).toNat % 256):=by
      have:=Q 7 G Z
      simpa [PbP]using this
     obtain⟨y,rfl⟩:∃y:Wb W2,f=y.1:=hS;rw[h7,byte_at x a];have hlen:P.length+(a+1)=sz:=by
      have:=o4 List.length t.o;rw[J2,aO,aO]at this;exact this
     have hmul:(k+1)*sz≤n*sz:=Nat.mul_le_mul_right _ r;have hbound:(l++(ns.take k).flatMap (beB sz)++P).length+1≤140737488355328:=by
      have C:=HL.o;rw[d.o]at C;rw[J2,J2,cG,List.length_take,d.o,Nat.min_eq_left hk];rw[Nat.add_mul,Nat.one_mul]at hmul;omega
     have w:=p.o.C y.2;obtain⟨K,L⟩:=zz2 (yT w.1 (UInt8.ofNat ((x / 256 ^ a) % 256).toNat) hbound) w;have M:Hid (P++[UInt8.ofNat ((x / 256 ^ a) % 256).toNat]++beB a x=beB sz x):=by
      show _=_
      rw[←t.o,List.append_assoc];rfl
     generalize UInt8.ofNat ((x / 256 ^ a) % 256).toNat=cb at *;obtain⟨f,hU⟩:=zzx (y.1);rw[←hU]at K L ⊢;clear Q h7 hlen hmul hbound w hU;go_wp2_with fail
     refine K.o.mono ?_;rintro e U2 ⟨rfl,q⟩;have ar:=Hd (L.o.h q);clear q;go_wp2_with fail
     refine⟨⟨_,a,P++[cb],Z,by go_num,by omega,M.o,by rw[←List.append_assoc];exact ar.o⟩,by simp[intOf]⟩
  ·obtain rfl:k=n:=by omega
   have hf:(ns.take k).flatMap (beB sz)=ns.flatMap (beB sz):=by rw[←d.o,List.take_length]
   rw[hf]at g;clear hf;go_wp2_with fail
   go_returns
   exact⟨Z,g.o⟩
end
section
variable {W W':J} {B b:Nat} {l:List UInt8}
theorem kj.lt(h:kj W B b l):b<W.heap.size:=h.1.lt
theorem mN(h:kj W B b l)(n:Nat)(p:l.length+4≤140737488355328):vv va 47 #[vo (A ⟨b,0,Y⟩),I U n] W fun e W'=>e=wg (y9 #[])∧dW W B b (l++beB 4 n) W':=by
 have g:Kr W (W.alloc (r7 #[I U n] 2)):=(JO _ W).alloc (JM _) _;have k:=h.lt;have c:=(dW.refl h).C g;have i:=kN (o:=W.heap.size) (sz:=4) (ns:=[(n:Int)]) c.1 (by omega) (oc W _) (by omega) (by simp;omega) 1;obtain⟨m,d⟩:=zz2 i c;clear h g c i
 go_enter Tryz.func47,Tryz.ntmps47
 go_wp2_with fail
 refine m.o.mono ?_;rintro e W2 ⟨rfl,a⟩;have j:l++[(n:Int)].flatMap (beB 4)=l++beB 4 n:=by simp
 rw[j]at a;have f:=Hd (d.o.h a);clear a j;go_wp2_with fail
 go_returns
 exact⟨Z,f.o⟩
theorem sW(h:kj W B b l)(s:ByteArray)(g:l.length+4+s.size≤140737488355328):vv va 42 #[vo (A ⟨b,0,Y⟩),r9 s] W fun e W'=>e=wg (y9 #[])∧dW W B b (l++cz s) W':=by
 obtain⟨i,n⟩:=zz2 (mN h s.size (by omega)) g;clear h g
 go_enter Tryz.func42,Tryz.ntmps42
 go_wp2_with fail
 refine i.o.mono ?_;rintro e W2 ⟨rfl,a⟩;obtain⟨c,j⟩:=zz2 a (Tryz.Buffer_WriteString_at 96 (fun _=>Y) B b 0 (Lib.byteCells (l++beB 4 s.size)) s W2 a.1.1 a.1.2 (byteCells_one _) (by rw[db,J2,aO];exact n.o));clear a i;go_wp2_with fail
 refine j.o.mono ?_;rintro e p ⟨rfl,k,d,m⟩;have f:Hid (dW W B b (l++cz s) p):=by
  refine c.o.h ⟨⟨?_,JU c.o.1.2 d.size⟩,d,m⟩;unfold cz;rw[←List.append_assoc,ic];exact k
 clear k d m j;go_wp2_with fail
 go_returns
 exact⟨Z,f.o⟩
theorem FR(v:aE):(fp v).length≤13+v.h.size:=by
 unfold fp cz;rw[Kf]
 split
 ·rw[aO];omega
 ·split
  ·rw[J2,aO];have:v.h.data.toList.length=v.h.size:=rfl;omega
  ·simp;omega
theorem zn(h:kj W B b l)(v:aE)(S:U8 v.q)(V:l.length+13+v.h.size≤140737488355328):vv va 71 #[vo (A ⟨b,0,Y⟩),kh v] W fun e W'=>e=wg (y9 #[])∧dW W B b (l++fp v) W':=by
 obtain⟨k,n,t⟩:=v;dsimp only at S V;obtain⟨D,r⟩:=zzx (W.alloc (r7 #[I r8 k,I U n,r9 t] 88));have u:Kr W D:=by rw[r];exact (JO _ W).alloc (JM _) _
 have w:D.heap[W.heap.size]?=A (r7 #[I r8 k,I U n,r9 t] 88 (0,0)):=by rw[r];exact oc W _
 have aq:=h.lt;have f:=(dW.refl h).C u;obtain⟨W2,s⟩:=zzx (D.drew);have j:dW W B b l W2:=by rw[s];exact⟨f.1,f.2.1.drew,f.2.2⟩
 have G:W2.heap[W.heap.size]?=A (r7 #[I r8 k,I U n,r9 t] 88 (0,0)):=by rw[s];exact w
 obtain⟨E,x⟩:∃c:UInt8,UInt8.ofNat (k % 256).toNat=c:=⟨_,rfl⟩;have H:(E.toNat:Int)=k:=by
  rw[←x,byte_of (by omega) (by omega)];have:=S.1;have:=S.2;omega
 have y:=Hd (yT j.1 E (by omega));have K:fp ⟨k,n,t⟩=E::(if k=1 then beB 8 n else if k=2 then cz t else []):=by rw[←x];rfl
 obtain⟨z,L,X,ad,M,N,HL⟩:=zz7 K j G w r s V;have af:=Hd H;unfold kh;dsimp only;clear h u w f j G r s V S x H K
 go_enter Tryz.func71,Tryz.ntmps71
 go_upto_region 1 with fail
 change Code.wp _ _ _ _ (W.alloc (r7 #[I r8 k,I U n,r9 t] 88));rw[←M.o];clear M;obtain⟨x0,x1,x2,_⟩:=aL ad.o
 go_still_tail 5,(by kernel_rfl)
 change wpList _ _ _ _ _ D.drew;rw[←N.o];rw[af.o]at y;clear N x0 x1 x2;go_wp2_with fail
 refine y.o.mono ?_;rintro e F ⟨rfl,m⟩;have C:=m.2.2 _ _ X.o (fun e=>by injection e with e;omega) (fun c fz e=>by injection e with _ e;exact absurd e (by decide))
 have g:=Hd (L.o.h m);obtain⟨x0,x1,x2,_⟩:=aL C;have ar:W.heap.size<F.heap.size:=(JL.1 C).1;clear m C y
 by_cases i:k=1
 ·have P:Kr F (F.alloc (r7 #[I U n] 2)):=(JO _ F).alloc (JM _) _;have p:=g.o.C P;obtain⟨HP,Q⟩:=zz2 (kN (o:=F.heap.size) (sz:=8) (ns:=[n]) p.1 (by omega) (oc F _) (by omega) (by have:=HL.o;simp;omega) 1) p;have R:Hid (l++[E]++[n].flatMap (beB 8)=l++fp ⟨k,n,t⟩):=by show _=_;rw[z.o,oj i];simp
  subst i;clear P p;go_wp2_with fail
  refine HP.o.mono ?_;rintro e W5 ⟨rfl,a⟩;rw[R.o]at a;have d:=Hd (Q.o.h a);clear a;go_wp2_with fail
  go_returns
  exact⟨Z,d.o⟩
 ·by_cases q:k=2
  ·have HT:=Hd (sW g.o.1 t (by have:=HL.o;simp;omega));have R:Hid (l++[E]++cz t=l++fp ⟨k,n,t⟩):=by show _=_;rw[z.o,oe i,oj q];simp
   subst q;go_wp2_with fail
   refine HT.o.mono ?_;rintro e W5 ⟨rfl,a⟩;rw[R.o]at a;have d:=Hd (g.o.h a);clear a;go_wp2_with fail
   go_returns
   exact⟨Z,d.o⟩
  ·have u:(k==1)=false:=by simpa using i
   have a1:(k==2)=false:=by simpa using q
   have R:Hid (l++[E]=l++fp ⟨k,n,t⟩):=by show _=_;rw[z.o,oe i,oe q]
   have a:=g.o;rw[R.o]at a;have d:=Hd a;clear a i q;go_wp2_with fail
   go_returns
   exact⟨Z,d.o⟩
end
def szV(l:List aE):Nat:=(l.map fun v=>13+v.h.size).sum
theorem Gv(l:List aE)(k:Nat)(v:aE)(h:l[k]?=A v):szV (l.take k)+(13+v.h.size)=szV (l.take (k+1)):=by
 unfold szV;rw[Kj,h];simp
theorem Fw:∀(l:List aE) (k:Nat),szV (l.take k)≤szV l
 | [],k=>by simp
 | v::l,0=>by simp[szV]
 | v::l,k+1=>by
  have:=Fw l k;simp only[szV,JY,List.map_cons,List.sum_cons]at this ⊢;omega
theorem l9:∀l:List aE,(l.flatMap fp).length≤szV l
 | []=>by simp
 | v::l=>by
  have:=l9 l;have:=FR v;rw[List.flatMap_cons,J2];simp only[szV,List.map_cons,List.sum_cons]at *;omega
section
variable {W W':J} {B b:Nat} {l:List UInt8}
def JG(W0:J) (B b:Nat) (vs:List aE) (l:List UInt8) (i:tS) (W:J):Prop:=
 ∃(a:J) (k:Nat),a=W∧i=I U k∧k≤vs.length∧dW W0 B b (l++beB 4 vs.length++(vs.take k).flatMap fp) a
theorem pd(h:kj W B b l){vs:List aE}{sl:tS}(M:bK.h W (fun x=>x<B) vs sl)(hl:l.length+4+szV vs≤140737488355328):vv va 48 #[vo (A ⟨b,0,Y⟩),sl] W fun e W'=>e=wg (y9 #[])∧dW W B b (l++gV vs) W':=by
 obtain⟨p,c,w⟩:=Rd.q M;have u:=Rd.sb M;obtain⟨n,R⟩:=zzy (vs.length);rw[R]at w u;have a6:n≤9223372036854775807:=by unfold maxLen at u;omega
 have N:=mN h n (by omega);have HR:=Hd (fun V (hV:Below B W V)=>Rd.sv (fun x hx o ho=>(hV.block x hx).trans ho) M);obtain⟨d,HL,N⟩:=zz3 R hl N;subst w;clear h M R hl u
 go_enter Tryz.func48,Tryz.ntmps48
 go_wp2_with fail
 refine N.o.mono ?_;rintro e W2 ⟨rfl,f⟩;have y:=Hd f;clear f N;go_wp2_with fail
 go_loopw [12] (JG W B b vs l) (fun i _=>n-(intOf i).toNat)
 case atStart=>exact⟨_,0,Z,Z,J0 _,by rw[d.o];simpa using y.o⟩
 case round =>
  clear y;obtain⟨m,k,rfl,rfl,hk,f⟩:=hrel;rw[d.o]at hk f;have r:=Hd f;have g:=f;clear f
  by_cases z:k<n
  ·have ba:(k:Int)<n:=by omega
   obtain⟨v,P⟩:∃v,vs[k]?=A v:=⟨vs[k]'(by rw[d.o];exact z),JR (by rw[d.o];exact z)⟩;obtain⟨S,off,cap,us,C,_,_,_,X,D,a⟩:=Rd.X (HR.o _ g.2.1) P;injection C with hp ad af
   subst hp;clear ad af;obtain⟨rfl,s⟩:=dX.1 D;have d0:m.cell? ⟨S,off+k*3,Y⟩=A (I r8 v.q):=a 0 _ Z;have d1:m.cell? ⟨S,off+k*3+1,Y⟩=A (I U v.u):=a 1 _ Z;have d2:m.cell? ⟨S,off+k*3+2,Y⟩=A (r9 v.h):=a 2 _ Z;obtain⟨Q,q⟩:=zzx (m.alloc (r7 #[I r8 v.q,I U v.u,r9 v.h] 88));have E:Kr m Q:=by rw[q];exact (JO _ m).alloc (JM _) _
   have F:Q.heap[m.heap.size]?=A (r7 #[I r8 v.q,I U v.u,r9 v.h] 88 (0,0)):=by rw[q];exact oc m _
   have j:=g.C E;have G:(l++beB 4 n++(vs.take k).flatMap fp).length+13+v.h.size≤140737488355328:=by
    have h1:=Gv vs k v P;have h2:=Fw vs (k+1);have h3:=l9 (vs.take k);have h4:=HL.o;rw[J2,J2,aO];omega
   obtain⟨HV,H,aq,K,ar⟩:=zz5 (zn j.1 v s.1 G) j F q P;unfold kh at HV;clear E F j q a D s X G g P;go_upto_region 4 with fail
   change Code.wp _ _ _ _ (m.alloc (r7 #[I r8 v.q,I U v.u,r9 v.h] 88));rw[←K.o];clear K d0 d1 d2;obtain⟨d0,d1,d2,_⟩:=aL aq.o;go_wp2_with fail
   refine HV.o.mono ?_;rintro e W4 ⟨rfl,t⟩;have L:dW W B b (l++beB 4 vs.length++(vs.take (k+1)).flatMap fp) W4:=by
    have h1:=H.o.h t;rw[Kj,ar.o,List.flatMap_append,d.o];simp only[Option.toList,List.flatMap_cons,List.flatMap_nil,List.append_nil];rw[←List.append_assoc];exact h1
   have a1:=Hd L;clear t L HV;go_wp2_with fail
   refine⟨⟨_,k+1,Z,by go_num,by rw[d.o];omega,a1.o⟩,by simp[intOf];omega⟩
  ·obtain rfl:k=n:=by omega
   have hf:l++beB 4 k++(vs.take k).flatMap fp=l++gV vs:=by
    unfold gV;rw[←d.o,List.take_length,List.append_assoc]
   rw[hf]at r;clear hf g;go_wp2_with fail
   go_returns
   exact⟨Z,r.o⟩
def szF(f:ai):Nat:=20+szV f.c
theorem jD(f:ai):(bD f).length≤szF f:=by
 unfold bD szF gV;have:=l9 f.c;simp only[J2,aO];omega
theorem tm(h:kj W B b l){f:ai}{M N P:tS}(Q:aG.at_ W (fun x=>x<B) f [M,N,P])(H:l.length+szF f≤140737488355328):vv va 45 #[vo (A ⟨b,0,Y⟩),Value.agg #[M,N,P]] W fun e W'=>e=wg (y9 #[])∧dW W B b (l++bD f) W':=by
 obtain⟨_,_,sl,a,d⟩:=bW.1 Q;injection a with e0 a
 injection a with e1 a
 injection a with e2 _
 subst e0;subst e1;subst e2;obtain⟨p,c,v⟩:=Rd.q d;obtain⟨m,hm⟩:=zzy (f.c.length);rw[hm]at v;subst v;unfold szF at H;obtain⟨g,n⟩:=zzx (W.alloc (r7 #[I U f.id,I U f.u,O p m c] 47));have t:Kr W g:=by rw[n];exact (JO _ W).alloc (JM _) _
 have q:g.heap[W.heap.size]?=A (r7 #[I U f.id,I U f.u,O p m c] 47 (0,0)):=by rw[n];exact oc W _
 obtain⟨W2,r⟩:=zzx (g.alloc (r7 #[I U f.id,I U f.u] 2));have u:Kr g W2:=by rw[r];exact (JO _ g).alloc (JM _) _
 have w:W2.heap[g.heap.size]?=A (r7 #[I U f.id,I U f.u] 2 (0,0)):=by rw[r];exact oc g _
 have ad:=h.lt;have af:=t.size;have i:=((dW.refl h).C t).C u;obtain⟨R,K,L⟩:=zz3 (kN (o:=g.heap.size) (sz:=8) (ns:=[f.id,f.u]) i.1 (by omega) w (by omega) (by simp;omega) 2) (aa u q (JL.1 q).1) q;have y:=Hd (fun V (hV:Below B W V)=>Rd.sv (fun x hx o ho=>(hV.block x hx).trans ho) d);obtain⟨z,C,D,HL⟩:=zz4 i n r H;clear h Q d t q u w i n r H hm
 go_enter Tryz.func45,Tryz.ntmps45
 go_upto_region 1 with fail
 change Code.wp _ _ _ _ (W.alloc (r7 #[I U f.id,I U f.u,O p m c] 47));rw[←C.o];clear C;obtain⟨S,X,x2,_⟩:=aL L.o;go_wp2_with fail
 change vv _ _ _ (g.alloc (r7 #[I U f.id,I U f.u] 2)) _;rw[←D.o];refine R.o.mono ?_;rintro e W3 ⟨rfl,j⟩;have E:=j.2.2 _ _ K.o (fun e=>by injection e with e;omega) (fun c fz e=>by injection e with _ e;exact absurd e (by decide))
 have s:=z.o.h j;obtain⟨HV,F⟩:=zz2 (pd s.1 (y.o _ s.2.1) (by have:=HL.o;simp only[J2,List.flatMap_cons,List.flatMap_nil,aO,List.length_nil];omega)) s;clear D S X x2 j s R;obtain⟨S,X,x2,_⟩:=aL E;clear E;go_wp2_with fail
 refine HV.o.mono ?_;rintro e W4 ⟨rfl,k⟩;have hF:l++[f.id,f.u].flatMap (beB 8)++gV f.c=l++bD f:=by unfold bD;simp
 rw[hF]at k;have G:=Hd (F.o.h k);clear k hF;go_wp2_with fail
 go_returns
 exact⟨Z,G.o⟩
end
def av(W:J) (l:List UInt8) (e:Ending) (W':J):Prop:=∃v,e=wg v∧Lib.HoldsBytes W' v l∧Kr W W'∧∀g,v.ownBlock=A g→W.heap.size≤g∧g<W'.heap.size
section
variable {W W':J} {B b:Nat} {l:List UInt8} {T:TypeId}
theorem ql(h:LibA.IsBuffer T (fun _=>Y) 5 B b 0 (Lib.byteCells l) W)(w:0<l.length):vv va 23 #[vo (A ⟨b,0,Y⟩)] W fun e W'=>W'=W.drew∧∃g cap,e=wg (O (A ⟨g,0,Y⟩) l.length cap)∧∀(i:Nat) (x:UInt8),l[i]?=A x→W.cell? ⟨g,i,Y⟩=A (I r8 (x.toNat:Int)):=by
 obtain⟨hB,v,z,m,c,_⟩:=h;have s:W.cell? ⟨b,0,Y⟩=A v:=m.c0;have C:W.cell? ⟨b,1,Y⟩=A (I U 0):=m.c1;rcases c.2 with ⟨_,j⟩|⟨g,cap,cur,rfl,_,t,f,p,q,d⟩
 ·rw[db]at j;omega
 ·rw[db]at s f d;have a:∀(i:Nat) (x:UInt8),l[i]?=A x→W.cell? ⟨g,i,Y⟩=A (I r8 (x.toNat:Int)):=fun i x y=>by
   rw[Kq _ _ _ _ _ _ t];have k:(cur.toList.take (l.length*1))[i]?=A (I r8 (x.toNat:Int)):=by rw[d];simp[Lib.byteCells,y]
   rw[List.getElem?_take]at k
   split at k
   ·simpa using k
   ·cases k
  have r:=Hd a;obtain⟨n,j⟩:=zzy (l.length);rw[j]at s f w ⊢;unfold maxLen at p;have u:cap≠0:=by omega
  clear hB m c t q d a j
  go_enter Tryz.func23,Tryz.ntmps23
  go_upto_region 1 with fail
  go_still_tail 9,(by kernel_rfl)
  change wpList _ _ _ _ _ W.drew;go_wp2_with fail
  go_ret;exact⟨Z,g,cap,Z,r.o⟩
theorem av.of{c:J}{e:Ending}(a:Kr W c)(h:av c l e W'):av W l e W':=by
 obtain⟨v,i,j,k,d⟩:=h;exact⟨v,i,j,a.trans (k.mono a.size),fun g f=>⟨JU a.size (d g f).1,(d g f).2⟩⟩
theorem mr{v:tS}(h:W.ownsRow B 5 1 v l.length (Lib.byteCells l)):Lib.HoldsBytes W v l:=by
 rcases h.2 with ⟨rfl,j⟩|⟨g,cap,cur,rfl,hB,k,o,hm,m,f⟩
 ·obtain rfl:l=[]:=Kb j;exact⟨Y,0,Z,fun _=>rfl,fun a c=>by cases c⟩
 ·refine⟨_,cap,Z,(fun e=>by cases e),fun a c i x n=>?_⟩;injection c with c
  subst c;rw[Addr.add_mid,Kq _ _ _ _ _ _ k,Nat.zero_add];have d:(cur.toList.take (l.length*1))[i]?=A (I r8 (x.toNat:Int)):=by rw[f];simp[Lib.byteCells,n]
  rw[List.getElem?_take]at d
  split at d
  ·simpa using d
  ·cases d
theorem oU(l:List UInt8):(l.map fun b=>(b.toNat:Int)).map (I r8)=Lib.byteCells l:=by simp[Lib.byteCells]
theorem lu(h:kj W B b l)(j:0<l.length)(k:l.length≤140737488355328):vv va 43 #[vo (A ⟨b,0,Y⟩)] W (av W l):=by
 obtain⟨d,s⟩:=zz2 (ql h.1 j) k;obtain⟨n,f⟩:=zzy (l.length);rw[f]at d;have c:=Hd f;clear h j k f
 go_enter Tryz.func43,Tryz.ntmps43
 go_wp2_with fail
 refine d.o.mono ?_;rintro e W2 ⟨rfl,g,cap,rfl,m⟩
 have p:=Hd (Tryz.bytes_Clone_at ⟨g,0,Y⟩ n cap (l.map fun b=>(b.toNat:Int)) W.drew (by simp[c.o]) (by rw[←c.o];exact s.o) (fun i hi=>by
  rw[ul l i (by rw[c.o];exact hi),Addr.add_mid,Nat.zero_add]
  exact m i _ (JR (by rw[c.o];exact hi))))
 clear m d;go_wp2_with fail
 refine p.o.mono ?_;rintro e t ⟨q,rfl,a,_,r⟩;rw[oU,←c.o]at a;have u:Hid (av W l (wg q) t):=⟨q,Z,mr a,((JO _ W).drew).trans r,fun g v=>aP a g v⟩;clear a r p;go_wp2_with fail
 go_ret;exact u.o
theorem mA{c:Nat}(a:W.heap[b]?=A (r7 #[O Y 0 0,I U 0,I .i8 0] 96 (0,0)))(d:c≤b):kj W c b []:=
 ⟨LibA.zero_isBuffer d (LibA.three_whole a),Ke (Nat.lt_of_le_of_lt d (JL.1 a).1)⟩
theorem yR(n:Int)(W:J):vv va 44 #[I U n] W (av W (beB 8 n)):=by
 obtain⟨a,c⟩:=zzx (W.alloc (r7 #[O Y 0 0,I U 0,I .i8 0] 96));have d:Kr W a:=by rw[c];exact (JO _ W).alloc (JM _) _
 have f:a.heap[W.heap.size]?=A (r7 #[O Y 0 0,I U 0,I .i8 0] 96 (0,0)):=by rw[c];exact oc W _
 have k:=mA f (JM _);have m:=k.lt;have g:Kr a (a.alloc (r7 #[I U n] 2)):=(JO _ a).alloc (JM _) _;have p:=(dW.refl k).C g;obtain⟨t,u,h,i⟩:=zz4 (kN (o:=a.heap.size) (sz:=8) (ns:=[n]) p.1 (by omega) (oc a _) (by omega) (by simp) 1) p d c;clear d f k g p c m
 go_enter Tryz.func44,Tryz.ntmps44
 go_upto_region 2 with fail
 change Code.wp _ _ _ _ (W.alloc (r7 #[O Y 0 0,I U 0,I .i8 0] 96));rw[←i.o];clear i;go_wp2_with fail
 refine t.o.mono ?_;rintro e C ⟨rfl,q⟩;have w:[]++[n].flatMap (beB 8)=beB 8 n:=by simp
 rw[w]at q;have r:=u.o.h q;obtain⟨x,s⟩:=zz2 (lu r.1 (by rw[aO];omega) (by rw[aO];omega)) (h.o.trans r.2.1);clear q r w t u h;go_wp2_with fail
 refine x.o.mono ?_;intro e y j;obtain⟨v,rfl,j⟩:=j;have z:Hid (av W (beB 8 n) (wg v) y):=av.of s.o ⟨v,Z,j⟩;clear j x;go_wp2_with fail
 go_ret;exact z.o
theorem BE(s:ByteArray)(W:J)(k:4+s.size≤140737488355328):vv va 18 #[r9 s] W (av W (cz s)):=by
 obtain⟨h,a⟩:=zzx (W.alloc (r7 #[O Y 0 0,I U 0,I .i8 0] 96));have c:Kr W h:=by rw[a];exact (JO _ W).alloc (JM _) _
 have d:h.heap[W.heap.size]?=A (r7 #[O Y 0 0,I U 0,I .i8 0] 96 (0,0)):=by rw[a];exact oc W _
 have n:=mA d (JM _);obtain⟨p,f,g,r⟩:=zz4 (sW n s (by simpa using k)) c a k;clear c d n a k
 go_enter Tryz.func18,Tryz.ntmps18
 go_upto_region 2 with fail
 change Code.wp _ _ _ _ (W.alloc (r7 #[O Y 0 0,I U 0,I .i8 0] 96));rw[←g.o];clear g;go_wp2_with fail
 refine p.o.mono ?_;rintro e w ⟨rfl,i⟩;rw[List.nil_append]at i;have hlen:(cz s).length=4+s.size:=by unfold cz;rw[J2,aO];rfl
 obtain⟨q,m⟩:=zz2 (lu i.1 (by rw[hlen];omega) (by rw[hlen];exact r.o)) (f.o.trans i.2.1);clear i hlen p f;go_wp2_with fail
 refine q.o.mono ?_;intro e t j;obtain⟨v,rfl,j⟩:=j;have u:Hid (av W (cz s) (wg v) t):=av.of m.o ⟨v,Z,j⟩;clear j q;go_wp2_with fail
 go_ret;exact u.o
end
