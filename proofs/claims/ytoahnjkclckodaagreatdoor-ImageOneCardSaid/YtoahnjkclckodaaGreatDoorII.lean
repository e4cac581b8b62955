/- Parts of one proof, joined; conditions stand in each theorem. -/
import Derived.Test.YtoahnjkclckodaaGreatDoorShelf
import Derived.Test.YtoahnjkclckodaaGreatDoorIA
import Derived.Test.YtoahnjkclckodaaGreatDoorMA
import Derived.Handy
import Derived.Test.YtoahnjkclckodaaGreatDoorMT
import Derived.Test.YtoahnjkclckodaaGreatDoorID
import Derived.StillTailTactics
import Derived.Test.YtoahnjkclckodaaGreatDoorIG
open Go renaming World→J,Calls→wg,Value→tT,undef→wF
open Option renaming none→Y,some→A
open Go.IntKind renaming u8→tF,i64→U
open Go.Proofs.Tryz renaming prog→vo
open Go.Value renaming pointer→vv,int→I,slice→O,tuple→y9,string→tS
open Go.Ending renaming returned→wj
open Go.Obj renaming cells→r9
namespace Go.Proofs.YtoahnjkclckodaaGreatDoor
set_option maxHeartbeats 2000000
set_option maxRecDepth 100000
open Go.RowKit
def jN(W:J) (B b:Nat) (l:List UInt8):Prop:=LibA.IsBuffer 96 (fun _=>Y) 5 B b 0 (Lib.byteCells l) W∧B≤W.heap.size
def dJ(W:J) (B b:Nat) (l:List UInt8) (W':J):Prop:=jN W' B b l∧Below B W W'∧Lib.OthersKept 5 (A b) W W'
section
variable {W W' W2:J} {B b:Nat} {l l':List UInt8}
theorem iR(a c:List UInt8):Lib.byteCells (a++c)=Lib.byteCells a++Lib.byteCells c:=by simp[Lib.byteCells]
theorem byteCells_one(a:List UInt8):∀v∈Lib.byteCells a,v.oneCell'=true:=by
 intro v c;simp only[Lib.byteCells,List.mem_map]at c;obtain⟨_,_,rfl⟩:=c;rfl
theorem dH(a:List UInt8):(Lib.byteCells a).length=a.length:=by simp[Lib.byteCells]
theorem dJ.refl(h:jN W B b l):dJ W B b l W:=⟨h,Fz _ _,Lib.OthersKept.refl _ _ _⟩
theorem wrap_u8(n:Int):IntKind.wrap tF n=n % 256:=by
 unfold IntKind.wrap;simp[IntKind.bits,IntKind.signed]
theorem dJ.C(h:dJ W B b l W')(a:Gl W' W2):dJ W B b l W2:=
 ⟨⟨h.1.1.old a,FH h.1.2 a.size⟩,h.2.1.trans (a.mono h.1.2),h.2.2.trans (fun k _o c _ _=>(a.block k (Fx.1 c).1).trans c)⟩
theorem byte_at(x:Int)(j:Nat):x / 2 ^ (8*(j:Int)).toNat % 256=((UInt8.ofNat ((x / 256 ^ j) % 256).toNat).toNat:Int):=by
 rw[byte_of (by omega) (by omega)];have a:(8*(j:Int)).toNat=8*j:=by omega
 have c:(2:Int) ^ (8*j)=256 ^ j:=by rw[Int.pow_mul];rfl
 rw[a,c]
theorem dJ.h(h:dJ W B b l W')(k:dJ W' B b l' W2):dJ W B b l' W2:=⟨k.1,h.2.1.trans k.2.1,h.2.2.trans k.2.2⟩
theorem vJ(h:jN W B b l)(c:UInt8)(d:l.length+1≤140737488355328):wg vo 70 #[vv (A ⟨b,0,Y⟩),I tF (c.toNat:Int)] W fun e W'=>e=wj .nilIface∧dJ W B b (l++[c]) W':=by
 refine (Tryz.Buffer_WriteByte_at 96 (fun _=>Y) B b 0 (Lib.byteCells l) (c.toNat:Int) W h.1 h.2 (byteCells_one l) (by rw[dH];exact d)).mono ?_;rintro e W' ⟨f,g,a,i⟩;exact⟨f,⟨by rw[iR];exact g,FH h.2 a.size⟩,a,i⟩
def Fe(W0:J) (B b sz:Nat) (x:Int) (l:List UInt8) (i:tT) (W:J):Prop:=
 ∃(a:J) (j:Nat) (c:List UInt8),a=W∧i=I U ((j:Int)-1)∧j≤sz∧c++beB j x=beB sz x∧dJ W0 B b (l++c) a
def Fj(W0:J) (B b sz:Nat) (ns:List Int) (l:List UInt8) (i:tT) (W:J):Prop:=
 ∃(a:J) (k:Nat),a=W∧i=I U k∧k≤ns.length∧dJ W0 B b (l++(ns.take k).flatMap (beB sz)) a
def PbP(x:Int) (j:Nat) (i:Nat) (_:J) (a:List tT):Prop:=
 if i=6 then a.getD 0 wF=I U (x / 2 ^ (8*(j:Int)).toNat) else if i=7 then a.getD 0 wF=I tF (x / 2 ^ (8*(j:Int)).toNat % 256) else True
theorem bX(sz:Nat):∀ns:List Int,(ns.flatMap (beB sz)).length=ns.length*sz
 | []=>by simp
 | x::ns=>by rw[List.flatMap_cons,FT,bX sz ns,aU,F9,Nat.add_mul,Nat.one_mul];omega
theorem ka{o sz:Nat}{ns:List Int}(h:jN W B b l)(R:1≤sz∧sz≤8)(hx:W.heap[o]?=A (r9 (ns.map (I .i64 ·)).toArray 2 (0,0)))(S:o≠b)(V:l.length+ns.length*sz≤140737488355328)(c:Nat) :
  wg vo 46 #[vv (A ⟨b,0,Y⟩),I U sz,O (A ⟨o,0,Y⟩) ns.length c] W fun e W'=>e=wj (y9 #[])∧dJ W B b (l++ns.flatMap (beB sz)) W':=by
 obtain⟨HX,H,HL⟩:=zz3 hx h V;obtain⟨n,N⟩:=zzy (ns.length);have a6:n≤9223372036854775807:=by
  rw[N]at V;have:n*1≤n*sz:=Nat.mul_le_mul_left _ R.1;omega
 rw[N];have d:=Hd N;clear hx h V N
 go_enter Tryz.func46,Tryz.ntmps46
 go_wp2_with fail
 go_loopw [11] (Fj W B b sz ns l) (fun i _=>n-(intOf i).toNat)
 case atStart=>exact⟨_,0,Z,Z,FR _,by simpa using dJ.refl H.o⟩
 case round =>
  obtain⟨W1,k,rfl,rfl,hk,z⟩:=hrel;rw[d.o]at hk;have g:=Hd z;clear z
  by_cases r:k<n
  ·have a1:(k:Int)<n:=by omega
   obtain⟨x,s⟩:∃x,ns[k]?=A x:=⟨ns[k]'(by rw[d.o];exact r),FD (by rw[d.o];exact r)⟩;have X:W1.cell? ⟨o,k,Y⟩=A (I U x):=by
    have C:=g.o.2.2 o _ HX.o (fun e=>S (by injection e)) (fun c fz e=>by injection e with _ e;exact absurd e (by decide))
    rw[Gk _ _ _ _ _ _ C];simp[s]
   have ad:=Hd s;clear s;go_wp2_with fail
   go_loopw [8] (Fe W B b sz x (l++(ns.take k).flatMap (beB sz))) (fun i _=>(intOf i+1).toNat)
   case atStart=>exact⟨_,sz,[],Z,Z,Fy _,Z,by simpa using g.o⟩
   case round =>
    obtain⟨W2,j,P,rfl,rfl,hj,D,m⟩:=hrel;obtain⟨p,t⟩:=zz2 m D;clear m D
    by_cases E:j=0
    ·subst E;have F:dJ W B b (l++(ns.take (k+1)).flatMap (beB sz)) W2:=by
      have C:=p.o;have h2:=t.o;simp only[beB,List.append_nil]at h2;rw[Gd,ad.o,List.flatMap_append];simp only[Option.toList,List.flatMap_cons,List.flatMap_nil,List.append_nil];rw[←List.append_assoc,←h2];exact C
     have af:=Hd F;clear F;go_wp2_with fail
     refine⟨⟨_,k+1,Z,by go_num,by rw[d.o];omega,af.o⟩,by simp[intOf];omega⟩
    ·obtain⟨a,rfl⟩:∃a,j=a+1:=⟨j-1,by omega⟩;have e1:(((a+1:Nat):Int)-1)=(a:Int):=by omega
     rw[e1];have ba:(0:Int)≤(a:Int):=by omega
     have bb:(a:Int)≤7:=by omega
     have bd:(0:Int)≤8*(a:Int):=by omega
     have bk:8*(a:Int)≤64:=by omega
     clear e1 E;go_upto_region 6 with fail
     refine RE.u (by kernel_rfl) 8 [6,7] [] (fun _ f=>∃y:Wb W2,f=y.1) (fun _ _=>True) (fun _ ys=>ys.getD 0 wF) (PbP x a) (by kernel_rfl) (fun _ _ _ _ f U' h hb=>by obtain⟨y,rfl⟩:=h;exact⟨⟨U',y.2.trans (hb.mono y.2.size)⟩,Z⟩) (fun _ _ _ _ h _ _=>h) ⟨⟨W2.drew,(Fz _ _).drew⟩,Z⟩ ?_;simp only[FO,FY,FQ,FX]
     repeat (refine RE.q (fun f=>∃y:Wb W2,f=y.1) (fun _ _ _ h=>h) Z Z Z ⟨⟨W2.drew,(Fz _ _).drew⟩,Z⟩ ?_;go_big_quiet_step (fail);refine wpQuiet_nil ?_)
     refine RE.h Z Z ?_ (fun u=>?_)
     ·intro f _ _ _;refine RE.upon_run (v:=I U (x / 2 ^ (8*(a:Int)).toNat)) (w':=f) ?_ ⟨[I U (x / 2 ^ (8*(a:Int)).toNat)],Z,Fz _ _,trivial,Z⟩;simp[execOp,Act.eval,go_sem]
     simp only[Act.put,FA,FM,FK];refine RE.h Z Z ?_ (fun G=>?_)
     ·intro f _ _ Q;have h6:u.getD 0 wF=I U (x / 2 ^ (8*(a:Int)).toNat):=by
       have:=Q 6 u (by kernel_rfl) Z
       simpa [PbP]using this
      have aq:u[0]?.getD wF=I U (x / 2 ^ (8*(a:Int)).toNat):=by simpa using h6
      refine RE.upon_run (v:=I tF (x / 2 ^ (8*(a:Int)).toNat % 256)) (w':=f) ?_ ⟨[I tF (x / 2 ^ (8*(a:Int)).toNat % 256)],Z,Fz _ _,trivial,Z⟩;simp[execOp,Act.eval,go_sem,aq,wrap_u8]
     simp only[Act.put,FA,FM,FK];refine RE.t ?_;intro f hS Q;have h7:G.getD 0 wF=I tF (x / 2 ^ (8*(a:Int)).toNat % 256):=by
      have:=Q 7 G Z
      simpa [PbP]using this
     obtain⟨y,rfl⟩:∃y:Wb W2,f=y.1:=hS;rw[h7,byte_at x a];have hlen:P.length+(a+1)=sz:=by
      have:=o8 List.length t.o;rw[FT,aU,aU]at this;exact this
     have hmul:(k+1)*sz≤n*sz:=Nat.mul_le_mul_right _ r;have hbound:(l++(ns.take k).flatMap (beB sz)++P).length+1≤140737488355328:=by
      have C:=HL.o;rw[d.o]at C;rw[FT,FT,bX,List.length_take,d.o,Nat.min_eq_left hk];rw[Nat.add_mul,Nat.one_mul]at hmul;omega
     have w:=p.o.C y.2;obtain⟨K,L⟩:=zz2 (vJ w.1 (UInt8.ofNat ((x / 256 ^ a) % 256).toNat) hbound) w;have M:Hid (P++[UInt8.ofNat ((x / 256 ^ a) % 256).toNat]++beB a x=beB sz x):=by
      show _=_
      rw[←t.o,List.append_assoc];rfl
     generalize UInt8.ofNat ((x / 256 ^ a) % 256).toNat=cb at *;obtain⟨f,hU⟩:=zzx (y.1);rw[←hU]at K L ⊢;clear Q h7 hlen hmul hbound w hU;go_wp2_with fail
     refine K.o.mono ?_;rintro e U2 ⟨rfl,q⟩;have ar:=Hd (L.o.h q);clear q;go_wp2_with fail
     refine⟨⟨_,a,P++[cb],Z,by go_num,by omega,M.o,by rw[←List.append_assoc];exact ar.o⟩,by simp[intOf]⟩
  ·obtain rfl:k=n:=by omega
   have hf:(ns.take k).flatMap (beB sz)=ns.flatMap (beB sz):=by rw[←d.o,List.take_length]
   rw[hf]at g;clear hf;go_wp2_with fail
   go_returns
   exact⟨Z,g.o⟩
end
section
variable {W W':J} {B b:Nat} {l:List UInt8}
theorem jN.lt(h:jN W B b l):b<W.heap.size:=h.1.lt
theorem lT(h:jN W B b l)(n:Nat)(p:l.length+4≤140737488355328):wg vo 47 #[vv (A ⟨b,0,Y⟩),I U n] W fun e W'=>e=wj (y9 #[])∧dJ W B b (l++beB 4 n) W':=by
 have g:Gl W (W.alloc (r9 #[I U n] 2)):=(Fz _ W).alloc (Fy _) _;have k:=h.lt;have c:=(dJ.refl h).C g;have i:=ka (o:=W.heap.size) (sz:=4) (ns:=[(n:Int)]) c.1 (by omega) (oA W _) (by omega) (by simp;omega) 1;obtain⟨m,d⟩:=zz2 i c;clear h g c i
 go_enter Tryz.func47,Tryz.ntmps47
 go_wp2_with fail
 refine m.o.mono ?_;rintro e W2 ⟨rfl,a⟩;have j:l++[(n:Int)].flatMap (beB 4)=l++beB 4 n:=by simp
 rw[j]at a;have f:=Hd (d.o.h a);clear a j;go_wp2_with fail
 go_returns
 exact⟨Z,f.o⟩
theorem qM(h:jN W B b l)(s:ByteArray)(g:l.length+4+s.size≤140737488355328):wg vo 42 #[vv (A ⟨b,0,Y⟩),tS s] W fun e W'=>e=wj (y9 #[])∧dJ W B b (l++bW s) W':=by
 obtain⟨i,n⟩:=zz2 (lT h s.size (by omega)) g;clear h g
 go_enter Tryz.func42,Tryz.ntmps42
 go_wp2_with fail
 refine i.o.mono ?_;rintro e W2 ⟨rfl,a⟩;obtain⟨c,j⟩:=zz2 a (Tryz.Buffer_WriteString_at 96 (fun _=>Y) B b 0 (Lib.byteCells (l++beB 4 s.size)) s W2 a.1.1 a.1.2 (byteCells_one _) (by rw[dH,FT,aU];exact n.o));clear a i;go_wp2_with fail
 refine j.o.mono ?_;rintro e p ⟨rfl,k,d,m⟩;have f:Hid (dJ W B b (l++bW s) p):=by
  refine c.o.h ⟨⟨?_,FH c.o.1.2 d.size⟩,d,m⟩;unfold bW;rw[←List.append_assoc,iR];exact k
 clear k d m j;go_wp2_with fail
 go_returns
 exact⟨Z,f.o⟩
theorem B9(v:bj):(gB v).length≤13+v.h.size:=by
 unfold gB bW;rw[F9]
 split
 ·rw[aU];omega
 ·split
  ·rw[FT,aU];have:v.h.data.toList.length=v.h.size:=rfl;omega
  ·simp;omega
theorem wl(h:jN W B b l)(v:bj)(S:U8 v.q)(V:l.length+13+v.h.size≤140737488355328):wg vo 71 #[vv (A ⟨b,0,Y⟩),jL v] W fun e W'=>e=wj (y9 #[])∧dJ W B b (l++gB v) W':=by
 obtain⟨k,n,t⟩:=v;dsimp only at S V;obtain⟨D,r⟩:=zzx (W.alloc (r9 #[I tF k,I U n,tS t] 88));have u:Gl W D:=by rw[r];exact (Fz _ W).alloc (Fy _) _
 have w:D.heap[W.heap.size]?=A (r9 #[I tF k,I U n,tS t] 88 (0,0)):=by rw[r];exact oA W _
 have aq:=h.lt;have f:=(dJ.refl h).C u;obtain⟨W2,s⟩:=zzx (D.drew);have j:dJ W B b l W2:=by rw[s];exact⟨f.1,f.2.1.drew,f.2.2⟩
 have G:W2.heap[W.heap.size]?=A (r9 #[I tF k,I U n,tS t] 88 (0,0)):=by rw[s];exact w
 obtain⟨E,x⟩:∃c:UInt8,UInt8.ofNat (k % 256).toNat=c:=⟨_,rfl⟩;have H:(E.toNat:Int)=k:=by
  rw[←x,byte_of (by omega) (by omega)];have:=S.1;have:=S.2;omega
 have y:=Hd (vJ j.1 E (by omega));have K:gB ⟨k,n,t⟩=E::(if k=1 then beB 8 n else if k=2 then bW t else []):=by rw[←x];rfl
 obtain⟨z,L,X,ad,M,N,HL⟩:=zz7 K j G w r s V;have af:=Hd H;unfold jL;dsimp only;clear h u w f j G r s V S x H K
 go_enter Tryz.func71,Tryz.ntmps71
 go_upto_region 1 with fail
 change Code.wp _ _ _ _ (W.alloc (r9 #[I tF k,I U n,tS t] 88));rw[←M.o];clear M;obtain⟨x0,x1,x2,_⟩:=aE ad.o
 go_still_tail 5,(by kernel_rfl)
 change wpList _ _ _ _ _ D.drew;rw[←N.o];rw[af.o]at y;clear N x0 x1 x2;go_wp2_with fail
 refine y.o.mono ?_;rintro e F ⟨rfl,m⟩;have C:=m.2.2 _ _ X.o (fun e=>by injection e with e;omega) (fun c fz e=>by injection e with _ e;exact absurd e (by decide))
 have g:=Hd (L.o.h m);obtain⟨x0,x1,x2,_⟩:=aE C;have ar:W.heap.size<F.heap.size:=(Fx.1 C).1;clear m C y
 by_cases i:k=1
 ·have P:Gl F (F.alloc (r9 #[I U n] 2)):=(Fz _ F).alloc (Fy _) _;have p:=g.o.C P;obtain⟨HP,Q⟩:=zz2 (ka (o:=F.heap.size) (sz:=8) (ns:=[n]) p.1 (by omega) (oA F _) (by omega) (by have:=HL.o;simp;omega) 1) p;have R:Hid (l++[E]++[n].flatMap (beB 8)=l++gB ⟨k,n,t⟩):=by show _=_;rw[z.o,oE i];simp
  subst i;clear P p;go_wp2_with fail
  refine HP.o.mono ?_;rintro e W5 ⟨rfl,a⟩;rw[R.o]at a;have d:=Hd (Q.o.h a);clear a;go_wp2_with fail
  go_returns
  exact⟨Z,d.o⟩
 ·by_cases q:k=2
  ·have HT:=Hd (qM g.o.1 t (by have:=HL.o;simp;omega));have R:Hid (l++[E]++bW t=l++gB ⟨k,n,t⟩):=by show _=_;rw[z.o,oB i,oE q];simp
   subst q;go_wp2_with fail
   refine HT.o.mono ?_;rintro e W5 ⟨rfl,a⟩;rw[R.o]at a;have d:=Hd (g.o.h a);clear a;go_wp2_with fail
   go_returns
   exact⟨Z,d.o⟩
  ·have u:(k==1)=false:=by simpa using i
   have a1:(k==2)=false:=by simpa using q
   have R:Hid (l++[E]=l++gB ⟨k,n,t⟩):=by show _=_;rw[z.o,oB i,oB q]
   have a:=g.o;rw[R.o]at a;have d:=Hd a;clear a i q;go_wp2_with fail
   go_returns
   exact⟨Z,d.o⟩
end
def szV(l:List bj):Nat:=(l.map fun v=>13+v.h.size).sum
theorem CM(l:List bj)(k:Nat)(v:bj)(h:l[k]?=A v):szV (l.take k)+(13+v.h.size)=szV (l.take (k+1)):=by
 unfold szV;rw[Gd,h];simp
theorem BS:∀(l:List bj) (k:Nat),szV (l.take k)≤szV l
 | [],k=>by simp
 | v::l,0=>by simp[szV]
 | v::l,k+1=>by
  have:=BS l k;simp only[szV,FO,List.map_cons,List.sum_cons]at this ⊢;omega
theorem ll:∀l:List bj,(l.flatMap gB).length≤szV l
 | []=>by simp
 | v::l=>by
  have:=ll l;have:=B9 v;rw[List.flatMap_cons,FT];simp only[szV,List.map_cons,List.sum_cons]at *;omega
section
variable {W W':J} {B b:Nat} {l:List UInt8}
def Fq(W0:J) (B b:Nat) (vs:List bj) (l:List UInt8) (i:tT) (W:J):Prop:=
 ∃(a:J) (k:Nat),a=W∧i=I U k∧k≤vs.length∧dJ W0 B b (l++beB 4 vs.length++(vs.take k).flatMap gB) a
theorem np(h:jN W B b l){vs:List bj}{sl:tT}(M:bL.h W (fun x=>x<B) vs sl)(hl:l.length+4+szV vs≤140737488355328):wg vo 48 #[vv (A ⟨b,0,Y⟩),sl] W fun e W'=>e=wj (y9 #[])∧dJ W B b (l++jZ vs) W':=by
 obtain⟨p,c,w⟩:=Rd.q M;have u:=Rd.N M;obtain⟨n,R⟩:=zzy (vs.length);rw[R]at w u;have a6:n≤9223372036854775807:=by unfold maxLen at u;omega
 have N:=lT h n (by omega);have HR:=Hd (fun V (hV:Below B W V)=>Rd.sb (fun x hx o ho=>(hV.block x hx).trans ho) M);obtain⟨d,HL,N⟩:=zz3 R hl N;subst w;clear h M R hl u
 go_enter Tryz.func48,Tryz.ntmps48
 go_wp2_with fail
 refine N.o.mono ?_;rintro e W2 ⟨rfl,f⟩;have y:=Hd f;clear f N;go_wp2_with fail
 go_loopw [12] (Fq W B b vs l) (fun i _=>n-(intOf i).toNat)
 case atStart=>exact⟨_,0,Z,Z,FR _,by rw[d.o];simpa using y.o⟩
 case round =>
  clear y;obtain⟨m,k,rfl,rfl,hk,f⟩:=hrel;rw[d.o]at hk f;have r:=Hd f;have g:=f;clear f
  by_cases z:k<n
  ·have ba:(k:Int)<n:=by omega
   obtain⟨v,P⟩:∃v,vs[k]?=A v:=⟨vs[k]'(by rw[d.o];exact z),FD (by rw[d.o];exact z)⟩;obtain⟨S,off,cap,us,C,_,_,_,X,D,a⟩:=Rd.K (HR.o _ g.2.1) P;injection C with hp ad af
   subst hp;clear ad af;obtain⟨rfl,s⟩:=eh.1 D;have d0:m.cell? ⟨S,off+k*3,Y⟩=A (I tF v.q):=a 0 _ Z;have d1:m.cell? ⟨S,off+k*3+1,Y⟩=A (I U v.u):=a 1 _ Z;have d2:m.cell? ⟨S,off+k*3+2,Y⟩=A (tS v.h):=a 2 _ Z;obtain⟨Q,q⟩:=zzx (m.alloc (r9 #[I tF v.q,I U v.u,tS v.h] 88));have E:Gl m Q:=by rw[q];exact (Fz _ m).alloc (Fy _) _
   have F:Q.heap[m.heap.size]?=A (r9 #[I tF v.q,I U v.u,tS v.h] 88 (0,0)):=by rw[q];exact oA m _
   have j:=g.C E;have G:(l++beB 4 n++(vs.take k).flatMap gB).length+13+v.h.size≤140737488355328:=by
    have h1:=CM vs k v P;have h2:=BS vs (k+1);have h3:=ll (vs.take k);have h4:=HL.o;rw[FT,FT,aU];omega
   obtain⟨HV,H,aq,K,ar⟩:=zz5 (wl j.1 v s.1 G) j F q P;unfold jL at HV;clear E F j q a D s X G g P;go_upto_region 4 with fail
   change Code.wp _ _ _ _ (m.alloc (r9 #[I tF v.q,I U v.u,tS v.h] 88));rw[←K.o];clear K d0 d1 d2;obtain⟨d0,d1,d2,_⟩:=aE aq.o;go_wp2_with fail
   refine HV.o.mono ?_;rintro e W4 ⟨rfl,t⟩;have L:dJ W B b (l++beB 4 vs.length++(vs.take (k+1)).flatMap gB) W4:=by
    have h1:=H.o.h t;rw[Gd,ar.o,List.flatMap_append,d.o];simp only[Option.toList,List.flatMap_cons,List.flatMap_nil,List.append_nil];rw[←List.append_assoc];exact h1
   have a1:=Hd L;clear t L HV;go_wp2_with fail
   refine⟨⟨_,k+1,Z,by go_num,by rw[d.o];omega,a1.o⟩,by simp[intOf];omega⟩
  ·obtain rfl:k=n:=by omega
   have hf:l++beB 4 k++(vs.take k).flatMap gB=l++jZ vs:=by
    unfold jZ;rw[←d.o,List.take_length,List.append_assoc]
   rw[hf]at r;clear hf g;go_wp2_with fail
   go_returns
   exact⟨Z,r.o⟩
def szF(f:am):Nat:=20+szV f.a
theorem jb(f:am):(bJ f).length≤szF f:=by
 unfold bJ szF jZ;have:=ll f.a;simp only[FT,aU];omega
theorem qX(h:jN W B b l){f:am}{M N P:tT}(Q:aC.at_ W (fun x=>x<B) f [M,N,P])(H:l.length+szF f≤140737488355328):wg vo 45 #[vv (A ⟨b,0,Y⟩),Value.agg #[M,N,P]] W fun e W'=>e=wj (y9 #[])∧dJ W B b (l++bJ f) W':=by
 obtain⟨_,_,sl,a,d⟩:=bY.1 Q;injection a with e0 a
 injection a with e1 a
 injection a with e2 _
 subst e0;subst e1;subst e2;obtain⟨p,c,v⟩:=Rd.q d;obtain⟨m,hm⟩:=zzy (f.a.length);rw[hm]at v;subst v;unfold szF at H;obtain⟨g,n⟩:=zzx (W.alloc (r9 #[I U f.id,I U f.u,O p m c] 47));have t:Gl W g:=by rw[n];exact (Fz _ W).alloc (Fy _) _
 have q:g.heap[W.heap.size]?=A (r9 #[I U f.id,I U f.u,O p m c] 47 (0,0)):=by rw[n];exact oA W _
 obtain⟨W2,r⟩:=zzx (g.alloc (r9 #[I U f.id,I U f.u] 2));have u:Gl g W2:=by rw[r];exact (Fz _ g).alloc (Fy _) _
 have w:W2.heap[g.heap.size]?=A (r9 #[I U f.id,I U f.u] 2 (0,0)):=by rw[r];exact oA g _
 have ad:=h.lt;have af:=t.size;have i:=((dJ.refl h).C t).C u;obtain⟨R,K,L⟩:=zz3 (ka (o:=g.heap.size) (sz:=8) (ns:=[f.id,f.u]) i.1 (by omega) w (by omega) (by simp;omega) 2) (aa u q (Fx.1 q).1) q;have y:=Hd (fun V (hV:Below B W V)=>Rd.sb (fun x hx o ho=>(hV.block x hx).trans ho) d);obtain⟨z,C,D,HL⟩:=zz4 i n r H;clear h Q d t q u w i n r H hm
 go_enter Tryz.func45,Tryz.ntmps45
 go_upto_region 1 with fail
 change Code.wp _ _ _ _ (W.alloc (r9 #[I U f.id,I U f.u,O p m c] 47));rw[←C.o];clear C;obtain⟨S,X,x2,_⟩:=aE L.o;go_wp2_with fail
 change wg _ _ _ (g.alloc (r9 #[I U f.id,I U f.u] 2)) _;rw[←D.o];refine R.o.mono ?_;rintro e W3 ⟨rfl,j⟩;have E:=j.2.2 _ _ K.o (fun e=>by injection e with e;omega) (fun c fz e=>by injection e with _ e;exact absurd e (by decide))
 have s:=z.o.h j;obtain⟨HV,F⟩:=zz2 (np s.1 (y.o _ s.2.1) (by have:=HL.o;simp only[FT,List.flatMap_cons,List.flatMap_nil,aU,List.length_nil];omega)) s;clear D S X x2 j s R;obtain⟨S,X,x2,_⟩:=aE E;clear E;go_wp2_with fail
 refine HV.o.mono ?_;rintro e W4 ⟨rfl,k⟩;have hF:l++[f.id,f.u].flatMap (beB 8)++jZ f.a=l++bJ f:=by unfold bJ;simp
 rw[hF]at k;have G:=Hd (F.o.h k);clear k hF;go_wp2_with fail
 go_returns
 exact⟨Z,G.o⟩
end
def ao(W:J) (l:List UInt8) (e:Ending) (W':J):Prop:=∃v,e=wj v∧Lib.HoldsBytes W' v l∧Gl W W'∧∀g,v.ownBlock=A g→W.heap.size≤g∧g<W'.heap.size
section
variable {W W':J} {B b:Nat} {l:List UInt8} {T:TypeId}
theorem ov(h:LibA.IsBuffer T (fun _=>Y) 5 B b 0 (Lib.byteCells l) W)(w:0<l.length):wg vo 23 #[vv (A ⟨b,0,Y⟩)] W fun e W'=>W'=W.drew∧∃g cap,e=wj (O (A ⟨g,0,Y⟩) l.length cap)∧∀(i:Nat) (x:UInt8),l[i]?=A x→W.cell? ⟨g,i,Y⟩=A (I tF (x.toNat:Int)):=by
 obtain⟨hB,v,z,m,c,_⟩:=h;have s:W.cell? ⟨b,0,Y⟩=A v:=m.c0;have C:W.cell? ⟨b,1,Y⟩=A (I U 0):=m.c1;rcases c.2 with ⟨_,j⟩|⟨g,cap,cur,rfl,_,t,f,p,q,d⟩
 ·rw[dH]at j;omega
 ·rw[dH]at s f d;have a:∀(i:Nat) (x:UInt8),l[i]?=A x→W.cell? ⟨g,i,Y⟩=A (I tF (x.toNat:Int)):=fun i x y=>by
   rw[Gk _ _ _ _ _ _ t];have k:(cur.toList.take (l.length*1))[i]?=A (I tF (x.toNat:Int)):=by rw[d];simp[Lib.byteCells,y]
   rw[List.getElem?_take]at k
   split at k
   ·simpa using k
   ·cases k
  have r:=Hd a;obtain⟨n,j⟩:=zzy (l.length);rw[j]at s f w ⊢;unfold maxLen at p;have u:cap≠0:=by omega
  clear hB m c t q d a j
  go_enter Tryz.func23,Tryz.ntmps23
  go_upto_region 1 with fail
  go_still_tail 9,(by kernel_rfl)
  change wpList _ _ _ _ _ W.drew;go_wp2_with fail
  go_ret;exact⟨Z,g,cap,Z,r.o⟩
theorem ao.of{c:J}{e:Ending}(a:Gl W c)(h:ao c l e W'):ao W l e W':=by
 obtain⟨v,i,j,k,d⟩:=h;exact⟨v,i,j,a.trans (k.mono a.size),fun g f=>⟨FH a.size (d g f).1,(d g f).2⟩⟩
theorem om{v:tT}(h:W.ownsRow B 5 1 v l.length (Lib.byteCells l)):Lib.HoldsBytes W v l:=by
 rcases h.2 with ⟨rfl,j⟩|⟨g,cap,cur,rfl,hB,k,o,hm,m,f⟩
 ·obtain rfl:l=[]:=F5 j;exact⟨Y,0,Z,fun _=>rfl,fun a c=>by cases c⟩
 ·refine⟨_,cap,Z,(fun e=>by cases e),fun a c i x n=>?_⟩;injection c with c
  subst c;rw[Addr.add_mid,Gk _ _ _ _ _ _ k,Nat.zero_add];have d:(cur.toList.take (l.length*1))[i]?=A (I tF (x.toNat:Int)):=by rw[f];simp[Lib.byteCells,n]
  rw[List.getElem?_take]at d
  split at d
  ·simpa using d
  ·cases d
theorem mY(l:List UInt8):(l.map fun b=>(b.toNat:Int)).map (I tF)=Lib.byteCells l:=by simp[Lib.byteCells]
theorem kE(h:jN W B b l)(j:0<l.length)(k:l.length≤140737488355328):wg vo 43 #[vv (A ⟨b,0,Y⟩)] W (ao W l):=by
 obtain⟨d,s⟩:=zz2 (ov h.1 j) k;obtain⟨n,f⟩:=zzy (l.length);rw[f]at d;have c:=Hd f;clear h j k f
 go_enter Tryz.func43,Tryz.ntmps43
 go_wp2_with fail
 refine d.o.mono ?_;rintro e W2 ⟨rfl,g,cap,rfl,m⟩
 have p:=Hd (Tryz.bytes_Clone_at ⟨g,0,Y⟩ n cap (l.map fun b=>(b.toNat:Int)) W.drew (by simp[c.o]) (by rw[←c.o];exact s.o) (fun i hi=>by
  rw[rN l i (by rw[c.o];exact hi),Addr.add_mid,Nat.zero_add]
  exact m i _ (FD (by rw[c.o];exact hi))))
 clear m d;go_wp2_with fail
 refine p.o.mono ?_;rintro e t ⟨q,rfl,a,_,r⟩;rw[mY,←c.o]at a;have u:Hid (ao W l (wj q) t):=⟨q,Z,om a,((Fz _ W).drew).trans r,fun g v=>aL a g v⟩;clear a r p;go_wp2_with fail
 go_ret;exact u.o
theorem lF{c:Nat}(a:W.heap[b]?=A (r9 #[O Y 0 0,I U 0,I .i8 0] 96 (0,0)))(d:c≤b):jN W c b []:=
 ⟨LibA.zero_isBuffer d (LibA.three_whole a),F8 (Nat.lt_of_le_of_lt d (Fx.1 a).1)⟩
theorem vI(n:Int)(W:J):wg vo 44 #[I U n] W (ao W (beB 8 n)):=by
 obtain⟨a,c⟩:=zzx (W.alloc (r9 #[O Y 0 0,I U 0,I .i8 0] 96));have d:Gl W a:=by rw[c];exact (Fz _ W).alloc (Fy _) _
 have f:a.heap[W.heap.size]?=A (r9 #[O Y 0 0,I U 0,I .i8 0] 96 (0,0)):=by rw[c];exact oA W _
 have k:=lF f (Fy _);have m:=k.lt;have g:Gl a (a.alloc (r9 #[I U n] 2)):=(Fz _ a).alloc (Fy _) _;have p:=(dJ.refl k).C g;obtain⟨t,u,h,i⟩:=zz4 (ka (o:=a.heap.size) (sz:=8) (ns:=[n]) p.1 (by omega) (oA a _) (by omega) (by simp) 1) p d c;clear d f k g p c m
 go_enter Tryz.func44,Tryz.ntmps44
 go_upto_region 2 with fail
 change Code.wp _ _ _ _ (W.alloc (r9 #[O Y 0 0,I U 0,I .i8 0] 96));rw[←i.o];clear i;go_wp2_with fail
 refine t.o.mono ?_;rintro e C ⟨rfl,q⟩;have w:[]++[n].flatMap (beB 8)=beB 8 n:=by simp
 rw[w]at q;have r:=u.o.h q;obtain⟨x,s⟩:=zz2 (kE r.1 (by rw[aU];omega) (by rw[aU];omega)) (h.o.trans r.2.1);clear q r w t u h;go_wp2_with fail
 refine x.o.mono ?_;intro e y j;obtain⟨v,rfl,j⟩:=j;have z:Hid (ao W (beB 8 n) (wj v) y):=ao.of s.o ⟨v,Z,j⟩;clear j x;go_wp2_with fail
 go_ret;exact z.o
theorem yI(s:ByteArray)(W:J)(k:4+s.size≤140737488355328):wg vo 18 #[tS s] W (ao W (bW s)):=by
 obtain⟨h,a⟩:=zzx (W.alloc (r9 #[O Y 0 0,I U 0,I .i8 0] 96));have c:Gl W h:=by rw[a];exact (Fz _ W).alloc (Fy _) _
 have d:h.heap[W.heap.size]?=A (r9 #[O Y 0 0,I U 0,I .i8 0] 96 (0,0)):=by rw[a];exact oA W _
 have n:=lF d (Fy _);obtain⟨p,f,g,r⟩:=zz4 (qM n s (by simpa using k)) c a k;clear c d n a k
 go_enter Tryz.func18,Tryz.ntmps18
 go_upto_region 2 with fail
 change Code.wp _ _ _ _ (W.alloc (r9 #[O Y 0 0,I U 0,I .i8 0] 96));rw[←g.o];clear g;go_wp2_with fail
 refine p.o.mono ?_;rintro e w ⟨rfl,i⟩;rw[List.nil_append]at i;have hlen:(bW s).length=4+s.size:=by unfold bW;rw[FT,aU];rfl
 obtain⟨q,m⟩:=zz2 (kE i.1 (by rw[hlen];omega) (by rw[hlen];exact r.o)) (f.o.trans i.2.1);clear i hlen p f;go_wp2_with fail
 refine q.o.mono ?_;intro e t j;obtain⟨v,rfl,j⟩:=j;have u:Hid (ao W (bW s) (wj v) t):=ao.of m.o ⟨v,Z,j⟩;clear j q;go_wp2_with fail
 go_ret;exact u.o
end
