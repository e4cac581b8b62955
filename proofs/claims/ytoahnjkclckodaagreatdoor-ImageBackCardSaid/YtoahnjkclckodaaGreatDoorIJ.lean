/- Parts of one proof, joined; conditions stand in each theorem. -/
import Derived.Test.YtoahnjkclckodaaGreatDoorII
import Derived.Test.YtoahnjkclckodaaGreatDoorIE
import Derived.Lib.SlFresh
import Derived.Test.YtoahnjkclckodaaGreatDoorIH
open Option renaming some→A,none→Y
open Go renaming World→J,Value→tS,Calls→vv,undef→xk,TypeId→xD
open Go.Proofs.Tryz renaming prog→va
open Go.Value renaming agg→wP,int→I,slice→O,pointer→vo,tuple→y9
open Go.Obj renaming cells→r7
open Go.IntKind renaming i64→U
open Go.Ending renaming returned→wg
open Or renaming inl→wD,inr→wF
namespace Go.Proofs.YtoahnjkclckodaaGreatDoor
set_option maxHeartbeats 2000000
set_option maxRecDepth 100000
open Go.RowKit
def szR(r:eb):Nat:=24+(r.a.map szF).sum+szV r.b
theorem Fl(l:List ai)(k:Nat)(f:ai)(h:l[k]?=A f):((l.take k).map szF).sum+szF f=((l.take (k+1)).map szF).sum:=by
 rw[Kj,h];simp
theorem Ae:∀(l:List ai) (k:Nat),((l.take k).map szF).sum≤(l.map szF).sum
 | [],k=>by simp
 | f::l,0=>by simp
 | f::l,k+1=>by
  have:=Ae l k;simp only[JY,List.map_cons,List.sum_cons]at this ⊢;omega
theorem jW:∀l:List ai,(l.flatMap bD).length≤(l.map szF).sum
 | []=>by simp
 | f::l=>by
  have:=jW l;have:=jD f;rw[List.flatMap_cons,J2];simp only[List.map_cons,List.sum_cons]at *;omega
section
variable {W W':J} {B b:Nat} {l:List UInt8}
theorem Ct{f:ai}{D E F:tS}{W:J}(w:aG.at_ W (fun x=>x<W.heap.size) f [D,E,F])(y:szF f≤140737488355328):vv va 20 #[wP #[D,E,F]] W (av W (bD f)):=by
 obtain⟨_,_,sl,a,g⟩:=bW.1 w;obtain⟨p,c,r⟩:=Rd.q g;obtain⟨m,hm⟩:=zzy (f.c.length);rw[hm]at r;subst r;injection a with M a
 injection a with N a
 injection a with P _
 subst M;subst N;subst P;have hlen:=jD f;have h:0<(bD f).length:=by unfold bD;rw[J2,J2,aO];omega
 obtain⟨z,d⟩:=zzx ((W.alloc (r7 #[I U f.id,I U f.u,O p m c] 47)).alloc (r7 #[O Y 0 0,I U 0,I .i8 0] 96));obtain⟨i,j,_⟩:=bc W (r7 #[I U f.id,I U f.u,O p m c] 47) (r7 #[O Y 0 0,I U 0,I .i8 0] 96);rw[←d]at i j;have k:Kr W z:=by rw[d];exact ((JO _ W).alloc (JM _) _).alloc (by rw[o3];omega) _
 have G:=mA j (J9 W.heap.size);have H:=Hd (tm G (f:=f) (aG.K (fun x Q o q=>(k.block x Q).trans q) w) (by simpa using y));obtain⟨R,S,x2,_⟩:=aL i;obtain⟨s,t,K⟩:=zz3 k d (And.intro h (JU hlen y));clear k i j G d y hlen h w g hm
 go_enter Tryz.func20,Tryz.ntmps20
 go_upto_region 2 with fail
 change Code.wp _ _ _ _ ((W.alloc (r7 #[I U f.id,I U f.u,O p m c] 47)).alloc (r7 #[O Y 0 0,I U 0,I .i8 0] 96));rw[←t.o];clear t;go_wp2_with fail
 refine H.o.mono ?_;rintro e W3 ⟨rfl,u⟩;rw[List.nil_append]at u;obtain⟨L,C⟩:=zz2 (lu u.1 K.o.1 K.o.2) (s.o.trans u.2.1);clear u H s R S x2;go_wp2_with fail
 refine L.o.mono ?_;intro e T q;obtain⟨v,rfl,q⟩:=q;have X:Hid (av W (bD f) (wg v) T):=av.of C.o ⟨v,Z,q⟩;clear q L;go_wp2_with fail
 go_ret;exact X.o
def Jv(W0:J) (B b:Nat) (a:List ai) (l:List UInt8) (i:tS) (W:J):Prop:=
 ∃(c:J) (k:Nat),c=W∧i=I U k∧k≤a.length∧dW W0 B b (l++(a.take k).flatMap bD) c
theorem oa(r:eb):(cQ r).length≤szR r:=by
 have:=jW r.a;have:=l9 r.b;unfold cQ szR gV;simp only[J2,aO];omega
theorem qX{r:eb}{y0 y1 y2 y3:tS}{W:J}(hf:bJ.at_ W (fun x=>x<W.heap.size) r [y0,y1,y2,y3])(hl:szR r≤140737488355328):vv va 21 #[wP #[y0,y1,y2,y3]] W (av W (cQ r)):=by
 have hlen:=oa r;have P:0<(cQ r).length:=by unfold cQ;rw[J2,J2,J2,J2,aO];omega
 obtain⟨_,_,sf,ss,h,E,af⟩:=cY.1 hf;obtain⟨p,c,bR⟩:=Rd.q E;obtain⟨p2,c2,j⟩:=Rd.q af;have aq:=Rd.sb E;obtain⟨m2,b0⟩:=zzy (r.b.length);obtain⟨n,hn⟩:=zzy (r.a.length);rw[b0]at j;rw[hn]at bR aq;have c1:n≤9223372036854775807:=by unfold maxLen at aq;omega
 subst bR;subst j;injection h with e0 h
 injection h with e1 h
 injection h with e2 h
 injection h with e3 _
 subst e0;subst e1;subst e2;subst e3;obtain⟨er,ar⟩:=zzy (r.h);obtain⟨q,a1⟩:=zzy (r.u);rw[ar,a1];obtain⟨s,F⟩:=zzx ((W.alloc (r7 #[I U er,I U q,O p n c,O p2 m2 c2] 52)).alloc (r7 #[O Y 0 0,I U 0,I .i8 0] 96));obtain⟨t,a6,_⟩:=bc W (r7 #[I U er,I U q,O p n c,O p2 m2 c2] 52) (r7 #[O Y 0 0,I U 0,I .i8 0] 96);rw[←F]at t a6;have b1:Kr W s:=by rw[F];exact ((JO _ W).alloc (JM _) _).alloc (by rw[o3];omega) _
 have h1:=mA a6 (J9 W.heap.size);obtain⟨W2,G⟩:=zzx (s.alloc (r7 #[I U er,I U q] 2));have ba:Kr s W2:=by rw[G];exact (JO _ s).alloc (JM _) _
 have b2:W2.heap[s.heap.size]?=A (r7 #[I U er,I U q] 2 (0,0)):=by rw[G];exact oc s _
 have u:=(dW.refl h1).C ba;have H:=h1.lt;have HP:=Hd (kN (o:=s.heap.size) (sz:=8) (ns:=[er,q]) u.1 (by omega) b2 (by omega) (by simp) 2);have b3:=aa ba t (JL.1 t).1;have b4:=Hd b3;have cq:=Hd (fun V (hV:Kr W V)=>Rd.sv (fun x hx o D=>(hV.block x hx).trans D) E);have cr:=Hd (fun V (hV:Kr W V)=>Rd.sv (fun x hx o D=>(hV.block x hx).trans D) af);obtain⟨Q,b5,b6,b7,bd⟩:=zz5 u t F G b1;have ct:Hid (cQ r=beB 8 er++beB 8 q++beB 4 n++r.a.flatMap bD++gV r.b):=by show _=_;unfold cQ;rw[ar,a1,hn]
 have b8:Hid (24+(r.a.map szF).sum+szV r.b≤140737488355328):=hl;obtain⟨HL,w⟩:=zz2 (And.intro P (JU hlen hl)) hn;clear b1 t a6 h1 F hl hlen P hf E af hn b0 ar a1 aq ba b2 u b3 G H
 go_enter Tryz.func21,Tryz.ntmps21
 go_upto_region 2 with fail
 change Code.wp _ _ _ _ ((W.alloc (r7 #[I U er,I U q,O p n c,O p2 m2 c2] 52)).alloc (r7 #[O Y 0 0,I U 0,I .i8 0] 96));rw[←b6.o];clear b6;obtain⟨x0,x1,x2,x3,_⟩:=bC b5.o;go_wp2_with fail
 change vv _ _ _ (s.alloc (r7 #[I U er,I U q] 2)) _;rw[←b7.o];refine HP.o.mono ?_;rintro e W3 ⟨rfl,y⟩;have bg:=y.2.2 _ _ b4.o (fun e=>by injection e with e;omega) (fun c fz e=>by injection e with _ e;exact absurd e (by decide))
 have bk:=Q.o.h y;obtain⟨HC,R,b9⟩:=zz3 (mN bk.1 n (by simp[aO])) bk bg;clear b7 x0 x1 x2 x3 y bk HP Q b4;obtain⟨x0,x1,x2,x3,_⟩:=bC bg;clear bg;go_wp2_with fail
 refine HC.o.mono ?_;rintro e W4 ⟨rfl,z⟩;have bl:=z.2.2 _ _ b9.o (fun e=>by injection e with e;omega) (fun c fz e=>by injection e with _ e;exact absurd e (by decide))
 have bm:=R.o.h z;have ca:[]++[er,q].flatMap (beB 8)++beB 4 n=beB 8 er++beB 8 q++beB 4 n:=by simp
 rw[ca]at bm;obtain⟨S,cu⟩:=zz2 bm bl;clear x0 x1 x2 x3 z bm HC R b9 ca;obtain⟨x0,x1,x2,x3,_⟩:=bC bl;clear bl;go_wp2_with fail
 clear x0 x1 x2 x3
 go_loopw [19] (Jv s W.heap.size (W.heap.size+1) r.a (beB 8 er++beB 8 q++beB 4 n)) (fun i _=>n-(intOf i).toNat)
 case atStart=>exact⟨_,0,Z,Z,J0 _,by simpa using S.o⟩
 case round =>
  clear S cu;obtain⟨K,k,rfl,rfl,hk,bn⟩:=hrel;rw[w.o]at hk;have cb:=Hd bn;have a:=bn;clear bn
  by_cases H:k<n
  ·have c3:(k:Int)<n:=by omega
   obtain⟨f,L⟩:∃v,r.a[k]?=A v:=⟨r.a[k]'(by rw[w.o];exact H),JR (by rw[w.o];exact H)⟩;have bq:=bd.o.trans a.2.1;obtain⟨bb,off,cap,us,j,_,_,_,cv,bt,g⟩:=Rd.X (cq.o _ bq) L;injection j with hp cy cA
   subst hp;clear cy cA;obtain⟨cC,cR,sl,rfl,T⟩:=bW.1 bt;obtain⟨p6,c6,X⟩:=Rd.q T;obtain⟨m6,cc⟩:=zzy (f.c.length);rw[cc]at X;subst X;have d0:K.cell? ⟨bb,off+k*3,Y⟩=A (I U f.id):=g 0 _ Z;have d1:K.cell? ⟨bb,off+k*3+1,Y⟩=A (I U f.u):=g 1 _ Z;have d2:K.cell? ⟨bb,off+k*3+2,Y⟩=A (O p6 m6 c6):=g 2 _ Z;obtain⟨W6,M⟩:=zzx (K.alloc (r7 #[I U f.id,I U f.u,O p6 m6 c6] 47));have bB:Kr K W6:=by rw[M];exact (JO _ K).alloc (JM _) _
   have cf:W6.heap[K.heap.size]?=A (r7 #[I U f.id,I U f.u,O p6 m6 c6] 47 (0,0)):=by rw[M];exact oc K _
   have d:=a.C bB;have C:(beB 8 er++beB 8 q++beB 4 n++(r.a.take k).flatMap bD).length+szF f≤140737488355328:=by
    have h1:=Fl r.a k f L;have h2:=Ae r.a (k+1);have h3:=jW (r.a.take k);have h4:=b8.o;simp only[J2,aO];omega
   obtain⟨HV,ch,cT,ck,cV⟩:=zz5 (tm d.1 (f:=f) (aG.K (fun x hx o D=>(bB.block x (JS hx bq.size)).trans D) bt) C) d cf M L;clear bB cf d M g bt cv C a L bq T cC cR cc;go_upto_region 7 with fail
   change Code.wp _ _ _ _ (K.alloc (r7 #[I U f.id,I U f.u,O p6 m6 c6] 47));rw[←ck.o];clear ck d0 d1 d2;obtain⟨d0,d1,d2,_⟩:=aL cT.o;go_wp2_with fail
   refine HV.o.mono ?_;rintro e W7 ⟨rfl,ad⟩;have cl:dW s W.heap.size (W.heap.size+1) (beB 8 er++beB 8 q++beB 4 n++(r.a.take (k+1)).flatMap bD) W7:=by
    have h1:=ch.o.h ad;rw[Kj,cV.o,List.flatMap_append];simp only[Option.toList,List.flatMap_cons,List.flatMap_nil,List.append_nil];rw[←List.append_assoc];exact h1
   have cW:=Hd cl;clear ad cl HV;go_wp2_with fail
   refine⟨⟨_,k+1,Z,by go_num,by rw[w.o];omega,cW.o⟩,by simp[intOf];omega⟩
  ·obtain rfl:k=n:=by omega
   have cm:(r.a.take k).flatMap bD=r.a.flatMap bD:=by rw[←w.o,List.take_length]
   rw[cm]at a;have cn:=a.2.2 _ _ b5.o (fun e=>by injection e with e;omega) (fun c fz e=>by injection e with _ e;exact absurd e (by decide))
   have C:(beB 8 er++beB 8 q++beB 4 k++r.a.flatMap bD).length+4+szV r.b≤140737488355328:=by
    have h3:=jW r.a;have h4:=b8.o;simp only[J2,aO];omega
   obtain⟨HV,cp⟩:=zz2 (pd a.1 (cr.o _ (bd.o.trans a.2.1)) C) a;clear a cm cb C;obtain⟨x0,x1,x2,x3,_⟩:=bC cn;clear cn;go_wp2_with fail
   refine HV.o.mono ?_;rintro e W6 ⟨rfl,d⟩;have N:=cp.o.h d;rw[←ct.o]at N;obtain⟨HT,c0⟩:=zz2 (lu N.1 HL.o.1 HL.o.2) (bd.o.trans N.2.1);clear d N HV cp x0 x1 x2 x3;go_wp2_with fail
   refine HT.o.mono ?_;intro e W7 D;obtain⟨v,rfl,D⟩:=D;have HO:Hid (av W (cQ r) (wg v) W7):=av.of c0.o ⟨v,Z,D⟩;clear D HT;go_wp2_with fail
   go_ret;exact HO.o
end
theorem xO:(Tryz.prog.info? 5).map (fun i=>(i.zero,i.size,i.bytes))=A (A (I IntKind.u8 0),1,1):=by kernel_rfl
section
variable {W W':J} {B b:Nat} {l:List UInt8}
def Jz(W0:J) (ns:List Int) (i o:tS) (W:J):Prop:=
 ∃(a:J) (k:Nat) (v:tS),a=W∧i=I U k∧o=v∧k≤ns.length∧a.ownsRow W0.heap.size 5 1 v (k*8) (Lib.byteCells ((ns.take k).flatMap (beB 8)))∧Kr W0 a
theorem av.own{v:tS}(h:W'.ownsRow W.heap.size 5 1 v l.length (Lib.byteCells l))(a:Kr W W'):av W l (wg v) W':=
 ⟨v,Z,mr h,a,fun g c=>aP h g c⟩
theorem iW{ns:List Int}{v:tS}{W:J}(X:Rd.int.h W (fun x=>x<W.heap.size) ns v)(hl:ns.length*8≤140737488355328):vv va 19 #[v] W (av W (ns.flatMap (beB 8))):=by
 obtain⟨p,c,F⟩:=Rd.q X;obtain⟨n,hn⟩:=zzy (ns.length);rw[hn]at F hl;have bq:n≤9223372036854775807:=by omega
 have HR:=Hd (fun V (hV:Kr W V)=>Rd.sv (fun x hx o ho=>(hV.block x hx).trans ho) X);obtain⟨m,HL⟩:=zz2 hn hl;obtain⟨ti,ad,af,aq,ar⟩:=info_parts xO;subst F;clear X hn hl
 go_enter Tryz.func19,Tryz.ntmps19
 go_wp2_with fail
 go_loopw [8,3] (Jz W ns) (fun i _ _=>n-(intOf i).toNat)
 case atStart=>exact⟨_,0,_,Z,Z,Z,J0 _,by simpa [Lib.byteCells]using World.ownsRow_nil W W.heap.size 5 1,JO _ _⟩
 case round =>
  obtain⟨W1,k,v,rfl,rfl,rfl,hk,f,G⟩:=hrel;rw[m.o]at hk;obtain⟨H,HB⟩:=zz2 f G
  by_cases K:k<n
  ·have bn:(k:Int)<n:=by omega
   obtain⟨x,w⟩:∃v,ns[k]?=A v:=⟨ns[k]'(by rw[m.o];exact K),JR (by rw[m.o];exact K)⟩;obtain⟨bb,off,cap,us,L,_,_,_,a1,a6,q⟩:=Rd.X (HR.o _ G) w;injection L with hp ba bd
   subst hp;clear ba bd;obtain⟨rfl,hI⟩:=a6;have d0:W1.cell? ⟨bb,off+k,Y⟩=A (I U x):=by
    have:=q 0 _ Z
    simpa [Rd.int,Rd.u]using this
   obtain⟨HN,bg⟩:=zz2 (yR x W1) w;clear q w a1 f G hI;go_wp2_with fail
   refine HN.o.mono ?_;intro e W2 ho;obtain⟨v2,rfl,⟨p2,M,rfl,N,P⟩,t,_⟩:=ho;obtain⟨a2,rfl⟩:∃a,p2=A a:=by
    cases p2 with
    | none=>have:=o4 List.length (N Z);rw[aO]at this;cases this
    | some a=>exact⟨a,Z⟩
   have r:=hH H.o t;have bt:=t.size;obtain⟨Q,s⟩:=zz2 (HB.o.trans (t.mono HB.o.size)) r;have bk:Hid (∀j u,(Lib.byteCells (beB 8 x))[j]?=A u→W2.cell? (a2.add j)=A u):=by
    intro j u hj;simp only[Lib.byteCells,List.getElem?_map,o7]at hj;obtain⟨y,hy,rfl⟩:=hj;exact P a2 Z j y hy
   have z:(beB 8 x).length=8:=aO 8 x;have bl:=Hd z;rw[z];clear N P t r HN z;have C:Hid (W.heap.size≤W2.heap.size):=Q.o.size;have bB:k*8+8≤140737488355328:=by have:=HL.o;omega
   go_wp2_with (at_builtin;go_must (refine bS _ Z (.tmp 12) (.tmp 14) 29 Z W.heap.size 5 ti _ 1 1 Tryz.underlying29 ad af aq ar Z (by decide) u3 (k*8) (Lib.byteCells ((ns.take k).flatMap (beB 8))) Z s.o a2 8 M (Lib.byteCells (beB 8 x)) Z (by rw[db,bl.o]) bk.o (byteCells_one _) (by unfold maxLen;omega) (by omega) C.o (by decide) ?_);intro v9 W3 d h)
   have R:Below W.heap.size W2 W3:=by
    rcases h with ⟨g,cp,h1,_,D⟩|⟨_,_,D⟩
    ·have hg:=(aP s.o g (by rw[h1];rfl)).1;exact⟨D.os,D.tape,D.output,D.size,fun i hi=>D.block i (JS hi C.o) (fun e=>by injection e with e;omega)⟩
    ·exact D.mono C.o
   have bm:=Hd (Q.o.trans R);have S:Lib.byteCells ((ns.take k).flatMap (beB 8))++Lib.byteCells (beB 8 x)=Lib.byteCells ((ns.take (k+1)).flatMap (beB 8)):=by
    rw[Kj,bg.o,List.flatMap_append,ic];simp
   rw[S]at d;have T:k*8+8=(k+1)*8:=by omega
   rw[T]at d;have E:=Hd d;clear R S d h T;go_wp2_with fail
   refine⟨⟨_,k+1,_,Z,by go_num,Z,by rw[m.o];omega,E.o,bm.o⟩,by simp[intOf];omega⟩
  ·obtain rfl:k=n:=by omega
   have S:(ns.take k).flatMap (beB 8)=ns.flatMap (beB 8):=by rw[←m.o,List.take_length]
   rw[S]at f;have HO:Hid (av W (ns.flatMap (beB 8)) (wg u3) W1):=av.own (by rw[cG,m.o];exact f) G;clear S f G;go_wp2_with fail
   go_ret;exact HO.o
end
def iT(W:J) (o n:Nat) (l:List UInt8):Prop:=
 (n=1∧∃v,W.cell? ⟨o,0,Y⟩=A v∧Lib.HoldsBytes W v l∧0<l.length)∨
 (n=2∧∃v1 v2 a l2,W.cell? ⟨o,0,Y⟩=A v1∧W.cell? ⟨o,1,Y⟩=A v2∧Lib.HoldsBytes W v1 a∧Lib.HoldsBytes W v2 l2∧0<a.length∧l=a++l2)
def mR(W:J) (B b:Nat) (l:List UInt8):Prop:=LibA.IsBuffer 60 (fun _=>Y) 5 B b 0 (Lib.byteCells l) W∧B≤W.heap.size
def dS(W:J) (B b:Nat) (l:List UInt8) (W':J):Prop:=mR W' B b l∧Below B W W'∧Lib.OthersKept 5 (A b) W W'
section
variable {W W' W2:J} {B b o n:Nat} {l l' l2:List UInt8}
theorem dS.refl(h:mR W B b l):dS W B b l W:=⟨h,JO _ _,Lib.OthersKept.refl _ _ _⟩
theorem dS.C(h:dS W B b l W')(a:Kr W' W2):dS W B b l W2:=
 ⟨⟨h.1.1.old a,JU h.1.2 a.size⟩,h.2.1.trans (a.mono h.1.2),h.2.2.trans (fun k _o c _ _=>(a.block k (JL.1 c).1).trans c)⟩
theorem dS.h(h:dS W B b l W')(k:dS W' B b l' W2):dS W B b l' W2:=⟨k.1,h.2.1.trans k.2.1,h.2.2.trans k.2.2⟩
theorem mR.lt(h:mR W B b l):b<W.heap.size:=h.1.lt
theorem vW{v:tS}(h:Lib.FreshBytes W.heap.size W' v l)(u:0<l.length)(s:Kr W W'):av W l (wg v) W':=by
 obtain⟨g,cap,k,rfl,hB,w,hm,y,t,m,c,_⟩:=h;refine⟨_,Z,⟨_,cap,Z,(fun e=>by cases e),fun a p i x r=>?_⟩,s,fun z q=>?_⟩
 ·injection p with p
  subst p;have hi:=(J3.1 r).1;rw[Addr.add_mid,Nat.zero_add,c i (by omega)];have d:(Lib.bytesOf (k.take l.length))[i]?=A x:=by rw[m];exact r
  unfold Lib.bytesOf at d;rw[List.getElem?_map,List.getElem?_take,oj hi]at d;have f:k[i]?=A (k[i]'(by omega)):=JR (by omega);rw[f]at d;simp only[Option.map_some,o6]at d;have j:=t _ (List.getElem_mem (show i<k.length by omega));simp only[List.getD_eq_getElem?_getD,f,Option.getD_some,o6,Value.int.injEq,true_and];rw[←d,byte_of j.1 j.2]
 ·injection q with q
  subst q;exact⟨hB,World.block_lt_of_cell? _ _ (c 0 (by omega))⟩
theorem Cj(h:iT W o n l)(c:Nat)(u:n≤c)(f:l.length≤140737488355328):vv va 41 #[O (A ⟨o,0,Y⟩) n c] W (av W l):=by
 have w:Hid (vv va 68 #[O (A ⟨o,0,Y⟩) n c,O Y 0 0] W (av W l)):=by
  rcases h with ⟨rfl,v,q,⟨p,cap,rfl,r,x⟩,g⟩|⟨rfl,v1,v2,j,l2,y,c2,q,z,g,rfl⟩
  ·obtain⟨a,rfl⟩:∃a,p=A a:=by
    cases p with
    | none=>rw[r Z]at g;cases g
    | some a=>exact⟨a,Z⟩
   exact (Tryz.bytes_Join_one o 0 c a cap l (O Y 0 0) W q (x a Z) g f).mono fun e W' ⟨v,he,k,s⟩=>by rw[he];exact vW k g s
  ·have C:Lib.join [j,l2] []=j++l2:=by simp[Lib.join,List.intercalate]
   have t:0<(j++l2).length:=by rw[J2];omega
   refine (Tryz.bytes_Join_many o 0 2 c [v1,v2] [j,l2] (O Y 0 0) [] W Z (by decide) ⟨Z,fun i v d=>?_,fun i v l d f=>?_⟩ u ⟨Y,0,Z,fun _=>rfl,fun a D=>by cases D⟩ (by decide) (by simpa [Lib.lens]using f)).mono fun e W' ⟨v,he,k,s⟩=>by rw[he];rw[C]at k;exact vW k t s
   ·rw[Addr.add_mid,Nat.zero_add]
    match i,d with
    | 0,d=>injection d with d;rw[←d];exact y
    | 1,d=>injection d with d;rw[←d];exact c2
   ·match i,d,f with
    | 0,d,f=>injection d with d;injection f with f;rw[←d,←f];exact q
    | 1,d,f=>injection d with d;injection f with f;rw[←d,←f];exact z
 clear h u f
 go_enter Tryz.func41,Tryz.ntmps41
 go_wp2_with fail
 refine w.o.mono ?_;intro e E m;obtain⟨v,rfl,m⟩:=m;have F:Hid (av W l (wg v) E):=⟨v,Z,m⟩;clear m w;go_wp2_with fail
 go_ret;exact F.o
def PuS(W:J) (B b:Nat) (l l2:List UInt8):Nat→J→Prop
 | 0,V=>V=W.drew
 | 1,V=>Kr W V
 | _+2,V=>dS W B b (l++l2) V
def PuP(W:J) (B b:Nat) (l l2:List UInt8) (k:Nat) (V:J) (xs:List tS):Prop:=
 k=4→W.heap.size<V.heap.size∧(dS W B b (l++l2) V∨av W l2 (wg (xs.getD 0 xk)) V)
def PuR(W:J) (B b:Nat) (l l2:List UInt8) (V V':J):Prop:=(dS W B b (l++l2) V'∧V.heap.size≤V'.heap.size)∨V=W.drew
theorem PuP.K{k:Nat}{V V':J}{xs:List tS}(h:PuP W B b l l2 k V xs)(a:PuR W B b l l2 V V'):PuP W B b l l2 k V' xs:=by
 intro c;obtain⟨d,f⟩:=h c;rcases a with ⟨e,r2⟩|rfl
 ·exact⟨by omega,wD e⟩
 ·exact absurd d (Nat.lt_irrefl _)
theorem Hi{v:tS}{e:xD}{n m:Nat}{xs a:List tS}{d:Nat}(h:W.ownsRow B e 1 v n xs)(k:W'.ownsRow d e 1 v m a):n=m:=by
 rcases h.2 with ⟨rfl,rfl⟩|⟨g,c,f,rfl,_⟩
 ·rcases k.2 with ⟨_,rfl⟩|⟨g,c,f,e,_⟩
  ·rfl
  ·cases e
 ·rcases k.2 with ⟨e,_⟩|⟨g2,c2,i,e,_⟩
  ·cases e
  ·injection e with _ e _
theorem mR.no(h:mR W B b l)(i:0<l2.length)(c:Kr W W'):¬dS W B b (l++l2) W':=by
 rintro ⟨⟨⟨_,v2,d,t2,e,_⟩,_⟩,_⟩;have f:=h.lt;obtain⟨⟨_,v,j,t,o,_⟩,_⟩:=h;have g:=t.c0;have a:=t2.c0;rw[me (c.block b f)]at a;rw[g]at a;injection a with a
 subst a;have:=Hi o e;rw[db,db,J2]at this;omega
theorem av.grew{v:tS}(h:av W l (wg v) W')(f:0<l.length):W.heap.size<W'.heap.size:=by
 obtain⟨i,c,⟨p,cap,rfl,d,g⟩,j,e⟩:=h;injection c with c
 subst c
 cases p with
 | none=>rw[d Z]at f;cases f
 | some a=>have:=e a.block Z;omega
theorem tz(h:mR W B b l)(H:iT W o n l2)(g:0<l2.length)(c:Nat)(K:n≤c)(L:l.length+l2.length≤140737488355328):vv va 17 #[vo (A ⟨b,0,Y⟩),O (A ⟨o,0,Y⟩) n c] W fun e W'=>e=wg (y9 #[])∧dS W B b (l++l2) W':=by
 have M:=Hd (Cj (W:=W.drew) H c K (by omega));have k:Hid (∀V v,av W l2 (wg v) V→vv va 40 #[vo (A ⟨b,0,Y⟩),v] V fun e W'=>(∃u,e=wg u)∧dS W B b (l++l2) W'∧V.heap.size≤W'.heap.size):=by
  intro V v R;obtain⟨v',w,⟨p,cap,rfl,x,z⟩,C,D⟩:=R;injection w with w
  subst w;obtain⟨a,rfl⟩:∃a,p=A a:=by
   cases p with
   | none=>rw[x Z]at g;cases g
   | some a=>exact⟨a,Z⟩
  have S:=D a.block Z;have r:=(dS.refl h).C C;refine (Tryz.Buffer_Write_at 60 (fun _=>Y) B b 0 (Lib.byteCells l) (Lib.byteCells l2) a l2.length cap V r.1.1 r.1.2 (byteCells_one l) (db l2) (by have:=h.lt;omega) (fun j u N=>?_) (byteCells_one l2) (by rw[db];exact L)).mono fun e W' ⟨he,d,m,T⟩=>⟨⟨_,he⟩,r.h ⟨⟨by rw[ic];exact d,JU r.1.2 m.size⟩,m,T⟩,m.size⟩
  simp only[Lib.byteCells,List.getElem?_map,o7]at N;obtain⟨y,X,rfl⟩:=N;exact z a Z j y X
 have H0:=Hd g;have E:=Hd (fun V (C:Kr W V)=>h.no g C);clear h H g K L
 go_enter Tryz.func17,Tryz.ntmps17
 refine RE.z (by kernel_rfl) 6 [4,5] [4,5] (PuS W B b l l2) (PuR W B b l l2) (fun _ P=>P.getD 0 xk) (PuP W B b l l2) (by kernel_rfl) (fun i Q d _ _ _ _ _=>by rw[d]at Q;cases Q) (fun _ _ _ _ h _ hr=>h.K hr) Z ?_;simp only[JY,J7,JZ,J6]
 repeat (refine RE.q (fun _=>True) (fun _ _ _ _=>trivial) Z Z Z Z ?_;go_big_quiet_step (fail);refine wpQuiet_nil ?_)
 refine RE.h Z Z ?_ (fun xs=>?_)
 ·intro V _ f _;obtain rfl:V=W.drew:=f Z;refine RE.C 41 _ _ Z (enters_of Tryz.func41 (by kernel_rfl) Z) #[O (A ⟨o,0,Y⟩) n c] (by simp[Act.eval]) (M.o.mono ?_);intro e V' s;obtain⟨v,rfl,s⟩:=s;have t:av W l2 (wg v) V':=av.of (JO _ W).drew ⟨v,Z,s⟩;exact⟨v,Z,[v],Z,((JO _ W).drew).trans s.2.1,wF Z,fun _=>⟨t.grew H0.o,wF t⟩⟩
 simp only[Act.put,JP,JW,JV];refine RE.h Z Z ?_ (fun P=>?_)
 ·intro V _ f F;have hB:Kr W V:=f Z;have t:=(F 4 xs (by kernel_rfl) Z Z).2.resolve_left (E.o V hB);refine RE.C 40 _ _ Z (enters_of Tryz.func40 (by kernel_rfl) Z) #[vo (A ⟨b,0,Y⟩),xs.getD 0 xk] (by simp[Act.eval]) ((k.o V _ t).mono ?_);rintro e V' ⟨⟨u,rfl⟩,d,m⟩;exact⟨u,Z,[u],Z,d,wD ⟨d,m⟩,fun e=>by cases e⟩
 simp only[Act.put,JP,JW,JV];refine RE.u ?_;intro W3 f F;have q:dS W B b (l++l2) W3:=f;have G:=Hd q;clear q F f M k;go_wp2_with fail
 go_returns
 exact⟨Z,G.o⟩
end
theorem JD{z:tS}(h:z.cells.size=1):∃x,z.cells=#[x]:=by
 obtain⟨x,a⟩:∃x,z.cells.toList=[x]:=by
  have c:z.cells.toList.length=1:=by rw[Kc];exact h
  match d:z.cells.toList,c with
  | [x],_=>exact⟨x,Z⟩
 exact⟨x,by rw[←Array.toArray_toList (xs:=z.cells),a]⟩
theorem rZ:Elem 3 48 1 8:=Elem.of (z:=I U 0) Tryz.underlying48 (by kernel_rfl) (by kernel_rfl) (by decide) (by decide)
theorem nW:Elem 29 90 1 24:=Elem.of (z:=O Y 0 0) Tryz.underlying90 (by kernel_rfl) (by kernel_rfl) (by decide) (by decide)
theorem jC{E S:xD}{f:Nat}(k:Elem E S 1 f){o:Oper}{a:Act}{W:J}{G:tS→J→Prop}{u v:tS}(x y:Operand)(m:o.op=.buildSlice S 2 #[(0,x),(1,y)])(p:a.eval x=u)(r:a.eval y=v)
  (s:∀z:tS,Instr.fill (fun i=>A (i*1,1)) ((Array.range (2*1)).map (#[z][· % 1]!)) [(0,u),(1,v)]=A #[u,v])
  (t:∀W',Kr W W'→W'.heap[W.heap.size]?=A (r7 #[u,v] E (0,0))→G (O (A ⟨W.heap.size,0,Y⟩) 2 2) W'):RE.Upon va o a W G:=by
 obtain⟨i0,z,g,h,c,w,j⟩:=k.info;have d:(execOp a.eval o).run va W=.ok (.value (O (A ⟨W.heap.size,0,Y⟩) 2 2)) (W.alloc (r7 #[u,v] E)):=by
  unfold execOp;simp only[m,pb]
  rw[run_buildSlice W S E 2 _ #[u,v] i0 z k.und g h (by rw[c];decide) (by rw[c];decide) (by
   have e:((#[(0,x),(1,y)]:Array (Nat×Operand)).map fun (q:Nat×Operand)=>(q.1,a.eval q.2)).toList=[(0,a.eval x),(1,a.eval y)]:=by simp
   rw[e,p,r,c];obtain⟨C,D⟩:=JD j;rw[D]
   exact s C)]
  rfl
 exact RE.upon_run d (t _ ((JO _ W).alloc (JM _) _) (oc W _))
theorem zK(p q:Option Addr)(n m c d:Nat)(z:tS):Instr.fill (fun i=>A (i*1,1)) ((Array.range (2*1)).map (#[z][· % 1]!)) [(0,O p n c),(1,O q m d)]=A #[O p n c,O q m d]:=by kernel_rfl
theorem pI(a b:Int)(z:tS):Instr.fill (fun i=>A (i*1,1)) ((Array.range (2*1)).map (#[z][· % 1]!)) [(0,I U a),(1,I U b)]=A #[I U a,I U b]:=by kernel_rfl
theorem pS{W:J}{u v:tS}{l l2:List UInt8}(hu:Lib.HoldsBytes W u l)(a:Lib.HoldsBytes W v l2)(z:tS):Instr.fill (fun i=>A (i*1,1)) ((Array.range (2*1)).map (#[z][· % 1]!)) [(0,u),(1,v)]=A #[u,v]:=by
 obtain⟨p,c,rfl,_⟩:=hu;obtain⟨q,d,rfl,_⟩:=a;exact zK p q _ _ c d z
def FB(l:List UInt8) (V:J) (v:tS):Prop:=Lib.HoldsBytes V v l
def FI(ns:List Int) (V:J) (v:tS):Prop:=Rd.int.h V (fun x=>x<V.heap.size) ns v
def FP(l:List UInt8) (V:J) (v:tS):Prop:=∃o,v=O (A ⟨o,0,Y⟩) 2 2∧iT V o 2 l
section
variable {W W' V V':J} {B b o n:Nat} {l l' l2:List UInt8} {v:tS} {ns:List Int}
theorem js{p:Addr}{u:tS}(a:Kr V V')(h:V.cell? p=A u):V'.cell? p=A u:=(a.cell (World.block_lt_of_cell? _ _ h)).trans h
theorem FB.K(h:FB l V v)(c:Kr V V'):FB l V' v:=by
 obtain⟨p,cap,rfl,d,e⟩:=h;exact⟨p,cap,Z,d,fun a f i x g=>js c (e a f i x g)⟩
theorem FI.K(h:FI ns V v)(c:Kr V V'):FI ns V' v:=
 Rd.sI (fun _ a=>JS a c.size) (Rd.sv (fun x a _o d=>(c.block x a).trans d) h)
theorem iT.K(h:iT V o n l)(a:Kr V V'):iT V' o n l:=by
 rcases h with ⟨rfl,v,c,d,e⟩|⟨rfl,v1,v2,f,l2,g,c2,c,d,e⟩
 ·exact wD ⟨Z,v,js a c,FB.K d a,e⟩
 ·exact wF ⟨Z,v1,v2,f,l2,js a g,js a c2,FB.K c a,FB.K d a,e⟩
theorem FP.K(h:FP l V v)(a:Kr V V'):FP l V' v:=by
 obtain⟨o,rfl,h⟩:=h;exact⟨o,Z,h.K a⟩
theorem FI.two{x y:Int}(h:V.heap[o]?=A (r7 #[I U x,I U y] 3 (0,0)))(c:I64 x)(d:I64 y):FI [x,y] V (O (A ⟨o,0,Y⟩) 2 2):=by
 obtain⟨e,f,_⟩:=cj h;refine wF ⟨o,0,2,by simp,(JL.1 h).1,(JL.1 h).1,by simp,by decide,Z,fun i z a=>?_⟩
 match i,a with
 | 0,a =>
  injection a with a
  subst a
  exact⟨_,⟨Z,c⟩,fun m u hu=>by
   have hm:m=0:=by simpa using (J3.1 hu).1
   subst hm;injection hu with hu
   subst hu
   exact e⟩
 | 1,a =>
  injection a with a
  subst a
  exact⟨_,⟨Z,d⟩,fun m u hu=>by
   have hm:m=0:=by simpa using (J3.1 hu).1
   subst hm;injection hu with hu
   subst hu
   exact f⟩
theorem FI.one{x:Int}(h:V.heap[o]?=A (r7 #[I U x] 3 (0,0)))(c:I64 x):FI [x] V (O (A ⟨o,0,Y⟩) 1 1):=by
 have d:V.cell? ⟨o,0,Y⟩=A (I U x):=by simp[World.cell?,h]
 refine wF ⟨o,0,1,by simp,(JL.1 h).1,(JL.1 h).1,by simp,by decide,Z,fun i z a=>?_⟩
 match i,a with
 | 0,a =>
  injection a with a
  subst a
  exact⟨_,⟨Z,c⟩,fun m u hu=>by
   have hm:m=0:=by simpa using (J3.1 hu).1
   subst hm;injection hu with hu
   subst hu
   exact d⟩
theorem FP.of{v1 v2:tS}(h:V.heap[o]?=A (r7 #[v1,v2] 29 (0,0)))(a:FB l V v1)(c:FB l2 V v2)(d:0<l.length):FP (l++l2) V (O (A ⟨o,0,Y⟩) 2 2):=by
 obtain⟨e,f,_⟩:=cj h;exact⟨o,Z,wF ⟨Z,v1,v2,l,l2,e,f,a,c,d,Z⟩⟩
structure MpS (W0:J) (B b:Nat) (l l2:List UInt8) (s:Nat) (V:J):Prop where
 o:if s<3 then Kr W0 V else dS W0 B b (l++l2) V
def MpR(W0:J) (B b:Nat) (l l2:List UInt8) (V V':J):Prop:=Kr V V'∨dS W0 B b (l++l2) V'
def MpP(W0:J) (B b:Nat) (l l2:List UInt8) (f:Nat→J→tS→Prop) (k:Nat) (V:J) (xs:List tS):Prop:=dS W0 B b (l++l2) V∨f k V (xs.getD 0 xk)
theorem MpP.K{f:Nat→J→tS→Prop}(c:∀k V V' v,f k V v→Kr V V'→f k V' v){k:Nat}{xs:List tS}(h:MpP W B b l l2 f k V xs)(a:MpR W B b l l2 V V'):MpP W B b l l2 f k V' xs:=by
 rcases a with a|a
 ·exact h.imp (fun h=>h.C a) (fun h=>c _ _ _ _ h a)
 ·exact wD a
theorem MpS.K{s:Nat}(h:MpS W B b l l2 s V)(a:Kr V V'):MpS W B b l l2 s V':=by
 obtain⟨h⟩:=h;refine⟨?_⟩
 split at h
 ·rw[oj (by assumption)];exact h.trans (a.mono h.size)
 ·rw[oe (by assumption)];exact h.C a
theorem MpS.lo{s:Nat}(h:MpS W B b l l2 s V)(a:s<3):Kr W V:=by have:=h.o;rwa [oj a]at this
theorem MpS.of{s:Nat}(a:s<3)(h:Kr W V):MpS W B b l l2 s V:=⟨by rwa [oj a]⟩
theorem MpS.hi{s:Nat}(h:MpS W B b l l2 s V)(a:¬s<3):dS W B b (l++l2) V:=by have:=h.o;rwa [oe a]at this
theorem MpS.done{s:Nat}(a:¬s<3)(h:dS W B b (l++l2) V):MpS W B b l l2 s V:=⟨by rwa [oe a]⟩
theorem rQ(d:mR W B b l)(f:Kr W V)(a:FP l2 V v)(g:0<l2.length)(h:l.length+l2.length≤140737488355328):vv va 17 #[vo (A ⟨b,0,Y⟩),v] V fun e W'=>e=wg (y9 #[])∧dS W B b (l++l2) W':=by
 obtain⟨o,rfl,a⟩:=a;have c:=(dS.refl d).C f;exact (tz c.1 a g 2 (JM _) h).mono fun e W' ⟨i,j⟩=>⟨i,c.h j⟩
theorem av.fb{v:tS}(h:av W l (wg v) W'):FB l W' v∧Kr W W':=by
 obtain⟨d,e,a,c,_⟩:=h;injection e with e
 subst e;exact⟨a,c⟩
theorem iT.single(a:FB l V v)(c:0<l.length):iT (V.alloc (r7 #[v] 29)) V.heap.size 1 l:=
 wD ⟨Z,v,by unfold World.cell?;rw[oc];rfl,FB.K a ((JO _ V).alloc (JM _) _),c⟩
theorem oL(a:dS W B b l V)(f:FB l2 V v)(c:0<l2.length)(g:l.length+l2.length≤140737488355328):vv va 17 #[vo (A ⟨b,0,Y⟩),O (A ⟨V.heap.size,0,Y⟩) 1 1] (V.alloc (r7 #[v] 29)) fun e W'=>e=wg (y9 #[])∧dS W B b (l++l2) W':=by
 have d:=a.C ((JO _ V).alloc (JM _) (r7 #[v] 29));exact (tz d.1 (iT.single f c) c 1 (JM _) g).mono fun e W' ⟨h,i⟩=>⟨h,d.h i⟩
theorem Gc{x y:Int}(a:I64 x)(c:I64 y)(V:J):vv va 19 #[O (A ⟨V.heap.size,0,Y⟩) 2 2] (V.alloc (r7 #[I U x,I U y] 3)) (av V ([x,y].flatMap (beB 8))):=
 (iW (FI.two (oc V _) a c) (by simp)).mono fun _ _ h=>av.of ((JO _ V).alloc (JM _) _) h
theorem FX{x:Int}(a:I64 x)(V:J):vv va 19 #[O (A ⟨V.heap.size,0,Y⟩) 1 1] (V.alloc (r7 #[I U x] 3)) (av V ([x].flatMap (beB 8))):=
 (iW (FI.one (oc V _) a) (by simp)).mono fun _ _ h=>av.of ((JO _ V).alloc (JM _) _) h
def PG(i j k:Nat) (ns:List Int) (a l2:List UInt8) (n:Nat) (V:J) (v:tS):Prop:=
 if n=i then FI ns V v else if n=j then FB a V v else if n=k then FB l2 V v else FP (a++l2) V v
theorem PG.K{i j k:Nat}{c:List UInt8}(h:PG i j k ns c l2 n V v)(a:Kr V V'):PG i j k ns c l2 n V' v:=by
 unfold PG at h ⊢
 split
 ·rw[oj (by assumption)]at h;exact FI.K h a
 ·rw[oe (by assumption)]at h
  split
  ·rw[oj (by assumption)]at h;exact FB.K h a
  ·rw[oe (by assumption)]at h
   split
   ·rw[oj (by assumption)]at h;exact FB.K h a
   ·rw[oe (by assumption)]at h;exact FP.K h a
theorem MpS.ks{s bx:Nat}{cs:Array tS}{ty:xD}(a:W.heap[bx]?=A (r7 cs ty (0,0)))(d:bx≠b)(f:ty≠5)(h:MpS W B b l l2 s V):∃x:Ks W (fun c=>c=bx),V=x.1:=by
 have g:=(JL.1 a).1;refine⟨⟨V,fun c i=>?_⟩,Z⟩;subst i;obtain⟨h⟩:=h
 split at h
 ·exact h.block _ g
 ·exact (h.2.2 _ _ a (fun e=>by injection e with e;exact d e) (fun c j e=>by injection e with _ e;exact f e)).trans a.symm
theorem dS.q{bx:Nat}{cs:Array tS}{ty:xD}(f:W.heap[bx]?=A (r7 cs ty (0,0)))(a:bx≠b)(d:ty≠5)(h:dS W B b l V):V.heap[bx]?=A (r7 cs ty (0,0)):=
 h.2.2 _ _ f (fun e=>by injection e with e;exact a e) (fun c g e=>by injection e with _ e;exact d e)
theorem MpP.get{f:Nat→J→tS→Prop}{k:Nat}{xs:List tS}(h:MpP W B b l l2 f k V xs)(a:mR W B b l)(c:0<l2.length)(d:Kr W V):f k V (xs.getD 0 xk):=h.resolve_left (a.no c d)
end
def szT(t:io):Nat:=16+t.b.length*8
def szS(s:dM):Nat:=16+szR s.a
def szM(m:au):Nat:=60+m.c.size+(m.a.map szF).sum+(m.d.map szT).sum+(m.e.map szS).sum
theorem lH(t:io):(fu t).length=szT t:=by
 unfold fu szT;rw[J2,J2,aO,aO,cG]
theorem mC(s:dM):(fc s).length≤szS s:=by
 have:=oa s.a;unfold fc szS;simp only[J2,aO];omega
theorem ii{α:Type}{f:α→List UInt8}{z:α→Nat}(h:∀x,(f x).length≤z x):∀l:List α,(l.flatMap f).length≤(l.map z).sum
 | []=>by simp
 | x::l=>by
  have:=ii h l;have:=h x;rw[List.flatMap_cons,J2];simp only[List.map_cons,List.sum_cons]at *;omega
theorem lG{α:Type}(z:α→Nat):∀(l:List α) (k:Nat) (x:α),l[k]?=A x→((l.take k).map z).sum+z x≤(l.map z).sum
 | [],k,x,h=>by simp at h
 | y::l,0,x,h=>by
  injection h with h
  subst h;simp
 | y::l,k+1,x,h=>by
  have:=lG z l k x h;simp only[JY,List.map_cons,List.sum_cons]at *;omega
