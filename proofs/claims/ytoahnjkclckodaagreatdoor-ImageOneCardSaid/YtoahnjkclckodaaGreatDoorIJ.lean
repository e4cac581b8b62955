/- Parts of one proof, joined; conditions stand in each theorem. -/
import Derived.Test.YtoahnjkclckodaaGreatDoorII
import Derived.Test.YtoahnjkclckodaaGreatDoorIE
import Derived.Lib.SlFresh
import Derived.Test.YtoahnjkclckodaaGreatDoorIH
open Option renaming some→A,none→Y
open Go renaming World→J,Value→tT,Calls→wg,undef→wF,TypeId→zs
open Go.Proofs.Tryz renaming prog→vo
open Go.Value renaming agg→xk,int→I,slice→O,pointer→vv,tuple→y9
open Go.Obj renaming cells→r9
open Go.IntKind renaming i64→U
open Go.Ending renaming returned→wj
open Or renaming inl→wD,inr→wP
namespace Go.Proofs.YtoahnjkclckodaaGreatDoor
set_option maxHeartbeats 2000000
set_option maxRecDepth 100000
open Go.RowKit
def szR(r:fZ):Nat:=24+(r.a.map szF).sum+szV r.b
theorem BL(l:List am)(k:Nat)(f:am)(h:l[k]?=A f):((l.take k).map szF).sum+szF f=((l.take (k+1)).map szF).sum:=by
 rw[Gd,h];simp
theorem xm:∀(l:List am) (k:Nat),((l.take k).map szF).sum≤(l.map szF).sum
 | [],k=>by simp
 | f::l,0=>by simp
 | f::l,k+1=>by
  have:=xm l k;simp only[FO,List.map_cons,List.sum_cons]at this ⊢;omega
theorem kx:∀l:List am,(l.flatMap bJ).length≤(l.map szF).sum
 | []=>by simp
 | f::l=>by
  have:=kx l;have:=jb f;rw[List.flatMap_cons,FT];simp only[List.map_cons,List.sum_cons]at *;omega
section
variable {W W':J} {B b:Nat} {l:List UInt8}
theorem zv{f:am}{D E F:tT}{W:J}(w:aC.at_ W (fun x=>x<W.heap.size) f [D,E,F])(y:szF f≤140737488355328):wg vo 20 #[xk #[D,E,F]] W (ao W (bJ f)):=by
 obtain⟨_,_,sl,a,g⟩:=bY.1 w;obtain⟨p,c,r⟩:=Rd.q g;obtain⟨m,hm⟩:=zzy (f.a.length);rw[hm]at r;subst r;injection a with M a
 injection a with N a
 injection a with P _
 subst M;subst N;subst P;have hlen:=jb f;have h:0<(bJ f).length:=by unfold bJ;rw[FT,FT,aU];omega
 obtain⟨z,d⟩:=zzx ((W.alloc (r9 #[I U f.id,I U f.u,O p m c] 47)).alloc (r9 #[O Y 0 0,I U 0,I .i8 0] 96));obtain⟨i,j,_⟩:=aW W (r9 #[I U f.id,I U f.u,O p m c] 47) (r9 #[O Y 0 0,I U 0,I .i8 0] 96);rw[←d]at i j;have k:Gl W z:=by rw[d];exact ((Fz _ W).alloc (Fy _) _).alloc (by rw[o5];omega) _
 have G:=lF j (F3 W.heap.size);have H:=Hd (qX G (f:=f) (aC.t (fun x Q o q=>(k.block x Q).trans q) w) (by simpa using y));obtain⟨R,S,x2,_⟩:=aE i;obtain⟨s,t,K⟩:=zz3 k d (And.intro h (FH hlen y));clear k i j G d y hlen h w g hm
 go_enter Tryz.func20,Tryz.ntmps20
 go_upto_region 2 with fail
 change Code.wp _ _ _ _ ((W.alloc (r9 #[I U f.id,I U f.u,O p m c] 47)).alloc (r9 #[O Y 0 0,I U 0,I .i8 0] 96));rw[←t.o];clear t;go_wp2_with fail
 refine H.o.mono ?_;rintro e W3 ⟨rfl,u⟩;rw[List.nil_append]at u;obtain⟨L,C⟩:=zz2 (kE u.1 K.o.1 K.o.2) (s.o.trans u.2.1);clear u H s R S x2;go_wp2_with fail
 refine L.o.mono ?_;intro e T q;obtain⟨v,rfl,q⟩:=q;have X:Hid (ao W (bJ f) (wj v) T):=ao.of C.o ⟨v,Z,q⟩;clear q L;go_wp2_with fail
 go_ret;exact X.o
def Fc(W0:J) (B b:Nat) (a:List am) (l:List UInt8) (i:tT) (W:J):Prop:=
 ∃(c:J) (k:Nat),c=W∧i=I U k∧k≤a.length∧dJ W0 B b (l++(a.take k).flatMap bJ) c
theorem mz(r:fZ):(dq r).length≤szR r:=by
 have:=kx r.a;have:=ll r.b;unfold dq szR jZ;simp only[FT,aU];omega
theorem pn{r:fZ}{y0 y1 y2 y3:tT}{W:J}(hf:bH.at_ W (fun x=>x<W.heap.size) r [y0,y1,y2,y3])(hl:szR r≤140737488355328):wg vo 21 #[xk #[y0,y1,y2,y3]] W (ao W (dq r)):=by
 have hlen:=mz r;have P:0<(dq r).length:=by unfold dq;rw[FT,FT,FT,FT,aU];omega
 obtain⟨_,_,sf,ss,h,E,af⟩:=db.1 hf;obtain⟨p,c,b0⟩:=Rd.q E;obtain⟨p2,c2,j⟩:=Rd.q af;have aq:=Rd.N E;obtain⟨m2,b1⟩:=zzy (r.b.length);obtain⟨n,hn⟩:=zzy (r.a.length);rw[b1]at j;rw[hn]at b0 aq;have c3:n≤9223372036854775807:=by unfold maxLen at aq;omega
 subst b0;subst j;injection h with e0 h
 injection h with e1 h
 injection h with e2 h
 injection h with e3 _
 subst e0;subst e1;subst e2;subst e3;obtain⟨er,ar⟩:=zzy (r.h);obtain⟨q,a1⟩:=zzy (r.u);rw[ar,a1];obtain⟨s,F⟩:=zzx ((W.alloc (r9 #[I U er,I U q,O p n c,O p2 m2 c2] 52)).alloc (r9 #[O Y 0 0,I U 0,I .i8 0] 96));obtain⟨t,a6,_⟩:=aW W (r9 #[I U er,I U q,O p n c,O p2 m2 c2] 52) (r9 #[O Y 0 0,I U 0,I .i8 0] 96);rw[←F]at t a6;have b2:Gl W s:=by rw[F];exact ((Fz _ W).alloc (Fy _) _).alloc (by rw[o5];omega) _
 have h1:=lF a6 (F3 W.heap.size);obtain⟨W2,G⟩:=zzx (s.alloc (r9 #[I U er,I U q] 2));have ba:Gl s W2:=by rw[G];exact (Fz _ s).alloc (Fy _) _
 have b3:W2.heap[s.heap.size]?=A (r9 #[I U er,I U q] 2 (0,0)):=by rw[G];exact oA s _
 have u:=(dJ.refl h1).C ba;have H:=h1.lt;have HP:=Hd (ka (o:=s.heap.size) (sz:=8) (ns:=[er,q]) u.1 (by omega) b3 (by omega) (by simp) 2);have b4:=aa ba t (Fx.1 t).1;have b5:=Hd b4;have cr:=Hd (fun V (hV:Gl W V)=>Rd.sb (fun x hx o D=>(hV.block x hx).trans D) E);have ct:=Hd (fun V (hV:Gl W V)=>Rd.sb (fun x hx o D=>(hV.block x hx).trans D) af);obtain⟨Q,b6,b7,b8,bd⟩:=zz5 u t F G b2;have cu:Hid (dq r=beB 8 er++beB 8 q++beB 4 n++r.a.flatMap bJ++jZ r.b):=by show _=_;unfold dq;rw[ar,a1,hn]
 have b9:Hid (24+(r.a.map szF).sum+szV r.b≤140737488355328):=hl;obtain⟨HL,w⟩:=zz2 (And.intro P (FH hlen hl)) hn;clear b2 t a6 h1 F hl hlen P hf E af hn b1 ar a1 aq ba b3 u b4 G H
 go_enter Tryz.func21,Tryz.ntmps21
 go_upto_region 2 with fail
 change Code.wp _ _ _ _ ((W.alloc (r9 #[I U er,I U q,O p n c,O p2 m2 c2] 52)).alloc (r9 #[O Y 0 0,I U 0,I .i8 0] 96));rw[←b7.o];clear b7;obtain⟨x0,x1,x2,x3,_⟩:=bA b6.o;go_wp2_with fail
 change wg _ _ _ (s.alloc (r9 #[I U er,I U q] 2)) _;rw[←b8.o];refine HP.o.mono ?_;rintro e W3 ⟨rfl,y⟩;have bk:=y.2.2 _ _ b5.o (fun e=>by injection e with e;omega) (fun c fz e=>by injection e with _ e;exact absurd e (by decide))
 have bl:=Q.o.h y;obtain⟨HC,R,ca⟩:=zz3 (lT bl.1 n (by simp[aU])) bl bk;clear b8 x0 x1 x2 x3 y bl HP Q b5;obtain⟨x0,x1,x2,x3,_⟩:=bA bk;clear bk;go_wp2_with fail
 refine HC.o.mono ?_;rintro e W4 ⟨rfl,z⟩;have bm:=z.2.2 _ _ ca.o (fun e=>by injection e with e;omega) (fun c fz e=>by injection e with _ e;exact absurd e (by decide))
 have bn:=R.o.h z;have cb:[]++[er,q].flatMap (beB 8)++beB 4 n=beB 8 er++beB 8 q++beB 4 n:=by simp
 rw[cb]at bn;obtain⟨S,cv⟩:=zz2 bn bm;clear x0 x1 x2 x3 z bn HC R ca cb;obtain⟨x0,x1,x2,x3,_⟩:=bA bm;clear bm;go_wp2_with fail
 clear x0 x1 x2 x3
 go_loopw [19] (Fc s W.heap.size (W.heap.size+1) r.a (beB 8 er++beB 8 q++beB 4 n)) (fun i _=>n-(intOf i).toNat)
 case atStart=>exact⟨_,0,Z,Z,FR _,by simpa using S.o⟩
 case round =>
  clear S cv;obtain⟨K,k,rfl,rfl,hk,bq⟩:=hrel;rw[w.o]at hk;have cc:=Hd bq;have a:=bq;clear bq
  by_cases H:k<n
  ·have c5:(k:Int)<n:=by omega
   obtain⟨f,L⟩:∃v,r.a[k]?=A v:=⟨r.a[k]'(by rw[w.o];exact H),FD (by rw[w.o];exact H)⟩;have bt:=bd.o.trans a.2.1;obtain⟨bb,off,cap,us,j,_,_,_,cy,bB,g⟩:=Rd.K (cr.o _ bt) L;injection j with hp cA cC
   subst hp;clear cA cC;obtain⟨cR,cT,sl,rfl,T⟩:=bY.1 bB;obtain⟨p6,c6,X⟩:=Rd.q T;obtain⟨m6,cf⟩:=zzy (f.a.length);rw[cf]at X;subst X;have d0:K.cell? ⟨bb,off+k*3,Y⟩=A (I U f.id):=g 0 _ Z;have d1:K.cell? ⟨bb,off+k*3+1,Y⟩=A (I U f.u):=g 1 _ Z;have d2:K.cell? ⟨bb,off+k*3+2,Y⟩=A (O p6 m6 c6):=g 2 _ Z;obtain⟨W6,M⟩:=zzx (K.alloc (r9 #[I U f.id,I U f.u,O p6 m6 c6] 47));have bR:Gl K W6:=by rw[M];exact (Fz _ K).alloc (Fy _) _
   have ch:W6.heap[K.heap.size]?=A (r9 #[I U f.id,I U f.u,O p6 m6 c6] 47 (0,0)):=by rw[M];exact oA K _
   have d:=a.C bR;have C:(beB 8 er++beB 8 q++beB 4 n++(r.a.take k).flatMap bJ).length+szF f≤140737488355328:=by
    have h1:=BL r.a k f L;have h2:=xm r.a (k+1);have h3:=kx (r.a.take k);have h4:=b9.o;simp only[FT,aU];omega
   obtain⟨HV,ck,cV,cl,cW⟩:=zz5 (qX d.1 (f:=f) (aC.t (fun x hx o D=>(bR.block x (FG hx bt.size)).trans D) bB) C) d ch M L;clear bR ch d M g bB cy C a L bt T cR cT cf;go_upto_region 7 with fail
   change Code.wp _ _ _ _ (K.alloc (r9 #[I U f.id,I U f.u,O p6 m6 c6] 47));rw[←cl.o];clear cl d0 d1 d2;obtain⟨d0,d1,d2,_⟩:=aE cV.o;go_wp2_with fail
   refine HV.o.mono ?_;rintro e W7 ⟨rfl,ad⟩;have cm:dJ s W.heap.size (W.heap.size+1) (beB 8 er++beB 8 q++beB 4 n++(r.a.take (k+1)).flatMap bJ) W7:=by
    have h1:=ck.o.h ad;rw[Gd,cW.o,List.flatMap_append];simp only[Option.toList,List.flatMap_cons,List.flatMap_nil,List.append_nil];rw[←List.append_assoc];exact h1
   have c0:=Hd cm;clear ad cm HV;go_wp2_with fail
   refine⟨⟨_,k+1,Z,by go_num,by rw[w.o];omega,c0.o⟩,by simp[intOf];omega⟩
  ·obtain rfl:k=n:=by omega
   have cn:(r.a.take k).flatMap bJ=r.a.flatMap bJ:=by rw[←w.o,List.take_length]
   rw[cn]at a;have cp:=a.2.2 _ _ b6.o (fun e=>by injection e with e;omega) (fun c fz e=>by injection e with _ e;exact absurd e (by decide))
   have C:(beB 8 er++beB 8 q++beB 4 k++r.a.flatMap bJ).length+4+szV r.b≤140737488355328:=by
    have h3:=kx r.a;have h4:=b9.o;simp only[FT,aU];omega
   obtain⟨HV,cq⟩:=zz2 (np a.1 (ct.o _ (bd.o.trans a.2.1)) C) a;clear a cn cc C;obtain⟨x0,x1,x2,x3,_⟩:=bA cp;clear cp;go_wp2_with fail
   refine HV.o.mono ?_;rintro e W6 ⟨rfl,d⟩;have N:=cq.o.h d;rw[←cu.o]at N;obtain⟨HT,c1⟩:=zz2 (kE N.1 HL.o.1 HL.o.2) (bd.o.trans N.2.1);clear d N HV cq x0 x1 x2 x3;go_wp2_with fail
   refine HT.o.mono ?_;intro e W7 D;obtain⟨v,rfl,D⟩:=D;have HO:Hid (ao W (dq r) (wj v) W7):=ao.of c1.o ⟨v,Z,D⟩;clear D HT;go_wp2_with fail
   go_ret;exact HO.o
end
theorem EN:(Tryz.prog.info? 5).map (fun i=>(i.zero,i.size,i.bytes))=A (A (I IntKind.u8 0),1,1):=by kernel_rfl
section
variable {W W':J} {B b:Nat} {l:List UInt8}
def Fg(W0:J) (ns:List Int) (i o:tT) (W:J):Prop:=
 ∃(a:J) (k:Nat) (v:tT),a=W∧i=I U k∧o=v∧k≤ns.length∧a.ownsRow W0.heap.size 5 1 v (k*8) (Lib.byteCells ((ns.take k).flatMap (beB 8)))∧Gl W0 a
theorem ao.own{v:tT}(h:W'.ownsRow W.heap.size 5 1 v l.length (Lib.byteCells l))(a:Gl W W'):ao W l (wj v) W':=
 ⟨v,Z,om h,a,fun g c=>aL h g c⟩
theorem iw{ns:List Int}{v:tT}{W:J}(X:Rd.int.h W (fun x=>x<W.heap.size) ns v)(hl:ns.length*8≤140737488355328):wg vo 19 #[v] W (ao W (ns.flatMap (beB 8))):=by
 obtain⟨p,c,F⟩:=Rd.q X;obtain⟨n,hn⟩:=zzy (ns.length);rw[hn]at F hl;have bt:n≤9223372036854775807:=by omega
 have HR:=Hd (fun V (hV:Gl W V)=>Rd.sb (fun x hx o ho=>(hV.block x hx).trans ho) X);obtain⟨m,HL⟩:=zz2 hn hl;obtain⟨ti,ad,af,aq,ar⟩:=info_parts EN;subst F;clear X hn hl
 go_enter Tryz.func19,Tryz.ntmps19
 go_wp2_with fail
 go_loopw [8,3] (Fg W ns) (fun i _ _=>n-(intOf i).toNat)
 case atStart=>exact⟨_,0,_,Z,Z,Z,FR _,by simpa [Lib.byteCells]using World.ownsRow_nil W W.heap.size 5 1,Fz _ _⟩
 case round =>
  obtain⟨W1,k,v,rfl,rfl,rfl,hk,f,G⟩:=hrel;rw[m.o]at hk;obtain⟨H,HB⟩:=zz2 f G
  by_cases K:k<n
  ·have bq:(k:Int)<n:=by omega
   obtain⟨x,w⟩:∃v,ns[k]?=A v:=⟨ns[k]'(by rw[m.o];exact K),FD (by rw[m.o];exact K)⟩;obtain⟨bb,off,cap,us,L,_,_,_,a1,a6,q⟩:=Rd.K (HR.o _ G) w;injection L with hp ba bd
   subst hp;clear ba bd;obtain⟨rfl,hI⟩:=a6;have d0:W1.cell? ⟨bb,off+k,Y⟩=A (I U x):=by
    have:=q 0 _ Z
    simpa [Rd.int,Rd.u]using this
   obtain⟨HN,bk⟩:=zz2 (vI x W1) w;clear q w a1 f G hI;go_wp2_with fail
   refine HN.o.mono ?_;intro e W2 ho;obtain⟨v2,rfl,⟨p2,M,rfl,N,P⟩,t,_⟩:=ho;obtain⟨a2,rfl⟩:∃a,p2=A a:=by
    cases p2 with
    | none=>have:=o8 List.length (N Z);rw[aU]at this;cases this
    | some a=>exact⟨a,Z⟩
   have r:=gj H.o t;have bB:=t.size;obtain⟨Q,s⟩:=zz2 (HB.o.trans (t.mono HB.o.size)) r;have bl:Hid (∀j u,(Lib.byteCells (beB 8 x))[j]?=A u→W2.cell? (a2.add j)=A u):=by
    intro j u hj;simp only[Lib.byteCells,List.getElem?_map,r8]at hj;obtain⟨y,hy,rfl⟩:=hj;exact P a2 Z j y hy
   have z:(beB 8 x).length=8:=aU 8 x;have bm:=Hd z;rw[z];clear N P t r HN z;have C:Hid (W.heap.size≤W2.heap.size):=Q.o.size;have bR:k*8+8≤140737488355328:=by have:=HL.o;omega
   go_wp2_with (at_builtin;go_must (refine cj _ Z (.tmp 12) (.tmp 14) 29 Z W.heap.size 5 ti _ 1 1 Tryz.underlying29 ad af aq ar Z (by decide) u3 (k*8) (Lib.byteCells ((ns.take k).flatMap (beB 8))) Z s.o a2 8 M (Lib.byteCells (beB 8 x)) Z (by rw[dH,bm.o]) bl.o (byteCells_one _) (by unfold maxLen;omega) (by omega) C.o (by decide) ?_);intro v9 W3 d h)
   have R:Below W.heap.size W2 W3:=by
    rcases h with ⟨g,cp,h1,_,D⟩|⟨_,_,D⟩
    ·have hg:=(aL s.o g (by rw[h1];rfl)).1;exact⟨D.os,D.tape,D.output,D.size,fun i hi=>D.block i (FG hi C.o) (fun e=>by injection e with e;omega)⟩
    ·exact D.mono C.o
   have bn:=Hd (Q.o.trans R);have S:Lib.byteCells ((ns.take k).flatMap (beB 8))++Lib.byteCells (beB 8 x)=Lib.byteCells ((ns.take (k+1)).flatMap (beB 8)):=by
    rw[Gd,bk.o,List.flatMap_append,iR];simp
   rw[S]at d;have T:k*8+8=(k+1)*8:=by omega
   rw[T]at d;have E:=Hd d;clear R S d h T;go_wp2_with fail
   refine⟨⟨_,k+1,_,Z,by go_num,Z,by rw[m.o];omega,E.o,bn.o⟩,by simp[intOf];omega⟩
  ·obtain rfl:k=n:=by omega
   have S:(ns.take k).flatMap (beB 8)=ns.flatMap (beB 8):=by rw[←m.o,List.take_length]
   rw[S]at f;have HO:Hid (ao W (ns.flatMap (beB 8)) (wj u3) W1):=ao.own (by rw[bX,m.o];exact f) G;clear S f G;go_wp2_with fail
   go_ret;exact HO.o
end
def ir(W:J) (o n:Nat) (l:List UInt8):Prop:=
 (n=1∧∃v,W.cell? ⟨o,0,Y⟩=A v∧Lib.HoldsBytes W v l∧0<l.length)∨
 (n=2∧∃v1 v2 a l2,W.cell? ⟨o,0,Y⟩=A v1∧W.cell? ⟨o,1,Y⟩=A v2∧Lib.HoldsBytes W v1 a∧Lib.HoldsBytes W v2 l2∧0<a.length∧l=a++l2)
def lW(W:J) (B b:Nat) (l:List UInt8):Prop:=LibA.IsBuffer 60 (fun _=>Y) 5 B b 0 (Lib.byteCells l) W∧B≤W.heap.size
def dF(W:J) (B b:Nat) (l:List UInt8) (W':J):Prop:=lW W' B b l∧Below B W W'∧Lib.OthersKept 5 (A b) W W'
section
variable {W W' W2:J} {B b o n:Nat} {l l' l2:List UInt8}
theorem dF.refl(h:lW W B b l):dF W B b l W:=⟨h,Fz _ _,Lib.OthersKept.refl _ _ _⟩
theorem dF.C(h:dF W B b l W')(a:Gl W' W2):dF W B b l W2:=
 ⟨⟨h.1.1.old a,FH h.1.2 a.size⟩,h.2.1.trans (a.mono h.1.2),h.2.2.trans (fun k _o c _ _=>(a.block k (Fx.1 c).1).trans c)⟩
theorem dF.h(h:dF W B b l W')(k:dF W' B b l' W2):dF W B b l' W2:=⟨k.1,h.2.1.trans k.2.1,h.2.2.trans k.2.2⟩
theorem lW.lt(h:lW W B b l):b<W.heap.size:=h.1.lt
theorem tt{v:tT}(h:Lib.FreshBytes W.heap.size W' v l)(u:0<l.length)(s:Gl W W'):ao W l (wj v) W':=by
 obtain⟨g,cap,k,rfl,hB,w,hm,y,t,m,c,_⟩:=h;refine⟨_,Z,⟨_,cap,Z,(fun e=>by cases e),fun a p i x r=>?_⟩,s,fun z q=>?_⟩
 ·injection p with p
  subst p;have hi:=(FU.1 r).1;rw[Addr.add_mid,Nat.zero_add,c i (by omega)];have d:(Lib.bytesOf (k.take l.length))[i]?=A x:=by rw[m];exact r
  unfold Lib.bytesOf at d;rw[List.getElem?_map,List.getElem?_take,oE hi]at d;have f:k[i]?=A (k[i]'(by omega)):=FD (by omega);rw[f]at d;simp only[Option.map_some,o7]at d;have j:=t _ (List.getElem_mem (show i<k.length by omega));simp only[List.getD_eq_getElem?_getD,f,Option.getD_some,o7,Value.int.injEq,true_and];rw[←d,byte_of j.1 j.2]
 ·injection q with q
  subst q;exact⟨hB,World.block_lt_of_cell? _ _ (c 0 (by omega))⟩
theorem zk(h:ir W o n l)(c:Nat)(u:n≤c)(f:l.length≤140737488355328):wg vo 41 #[O (A ⟨o,0,Y⟩) n c] W (ao W l):=by
 have w:Hid (wg vo 68 #[O (A ⟨o,0,Y⟩) n c,O Y 0 0] W (ao W l)):=by
  rcases h with ⟨rfl,v,q,⟨p,cap,rfl,r,x⟩,g⟩|⟨rfl,v1,v2,j,l2,y,c2,q,z,g,rfl⟩
  ·obtain⟨a,rfl⟩:∃a,p=A a:=by
    cases p with
    | none=>rw[r Z]at g;cases g
    | some a=>exact⟨a,Z⟩
   exact (Tryz.bytes_Join_one o 0 c a cap l (O Y 0 0) W q (x a Z) g f).mono fun e W' ⟨v,he,k,s⟩=>by rw[he];exact tt k g s
  ·have C:Lib.join [j,l2] []=j++l2:=by simp[Lib.join,List.intercalate]
   have t:0<(j++l2).length:=by rw[FT];omega
   refine (Tryz.bytes_Join_many o 0 2 c [v1,v2] [j,l2] (O Y 0 0) [] W Z (by decide) ⟨Z,fun i v d=>?_,fun i v l d f=>?_⟩ u ⟨Y,0,Z,fun _=>rfl,fun a D=>by cases D⟩ (by decide) (by simpa [Lib.lens]using f)).mono fun e W' ⟨v,he,k,s⟩=>by rw[he];rw[C]at k;exact tt k t s
   ·rw[Addr.add_mid,Nat.zero_add]
    match i,d with
    | 0,d=>injection d with d;rw[←d];exact y
    | 1,d=>injection d with d;rw[←d];exact c2
   ·match i,d,f with
    | 0,d,f=>injection d with d;injection f with f;rw[←d,←f];exact q
    | 1,d,f=>injection d with d;injection f with f;rw[←d,←f];exact z
 clear h u f
 go_enter Tryz.func41,Tryz.ntmps41
 go_wp2_with fail
 refine w.o.mono ?_;intro e E m;obtain⟨v,rfl,m⟩:=m;have F:Hid (ao W l (wj v) E):=⟨v,Z,m⟩;clear m w;go_wp2_with fail
 go_ret;exact F.o
def PuS(W:J) (B b:Nat) (l l2:List UInt8):Nat→J→Prop
 | 0,V=>V=W.drew
 | 1,V=>Gl W V
 | _+2,V=>dF W B b (l++l2) V
def PuP(W:J) (B b:Nat) (l l2:List UInt8) (k:Nat) (V:J) (xs:List tT):Prop:=
 k=4→W.heap.size<V.heap.size∧(dF W B b (l++l2) V∨ao W l2 (wj (xs.getD 0 wF)) V)
def PuR(W:J) (B b:Nat) (l l2:List UInt8) (V V':J):Prop:=(dF W B b (l++l2) V'∧V.heap.size≤V'.heap.size)∨V=W.drew
theorem PuP.t{k:Nat}{V V':J}{xs:List tT}(h:PuP W B b l l2 k V xs)(a:PuR W B b l l2 V V'):PuP W B b l l2 k V' xs:=by
 intro c;obtain⟨d,f⟩:=h c;rcases a with ⟨e,r2⟩|rfl
 ·exact⟨by omega,wD e⟩
 ·exact absurd d (Nat.lt_irrefl _)
theorem Ds{v:tT}{e:zs}{n m:Nat}{xs a:List tT}{d:Nat}(h:W.ownsRow B e 1 v n xs)(k:W'.ownsRow d e 1 v m a):n=m:=by
 rcases h.2 with ⟨rfl,rfl⟩|⟨g,c,f,rfl,_⟩
 ·rcases k.2 with ⟨_,rfl⟩|⟨g,c,f,e,_⟩
  ·rfl
  ·cases e
 ·rcases k.2 with ⟨e,_⟩|⟨g2,c2,i,e,_⟩
  ·cases e
  ·injection e with _ e _
theorem lW.no(h:lW W B b l)(i:0<l2.length)(c:Gl W W'):¬dF W B b (l++l2) W':=by
 rintro ⟨⟨⟨_,v2,d,t2,e,_⟩,_⟩,_⟩;have f:=h.lt;obtain⟨⟨_,v,j,t,o,_⟩,_⟩:=h;have g:=t.c0;have a:=t2.c0;rw[lq (c.block b f)]at a;rw[g]at a;injection a with a
 subst a;have:=Ds o e;rw[dH,dH,FT]at this;omega
theorem ao.grew{v:tT}(h:ao W l (wj v) W')(f:0<l.length):W.heap.size<W'.heap.size:=by
 obtain⟨i,c,⟨p,cap,rfl,d,g⟩,j,e⟩:=h;injection c with c
 subst c
 cases p with
 | none=>rw[d Z]at f;cases f
 | some a=>have:=e a.block Z;omega
theorem q6(h:lW W B b l)(H:ir W o n l2)(g:0<l2.length)(c:Nat)(K:n≤c)(L:l.length+l2.length≤140737488355328):wg vo 17 #[vv (A ⟨b,0,Y⟩),O (A ⟨o,0,Y⟩) n c] W fun e W'=>e=wj (y9 #[])∧dF W B b (l++l2) W':=by
 have M:=Hd (zk (W:=W.drew) H c K (by omega));have k:Hid (∀V v,ao W l2 (wj v) V→wg vo 40 #[vv (A ⟨b,0,Y⟩),v] V fun e W'=>(∃u,e=wj u)∧dF W B b (l++l2) W'∧V.heap.size≤W'.heap.size):=by
  intro V v R;obtain⟨v',w,⟨p,cap,rfl,x,z⟩,C,D⟩:=R;injection w with w
  subst w;obtain⟨a,rfl⟩:∃a,p=A a:=by
   cases p with
   | none=>rw[x Z]at g;cases g
   | some a=>exact⟨a,Z⟩
  have S:=D a.block Z;have r:=(dF.refl h).C C;refine (Tryz.Buffer_Write_at 60 (fun _=>Y) B b 0 (Lib.byteCells l) (Lib.byteCells l2) a l2.length cap V r.1.1 r.1.2 (byteCells_one l) (dH l2) (by have:=h.lt;omega) (fun j u N=>?_) (byteCells_one l2) (by rw[dH];exact L)).mono fun e W' ⟨he,d,m,T⟩=>⟨⟨_,he⟩,r.h ⟨⟨by rw[iR];exact d,FH r.1.2 m.size⟩,m,T⟩,m.size⟩
  simp only[Lib.byteCells,List.getElem?_map,r8]at N;obtain⟨y,X,rfl⟩:=N;exact z a Z j y X
 have H0:=Hd g;have E:=Hd (fun V (C:Gl W V)=>h.no g C);clear h H g K L
 go_enter Tryz.func17,Tryz.ntmps17
 refine RE.u (by kernel_rfl) 6 [4,5] [4,5] (PuS W B b l l2) (PuR W B b l l2) (fun _ P=>P.getD 0 wF) (PuP W B b l l2) (by kernel_rfl) (fun i Q d _ _ _ _ _=>by rw[d]at Q;cases Q) (fun _ _ _ _ h _ hr=>h.t hr) Z ?_;simp only[FO,FY,FQ,FX]
 repeat (refine RE.q (fun _=>True) (fun _ _ _ _=>trivial) Z Z Z Z ?_;go_big_quiet_step (fail);refine wpQuiet_nil ?_)
 refine RE.h Z Z ?_ (fun xs=>?_)
 ·intro V _ f _;obtain rfl:V=W.drew:=f Z;refine RE.z 41 _ _ Z (enters_of Tryz.func41 (by kernel_rfl) Z) #[O (A ⟨o,0,Y⟩) n c] (by simp[Act.eval]) (M.o.mono ?_);intro e V' s;obtain⟨v,rfl,s⟩:=s;have t:ao W l2 (wj v) V':=ao.of (Fz _ W).drew ⟨v,Z,s⟩;exact⟨v,Z,[v],Z,((Fz _ W).drew).trans s.2.1,wP Z,fun _=>⟨t.grew H0.o,wP t⟩⟩
 simp only[Act.put,FA,FM,FK];refine RE.h Z Z ?_ (fun P=>?_)
 ·intro V _ f F;have hB:Gl W V:=f Z;have t:=(F 4 xs (by kernel_rfl) Z Z).2.resolve_left (E.o V hB);refine RE.z 40 _ _ Z (enters_of Tryz.func40 (by kernel_rfl) Z) #[vv (A ⟨b,0,Y⟩),xs.getD 0 wF] (by simp[Act.eval]) ((k.o V _ t).mono ?_);rintro e V' ⟨⟨u,rfl⟩,d,m⟩;exact⟨u,Z,[u],Z,d,wD ⟨d,m⟩,fun e=>by cases e⟩
 simp only[Act.put,FA,FM,FK];refine RE.t ?_;intro W3 f F;have q:dF W B b (l++l2) W3:=f;have G:=Hd q;clear q F f M k;go_wp2_with fail
 go_returns
 exact⟨Z,G.o⟩
end
theorem Fl{z:tT}(h:z.cells.size=1):∃x,z.cells=#[x]:=by
 obtain⟨x,a⟩:∃x,z.cells.toList=[x]:=by
  have c:z.cells.toList.length=1:=by rw[F6];exact h
  match d:z.cells.toList,c with
  | [x],_=>exact⟨x,Z⟩
 exact⟨x,by rw[←Array.toArray_toList (xs:=z.cells),a]⟩
theorem qk:Elem 3 48 1 8:=Elem.of (z:=I U 0) Tryz.underlying48 (by kernel_rfl) (by kernel_rfl) (by decide) (by decide)
theorem mr:Elem 29 90 1 24:=Elem.of (z:=O Y 0 0) Tryz.underlying90 (by kernel_rfl) (by kernel_rfl) (by decide) (by decide)
theorem ja{E S:zs}{f:Nat}(k:Elem E S 1 f){o:Oper}{a:Act}{W:J}{G:tT→J→Prop}{u v:tT}(x y:Operand)(m:o.op=.buildSlice S 2 #[(0,x),(1,y)])(p:a.eval x=u)(r:a.eval y=v)
  (s:∀z:tT,Instr.fill (fun i=>A (i*1,1)) ((Array.range (2*1)).map (#[z][· % 1]!)) [(0,u),(1,v)]=A #[u,v])
  (t:∀W',Gl W W'→W'.heap[W.heap.size]?=A (r9 #[u,v] E (0,0))→G (O (A ⟨W.heap.size,0,Y⟩) 2 2) W'):RE.Upon vo o a W G:=by
 obtain⟨i0,z,g,h,c,w,j⟩:=k.info;have d:(execOp a.eval o).run vo W=.ok (.value (O (A ⟨W.heap.size,0,Y⟩) 2 2)) (W.alloc (r9 #[u,v] E)):=by
  unfold execOp;simp only[m,ph]
  rw[run_buildSlice W S E 2 _ #[u,v] i0 z k.und g h (by rw[c];decide) (by rw[c];decide) (by
   have e:((#[(0,x),(1,y)]:Array (Nat×Operand)).map fun (q:Nat×Operand)=>(q.1,a.eval q.2)).toList=[(0,a.eval x),(1,a.eval y)]:=by simp
   rw[e,p,r,c];obtain⟨C,D⟩:=Fl j;rw[D]
   exact s C)]
  rfl
 exact RE.upon_run d (t _ ((Fz _ W).alloc (Fy _) _) (oA W _))
theorem wN(p q:Option Addr)(n m c d:Nat)(z:tT):Instr.fill (fun i=>A (i*1,1)) ((Array.range (2*1)).map (#[z][· % 1]!)) [(0,O p n c),(1,O q m d)]=A #[O p n c,O q m d]:=by kernel_rfl
theorem nM(a b:Int)(z:tT):Instr.fill (fun i=>A (i*1,1)) ((Array.range (2*1)).map (#[z][· % 1]!)) [(0,I U a),(1,I U b)]=A #[I U a,I U b]:=by kernel_rfl
theorem nY{W:J}{u v:tT}{l l2:List UInt8}(hu:Lib.HoldsBytes W u l)(a:Lib.HoldsBytes W v l2)(z:tT):Instr.fill (fun i=>A (i*1,1)) ((Array.range (2*1)).map (#[z][· % 1]!)) [(0,u),(1,v)]=A #[u,v]:=by
 obtain⟨p,c,rfl,_⟩:=hu;obtain⟨q,d,rfl,_⟩:=a;exact wN p q _ _ c d z
def FB(l:List UInt8) (V:J) (v:tT):Prop:=Lib.HoldsBytes V v l
def FI(ns:List Int) (V:J) (v:tT):Prop:=Rd.int.h V (fun x=>x<V.heap.size) ns v
def FP(l:List UInt8) (V:J) (v:tT):Prop:=∃o,v=O (A ⟨o,0,Y⟩) 2 2∧ir V o 2 l
section
variable {W W' V V':J} {B b o n:Nat} {l l' l2:List UInt8} {v:tT} {ns:List Int}
theorem iY{p:Addr}{u:tT}(a:Gl V V')(h:V.cell? p=A u):V'.cell? p=A u:=(a.cell (World.block_lt_of_cell? _ _ h)).trans h
theorem FB.t(h:FB l V v)(c:Gl V V'):FB l V' v:=by
 obtain⟨p,cap,rfl,d,e⟩:=h;exact⟨p,cap,Z,d,fun a f i x g=>iY c (e a f i x g)⟩
theorem FI.t(h:FI ns V v)(c:Gl V V'):FI ns V' v:=
 Rd.sv (fun _ a=>FG a c.size) (Rd.sb (fun x a _o d=>(c.block x a).trans d) h)
theorem ir.t(h:ir V o n l)(a:Gl V V'):ir V' o n l:=by
 rcases h with ⟨rfl,v,c,d,e⟩|⟨rfl,v1,v2,f,l2,g,c2,c,d,e⟩
 ·exact wD ⟨Z,v,iY a c,FB.t d a,e⟩
 ·exact wP ⟨Z,v1,v2,f,l2,iY a g,iY a c2,FB.t c a,FB.t d a,e⟩
theorem FP.t(h:FP l V v)(a:Gl V V'):FP l V' v:=by
 obtain⟨o,rfl,h⟩:=h;exact⟨o,Z,h.t a⟩
theorem FI.two{x y:Int}(h:V.heap[o]?=A (r9 #[I U x,I U y] 3 (0,0)))(c:I64 x)(d:I64 y):FI [x,y] V (O (A ⟨o,0,Y⟩) 2 2):=by
 obtain⟨e,f,_⟩:=bP h;refine wP ⟨o,0,2,by simp,(Fx.1 h).1,(Fx.1 h).1,by simp,by decide,Z,fun i z a=>?_⟩
 match i,a with
 | 0,a =>
  injection a with a
  subst a
  exact⟨_,⟨Z,c⟩,fun m u hu=>by
   have hm:m=0:=by simpa using (FU.1 hu).1
   subst hm;injection hu with hu
   subst hu
   exact e⟩
 | 1,a =>
  injection a with a
  subst a
  exact⟨_,⟨Z,d⟩,fun m u hu=>by
   have hm:m=0:=by simpa using (FU.1 hu).1
   subst hm;injection hu with hu
   subst hu
   exact f⟩
theorem FI.one{x:Int}(h:V.heap[o]?=A (r9 #[I U x] 3 (0,0)))(c:I64 x):FI [x] V (O (A ⟨o,0,Y⟩) 1 1):=by
 have d:V.cell? ⟨o,0,Y⟩=A (I U x):=by simp[World.cell?,h]
 refine wP ⟨o,0,1,by simp,(Fx.1 h).1,(Fx.1 h).1,by simp,by decide,Z,fun i z a=>?_⟩
 match i,a with
 | 0,a =>
  injection a with a
  subst a
  exact⟨_,⟨Z,c⟩,fun m u hu=>by
   have hm:m=0:=by simpa using (FU.1 hu).1
   subst hm;injection hu with hu
   subst hu
   exact d⟩
theorem FP.of{v1 v2:tT}(h:V.heap[o]?=A (r9 #[v1,v2] 29 (0,0)))(a:FB l V v1)(c:FB l2 V v2)(d:0<l.length):FP (l++l2) V (O (A ⟨o,0,Y⟩) 2 2):=by
 obtain⟨e,f,_⟩:=bP h;exact⟨o,Z,wP ⟨Z,v1,v2,l,l2,e,f,a,c,d,Z⟩⟩
structure MpS (W0:J) (B b:Nat) (l l2:List UInt8) (s:Nat) (V:J):Prop where
 o:if s<3 then Gl W0 V else dF W0 B b (l++l2) V
def MpR(W0:J) (B b:Nat) (l l2:List UInt8) (V V':J):Prop:=Gl V V'∨dF W0 B b (l++l2) V'
def MpP(W0:J) (B b:Nat) (l l2:List UInt8) (f:Nat→J→tT→Prop) (k:Nat) (V:J) (xs:List tT):Prop:=dF W0 B b (l++l2) V∨f k V (xs.getD 0 wF)
theorem MpP.t{f:Nat→J→tT→Prop}(c:∀k V V' v,f k V v→Gl V V'→f k V' v){k:Nat}{xs:List tT}(h:MpP W B b l l2 f k V xs)(a:MpR W B b l l2 V V'):MpP W B b l l2 f k V' xs:=by
 rcases a with a|a
 ·exact h.imp (fun h=>h.C a) (fun h=>c _ _ _ _ h a)
 ·exact wD a
theorem MpS.t{s:Nat}(h:MpS W B b l l2 s V)(a:Gl V V'):MpS W B b l l2 s V':=by
 obtain⟨h⟩:=h;refine⟨?_⟩
 split at h
 ·rw[oE (by assumption)];exact h.trans (a.mono h.size)
 ·rw[oB (by assumption)];exact h.C a
theorem MpS.lo{s:Nat}(h:MpS W B b l l2 s V)(a:s<3):Gl W V:=by have:=h.o;rwa [oE a]at this
theorem MpS.of{s:Nat}(a:s<3)(h:Gl W V):MpS W B b l l2 s V:=⟨by rwa [oE a]⟩
theorem MpS.hi{s:Nat}(h:MpS W B b l l2 s V)(a:¬s<3):dF W B b (l++l2) V:=by have:=h.o;rwa [oB a]at this
theorem MpS.done{s:Nat}(a:¬s<3)(h:dF W B b (l++l2) V):MpS W B b l l2 s V:=⟨by rwa [oB a]⟩
theorem qa(d:lW W B b l)(f:Gl W V)(a:FP l2 V v)(g:0<l2.length)(h:l.length+l2.length≤140737488355328):wg vo 17 #[vv (A ⟨b,0,Y⟩),v] V fun e W'=>e=wj (y9 #[])∧dF W B b (l++l2) W':=by
 obtain⟨o,rfl,a⟩:=a;have c:=(dF.refl d).C f;exact (q6 c.1 a g 2 (Fy _) h).mono fun e W' ⟨i,j⟩=>⟨i,c.h j⟩
theorem ao.fb{v:tT}(h:ao W l (wj v) W'):FB l W' v∧Gl W W':=by
 obtain⟨d,e,a,c,_⟩:=h;injection e with e
 subst e;exact⟨a,c⟩
theorem ir.single(a:FB l V v)(c:0<l.length):ir (V.alloc (r9 #[v] 29)) V.heap.size 1 l:=
 wD ⟨Z,v,by unfold World.cell?;rw[oA];rfl,FB.t a ((Fz _ V).alloc (Fy _) _),c⟩
theorem mP(a:dF W B b l V)(f:FB l2 V v)(c:0<l2.length)(g:l.length+l2.length≤140737488355328):wg vo 17 #[vv (A ⟨b,0,Y⟩),O (A ⟨V.heap.size,0,Y⟩) 1 1] (V.alloc (r9 #[v] 29)) fun e W'=>e=wj (y9 #[])∧dF W B b (l++l2) W':=by
 have d:=a.C ((Fz _ V).alloc (Fy _) (r9 #[v] 29));exact (q6 d.1 (ir.single f c) c 1 (Fy _) g).mono fun e W' ⟨h,i⟩=>⟨h,d.h i⟩
theorem Cr{x y:Int}(a:I64 x)(c:I64 y)(V:J):wg vo 19 #[O (A ⟨V.heap.size,0,Y⟩) 2 2] (V.alloc (r9 #[I U x,I U y] 3)) (ao V ([x,y].flatMap (beB 8))):=
 (iw (FI.two (oA V _) a c) (by simp)).mono fun _ _ h=>ao.of ((Fz _ V).alloc (Fy _) _) h
theorem Cf{x:Int}(a:I64 x)(V:J):wg vo 19 #[O (A ⟨V.heap.size,0,Y⟩) 1 1] (V.alloc (r9 #[I U x] 3)) (ao V ([x].flatMap (beB 8))):=
 (iw (FI.one (oA V _) a) (by simp)).mono fun _ _ h=>ao.of ((Fz _ V).alloc (Fy _) _) h
def PG(i j k:Nat) (ns:List Int) (a l2:List UInt8) (n:Nat) (V:J) (v:tT):Prop:=
 if n=i then FI ns V v else if n=j then FB a V v else if n=k then FB l2 V v else FP (a++l2) V v
theorem PG.t{i j k:Nat}{c:List UInt8}(h:PG i j k ns c l2 n V v)(a:Gl V V'):PG i j k ns c l2 n V' v:=by
 unfold PG at h ⊢
 split
 ·rw[oE (by assumption)]at h;exact FI.t h a
 ·rw[oB (by assumption)]at h
  split
  ·rw[oE (by assumption)]at h;exact FB.t h a
  ·rw[oB (by assumption)]at h
   split
   ·rw[oE (by assumption)]at h;exact FB.t h a
   ·rw[oB (by assumption)]at h;exact FP.t h a
theorem MpS.ks{s bx:Nat}{cs:Array tT}{ty:zs}(a:W.heap[bx]?=A (r9 cs ty (0,0)))(d:bx≠b)(f:ty≠5)(h:MpS W B b l l2 s V):∃x:Ks W (fun c=>c=bx),V=x.1:=by
 have g:=(Fx.1 a).1;refine⟨⟨V,fun c i=>?_⟩,Z⟩;subst i;obtain⟨h⟩:=h
 split at h
 ·exact h.block _ g
 ·exact (h.2.2 _ _ a (fun e=>by injection e with e;exact d e) (fun c j e=>by injection e with _ e;exact f e)).trans a.symm
theorem dF.q{bx:Nat}{cs:Array tT}{ty:zs}(f:W.heap[bx]?=A (r9 cs ty (0,0)))(a:bx≠b)(d:ty≠5)(h:dF W B b l V):V.heap[bx]?=A (r9 cs ty (0,0)):=
 h.2.2 _ _ f (fun e=>by injection e with e;exact a e) (fun c g e=>by injection e with _ e;exact d e)
theorem MpP.get{f:Nat→J→tT→Prop}{k:Nat}{xs:List tT}(h:MpP W B b l l2 f k V xs)(a:lW W B b l)(c:0<l2.length)(d:Gl W V):f k V (xs.getD 0 wF):=h.resolve_left (a.no c d)
end
def szT(t:jz):Nat:=16+t.b.length*8
def szS(s:fo):Nat:=16+szR s.a
def szM(m:aQ):Nat:=60+m.c.size+(m.a.map szF).sum+(m.e.map szT).sum+(m.g.map szS).sum
theorem mo(t:jz):(fR t).length=szT t:=by
 unfold fR szT;rw[FT,FT,aU,aU,bX]
theorem oM(s:fo):(fH s).length≤szS s:=by
 have:=mz s.a;unfold fH szS;simp only[FT,aU];omega
theorem jc{α:Type}{f:α→List UInt8}{z:α→Nat}(h:∀x,(f x).length≤z x):∀l:List α,(l.flatMap f).length≤(l.map z).sum
 | []=>by simp
 | x::l=>by
  have:=jc h l;have:=h x;rw[List.flatMap_cons,FT];simp only[List.map_cons,List.sum_cons]at *;omega
theorem kP{α:Type}(z:α→Nat):∀(l:List α) (k:Nat) (x:α),l[k]?=A x→((l.take k).map z).sum+z x≤(l.map z).sum
 | [],k,x,h=>by simp at h
 | y::l,0,x,h=>by
  injection h with h
  subst h;simp
 | y::l,k+1,x,h=>by
  have:=kP z l k x h;simp only[FO,List.map_cons,List.sum_cons]at *;omega
