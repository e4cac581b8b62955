/- Parts of one proof, joined; conditions stand in each theorem. -/
import Derived.Test.YtoahnjkclckodaaGreatDoorIF
import Derived.Test.YtoahnjkclckodaaGreatDoorIJ
import Derived.Test.YtoahnjkclckodaaGreatDoorMD
import Derived.Test.YtoahnjkclckodaaGreatDoorIL
import Derived.Test.YtoahnjkclckodaaGreatDoorIN
open Option renaming some→A,none→Y
open Go renaming World→J,Value→tS,wpQuiet_nil→xL
open Go.Value renaming int→I,string→r9,slice→O
open Go.IntKind renaming i64→U,u8→r8
open Go.Obj renaming cells→r7
open Go.World renaming cell?→At
namespace Go.Proofs.YtoahnjkclckodaaGreatDoor
set_option maxHeartbeats 4000000
set_option maxRecDepth 100000
open Go.RowKit
theorem j8{α:Type}{p:α→Bool}{l:List α}{n:Nat}(a:l.length=n)(h:∀(j:Nat) x,j<n→l[j]?=A x→p x=true):l.all p=true:=by
 rw[Kh];intro x b;obtain⟨i,hi⟩:=List.getElem?_of_mem b;exact h i x (by rw[←a];exact (J3.1 hi).1) hi
theorem lD{α:Type}{p:α→Bool}{l:List α}{k:Nat}{x:α}(a:l[k]?=A x)(h:p x=false):l.all p=false:=by
 rw[List.all_eq_false];exact⟨x,J8 a,by simp[h]⟩
def eC{α:Type} (w:J) (n:Nat) (p:α→Bool) (l:List α) (i:tS) (W:J):Prop:=
 ∃(a:J) (k:Nat),a=W∧k≤n∧i=I U (k:Int)∧Kr w a∧∀(j:Nat) x,j<k→l[j]?=A x→p x=true
theorem eC.start{α:Type}{w:J}{n:Nat}{p:α→Bool}{l:List α}:eC w n p l (I U (0:Nat)) w:=⟨w,0,Z,J0 _,Z,JO _ _,fun _ _ h=>absurd h (Nat.not_lt_zero _)⟩
theorem eC.on{α:Type}{w W:J}{n k:Nat}{p:α→Bool}{l:List α}{x:α}(b:Kr w W)(f:k<n)(c:∀(j:Nat) x,j<k→l[j]?=A x→p x=true)(d:l[k]?=A x)(e:p x=true) :
  eC w n p l (I U ((k:Int)+1)) W∧n-(intOf (I U ((k:Int)+1))).toNat<n-(intOf (I U k)).toNat:=
 ⟨⟨W,k+1,Z,by omega,by go_num,b,fun j y g a=>by
  by_cases h:j=k
  ·subst h;rw[d]at a;injection a with a
   rw[←a];exact e
  ·exact c j y (by omega) a⟩,by simp[intOf];omega⟩
theorem FG{n:Int}{t:ByteArray}(h:t.toList=[]):dD ⟨1,n,t⟩=true:=by
 rw[J1]at h;simp[dD,h]
theorem zF{n:Int}{t:ByteArray}(h:¬t.toList=[]):dD ⟨1,n,t⟩=false:=by
 rw[J1]at h;simp only[dD]
 cases b:t.data.toList with
 | nil=>exact absurd b h
 | cons a l=>rfl
theorem xl(l:List aE)(v:tS)(w:J)(K:bK.h w (fun b=>b<w.heap.size) l v):Calls Tryz.prog 78 #[v] w (aZ (l.all dD) w):=by
 obtain⟨p,c,M⟩:=Rd.q K;have m:=Rd.sb K;subst M;obtain⟨n,N⟩:=zzy (l.length);have HV:=Hd (fun W (hW:Kr w W)=>Rd.sm K (fun _ h=>h) hW);rw[N]at HV m ⊢;have af:(n:Int)≤9223372036854775807:=by unfold maxLen at m;omega
 obtain⟨r,P⟩:=zzy (l.all dD);rw[P];obtain⟨HR,Q⟩:=zz2 P N;clear K N m P
 go_enter Tryz.func78,Tryz.ntmps78
 go_wp2_with fail
 go_loopw [7] (eC w n dD l) (fun i _=>n-(intOf i).toNat)
 case atStart=>exact eC.start
 case round =>
  obtain⟨e,k,rfl,hk,rfl,t,y⟩:=hrel;have z:=Hd y;clear y
  by_cases B:k<n
  ·obtain⟨x,L⟩:∃x,l[k]?=A x:=⟨_,JR (by rw[Q.o];exact B)⟩;have C:=Rd.X (HV.o e t) L;rw[Q.o]at C;obtain⟨R,off,cap,vs,S,_,_,_,_,D,a⟩:=C;injection S with e1 _ e3
   subst e1;subst e3;obtain⟨rfl,_⟩:=dX.1 D;obtain⟨g,u,E⟩:=x;have d0:e.cell? ⟨R,off+k*3,Y⟩=A (I r8 g):=a 0 _ Z;have d1:e.cell? ⟨R,off+k*3+1,Y⟩=A (I U u):=a 1 _ Z;have d2:e.cell? ⟨R,off+k*3+2,Y⟩=A (r9 E):=a 2 _ Z;obtain⟨W2,f⟩:=zzx (e.alloc (r7 #[I r8 g,I U u,r9 E] 88));have F:Kr e W2:=by rw[f];exact (JO _ e).alloc (JM _) _
   have G:W2.heap[e.heap.size]?=A (r7 #[I r8 g,I U u,r9 E] 88 (0,0)):=by rw[f];exact oc e _
   obtain⟨q,T,H⟩:=zz3 (t.trans (F.mono t.size)) G f;have aq:(k:Int)<n:=by omega
   obtain⟨s,j⟩:=zz2 (fun h=>eC.on (p:=dD) q.o B z.o L h) (fun h=>HR.o.symm.trans (lD (p:=dD) L h));clear D a L t F G f;go_upto_region 4 with fail
   change Code.wp _ _ _ _ (e.alloc (r7 #[I r8 g,I U u,r9 E] 88));rw[←H.o];obtain⟨x0,x1,x2,_⟩:=aL T.o;clear d0 d1 d2 H
   by_cases V:g=1
   ·subst V
    by_cases ht:E.toList=[]
    ·have d:=Hd (s.o (FG ht));go_wp2_with fail
     exact d.o
    ·have d:=Hd (j.o (zF ht));go_wp2_with fail
     go_ret;exact⟨by rw[d.o];rfl,q.o⟩
   ·have ar:(g==1)=false:=by simpa using V
    by_cases X:g=2
    ·subst X
     by_cases h3:u=0
     ·subst h3;have d:=Hd (s.o (by simp[dD]));go_wp2_with fail
      exact d.o
     ·have a1:(u==0)=false:=by simpa using h3
      have d:=Hd (j.o (by simp[dD,h3]));go_wp2_with fail
      go_ret;exact⟨by rw[d.o];rfl,q.o⟩
    ·have a6:(g==2)=false:=by simpa using X
     have d:=Hd (s.o (by simp[dD,V,X]));go_wp2_with fail
     exact d.o
  ·obtain rfl:k=n:=by omega
   obtain⟨ad,d⟩:=zz2 t (HR.o.symm.trans (j8 Q.o z.o));clear t;go_wp2_with fail
   go_ret;exact⟨by rw[d.o];rfl,ad.o⟩
theorem A7{r:eb}{y0 y1 y2 y3:tS}{w:J}(hf:bJ.at_ w (fun x=>x<w.heap.size) r [y0,y1,y2,y3])(bd:szR r≤140737488355328):Calls Tryz.prog 52 #[Value.agg #[y0,y1,y2,y3]] w (aZ (jV r) w):=by
 obtain⟨he,cm,sf,ss,j,B,P⟩:=cY.1 hf;injection j with q0 j
 injection j with q1 j
 injection j with q2 j
 injection j with q3 _
 subst q0 q1 q2 q3;obtain⟨pf,cf,bg⟩:=Rd.q B;obtain⟨ps,cs,bk⟩:=Rd.q P;obtain⟨n,hn⟩:=zzy (r.a.length);obtain⟨m,hm⟩:=zzy (r.b.length);have Q:=Rd.sb B;rw[hn]at bg Q;rw[hm]at bk;subst bg bk;have cR:(n:Int)≤9223372036854775807:=by unfold maxLen at Q;omega
 obtain⟨w1,u⟩:=zzx (w.alloc (r7 #[I U r.h,I U r.u,O pf n cf,O ps m cs] 52));have a:Kr w w1:=by rw[u];exact (JO _ w).alloc (JM _) _
 have hx:w1.heap[w.heap.size]?=A (r7 #[I U r.h,I U r.u,O pf n cf,O ps m cs] 52 (0,0)):=by rw[u];exact oc w _
 have l:=u;have G:=(JL.1 hx).1;have HV:=Hd (fun W (l:Kr w1 W)=>Rd.sm B (fun _ h=>h) (a.trans (l.mono a.size)));have HF:=Hd (fun W (l:Kr w1 W)=>bJ.N (fun b (h:b<w.heap.size)=>JS h (a.trans (l.mono a.size)).size) (bJ.K (fun b (h:b<w.heap.size) o ho=>((a.trans (l.mono a.size)).block b h).trans ho) hf));have HS:=Hd (fun W (l:Kr w1 W)=>Rd.sI (fun b (h:b<w.heap.size)=>JS h (a.trans (l.mono a.size)).size) (Rd.sm P (fun _ h=>h) (a.trans (l.mono a.size))));have HX:=Hd (fun W (l:Kr w1 W)=>aa l hx G);have HB:=Hd (fun W (l:Kr w1 W)=>a.trans (l.mono a.size));obtain⟨bl,bm,HN⟩:=zz3 bd u hn;have H0:Hid (0<w1.heap.size):=by show _<_;omega
 obtain⟨ra,S⟩:=zzy ((r.a.all fun f=>f.c.all dD));obtain⟨rs,v⟩:=zzy (r.b.all dD);obtain⟨st,T⟩:=zzy ((dh (cQ r,false)).2);have bn:jV r=(ra&&rs&&(!st.2&&st.1.isEmpty)):=by rw[←S,←v,←T];rfl
 rw[bn];obtain⟨bq,cn,cp⟩:=zz3 S v T;clear hf B P bd a hx u hn hm Q bn S v T G l he cm
 go_enter Tryz.func52,Tryz.ntmps52
 go_upto_region 1 with fail
 change Code.wp _ _ _ _ (w.alloc (r7 #[I U r.h,I U r.u,O pf n cf,O ps m cs] 52));rw[←bm.o];clear bm;obtain⟨c0,c1,c2,c3,_⟩:=bC (HX.o w1 (JO _ _));go_wp2_with fail
 go_loopw [9] (eC w1 n (fun f:ai=>f.c.all dD) r.a) (fun i _=>n-(intOf i).toNat)
 case atStart=>exact eC.start
 case round =>
  obtain⟨q,k,rfl,hk,rfl,a,bt⟩:=hrel;have bB:=Hd bt;clear bt c0 c1 c2 c3
  by_cases bR:k<n
  ·obtain⟨f,C⟩:∃x,r.a[k]?=A x:=⟨_,JR (by rw[HN.o];exact bR)⟩;have b0:=Rd.X (HV.o q a) C;rw[HN.o]at b0;obtain⟨b1,off,cap,vs,cq,_,_,_,_,b2,c⟩:=b0;injection cq with e1 _ e3
   subst e1;subst e3;obtain⟨cr,ct,sl,rfl,V⟩:=bW.1 b2;obtain⟨p6,c6,H⟩:=Rd.q V;obtain⟨m6,b3⟩:=zzy (f.c.length);rw[b3]at H;subst H;have d0:q.cell? ⟨b1,off+k*3,Y⟩=A (I U f.id):=c 0 _ Z;have d1:q.cell? ⟨b1,off+k*3+1,Y⟩=A (I U f.u):=c 1 _ Z;have d2:q.cell? ⟨b1,off+k*3+2,Y⟩=A (O p6 m6 c6):=c 2 _ Z;obtain⟨W2,D⟩:=zzx (q.alloc (r7 #[I U f.id,I U f.u,O p6 m6 c6] 47));have d:Kr q W2:=by rw[D];exact (JO _ q).alloc (JM _) _
   have b4:W2.heap[q.heap.size]?=A (r7 #[I U f.id,I U f.u,O p6 m6 c6] 47 (0,0)):=by rw[D];exact oc q _
   have s:=a.trans (d.mono a.size);obtain⟨t,cu,b5⟩:=zz3 s b4 D;have cT:(k:Int)<n:=by omega
   have cv:=(HB.o q a).size;have K:bK.h W2 (fun b=>b<W2.heap.size) f.c (O p6 m6 c6):=Rd.sI (fun x (hx:x<w.heap.size)=>(by have:=d.size;omega:x<W2.heap.size)) (Rd.sv (fun x (hx:x<w.heap.size) o ho=>(d.block x (by omega)).trans ho) V);have X:=Hd (xl f.c _ W2 K);have cy:=Hd (fun W (l:Kr w1 W) h=>eC.on (p:=fun f:ai=>f.c.all dD) (W:=W) l bR bB.o C h);have b6:=Hd (fun h=>bq.o.symm.trans (lD (p:=fun f:ai=>f.c.all dD) C h));obtain⟨ba,ad⟩:=zzy (f.c.all dD);rw[ad]at X;have L:=Hd ad;clear b2 c C a d b4 D cr ct V K b3 ad s cv;go_upto_region 4 with fail
   change Code.wp _ _ _ _ (q.alloc (r7 #[I U f.id,I U f.u,O p6 m6 c6] 47));rw[←b5.o];obtain⟨x0,x1,x2,_⟩:=aL cu.o;clear d0 d1 d2 b5;go_wp2_with fail
   refine X.o.mono ?_;rintro e W3 ⟨rfl,y⟩;have E:=Hd (t.o.trans (y.mono t.o.size));clear y X x0 x1 x2
   cases ba with
   | true =>
    have HO:=Hd (cy.o W3 E.o L.o);go_wp2_with fail
    exact HO.o
   | false =>
    have HO:=Hd (b6.o L.o);go_wp2_with fail
    go_ret;exact⟨by rw[HO.o];rfl,HB.o _ E.o⟩
  ·obtain rfl:k=n:=by omega
   obtain⟨b7,b8,b9⟩:=zz3 a (bq.o.symm.trans (j8 (p:=fun f:ai=>f.c.all dD) HN.o bB.o)) (qX (HF.o q a) bl.o);obtain⟨c0,c1,c2,c3,_⟩:=bC (HX.o q a);clear a;go_wp2_with fail
   refine b9.o.mono ?_;rintro e W2 ⟨vb,rfl,af,d,_⟩;have s:=b7.o.trans (d.mono b7.o.size);obtain⟨M,t,cC,cV⟩:=zz4 (vH af (by have:=oa r;have:=bl.o;omega) (by have:=H0.o;have:=s.size;omega)) s d af;clear af d s c0 c1 c2 c3;go_wp2_with fail
   refine M.o.mono ?_;rintro e W3 ⟨R,g,rfl,y,hR,ca⟩;obtain⟨cb,E,cA⟩:=zz3 (qb ca) (t.o.trans (y.mono t.o.size)) hR;clear y hR ca M;go_wp2_with fail
   refine cb.o.mono ?_;rintro e W4 ⟨z0,z1,z2,z3,rfl,_,aq,_⟩;have F:Kr w1 W4:=o0 E.o aq.1 (by have:=cA.o;have:=t.o.size;omega);have ar:=Hd (xl r.b _ W4 (HS.o W4 F));rw[cn.o]at ar;have z:=aq.2;rw[cp.o]at z;obtain⟨cc,ch⟩:=zz2 z F;obtain⟨c0,c1,c2,c3,_⟩:=bC (HX.o W4 F);clear aq z F cb;go_wp2_with fail
   refine ar.o.mono ?_;rintro e W5 ⟨rfl,a1⟩;have N:=cc.o.C a1;obtain⟨a6,ck⟩:=zz2 (sO N) (HB.o _ (ch.o.trans (a1.mono ch.o.size)));obtain⟨dn,bb⟩:=zzy ((!st.2&&st.1.isEmpty));rw[bb]at a6;have cl:=Hd bb;clear N a1 bb c0 c1 c2 c3 ar cc
   cases rs with
   | false =>
    go_wp2_with fail
    go_ret;exact⟨by rw[Bool.and_false,Bool.false_and];rfl,ck.o⟩
   | true =>
    go_wp2_with fail
    refine a6.o.mono ?_;rintro e W6 ⟨rfl,rfl⟩;clear a6;go_wp2_with fail
    go_ret;exact⟨by rw[b8.o,cl.o];rfl,ck.o⟩
theorem il{W:J}{b:Nat}{a c c2 d c4 e f g i:tS}{t:TypeId}(h:W.heap[b]?=A (r7 #[a,c,c2,d,c4,e,f,g,i] t (0,0))) :
  W.cell? ⟨b,0,Y⟩=A a∧W.cell? ⟨b,1,Y⟩=A c∧W.cell? ⟨b,2,Y⟩=A c2∧W.cell? ⟨b,3,Y⟩=A d∧W.cell? ⟨b,4,Y⟩=A c4∧W.cell? ⟨b,5,Y⟩=A e∧W.cell? ⟨b,6,Y⟩=A f∧W.cell? ⟨b,7,Y⟩=A g∧W.cell? ⟨b,8,Y⟩=A i:=
 ⟨by simp[At,h],by simp[At,h],by simp[At,h],by simp[At,h],by simp[At,h],by simp[At,h],by simp[At,h],by simp[At,h],by simp[At,h]⟩
def kM(R:dc) (f:ai):Bool:=decide (f.u<R.c.length)&&(((R.c[f.u.toNat]?).map am.a).getD 0==(f.c.length:Int))
theorem DT{R:dc}{f:ai}{j:Nat}{t:am}(b:f.u=j)(a:R.c[j]?=A t):kM R f=(t.a==(f.c.length:Int)):=by
 unfold kM;rw[b,Int.toNat_natCast,a,decide_eq_true (by have:=(J3.1 a).1;omega)];rfl
theorem CY{R:dc}{f:ai}(h:(R.c.length:Int)≤f.u):kM R f=false:=by
 unfold kM;rw[oE (by omega)];rfl
theorem Cx{w:J}{K:Nat}{m:au}{R:dc}(h:jI w K m R):Calls Tryz.prog 25 #[Value.pointer (A ⟨K,0,Y⟩)] w (aZ (mY R m.a) w):=by
 have HL:=Hd h;obtain⟨_,_,sf,st,ss,sy,sr,M,hx,v,af,aq,F,ar,hM⟩:=h;obtain⟨p,c,a1⟩:=Rd.q v;obtain⟨pt,ct,a6⟩:=Rd.q af;obtain⟨ps,cs,ba⟩:=Rd.q aq;obtain⟨py,cy,bb⟩:=Rd.q F;obtain⟨pr,cr,bd⟩:=Rd.q ar;have G:=Rd.sb v;obtain⟨n,hn⟩:=zzy (m.a.length);obtain⟨nt,bg⟩:=zzy (m.d.length);obtain⟨ns,bk⟩:=zzy (m.e.length);obtain⟨ny,H⟩:=zzy (R.c.length);obtain⟨nr,bl⟩:=zzy (R.a.length);rw[hn]at a1 G;rw[bg]at a6;rw[bk]at ba;rw[H]at bb;rw[bl]at bd;subst a1 a6 ba bb bd;have cA:(n:Int)≤9223372036854775807:=by unfold maxLen at G;omega
 have HV:=Hd (fun W (y:Kr w W)=>al v y);have HY:=Hd (fun W (y:Kr w W)=>al F y);have HX:=Hd (fun W (y:Kr w W)=>aa y hx (JL.1 hx).1);obtain⟨HN,L,ca⟩:=zz3 hn H hM.fits;obtain⟨r,hr⟩:=zzy (mY R m.a);rw[hr];have bm:m.a.all (kM R)=r:=hr;have HR:=Hd bm;obtain⟨tx,bn⟩:=zzy (m.c);obtain⟨nx,bq⟩:=zzy (m.g);obtain⟨mn,bt⟩:=zzy (m.h);rw[bn,bq,bt]at HX;obtain⟨k0,k1,k2,k3,k4,k5,k6,k7,k8⟩:=il (HX.o w (JO _ _));clear hx v af aq F ar hM hn bg bk H bl G hr bm bn bq bt
 go_enter Tryz.func25,Tryz.ntmps25
 go_wp2_with fail
 go_loopw [12] (eC w n (kM R) m.a) (fun i _=>n-(intOf i).toNat)
 case atStart=>exact eC.start
 case round =>
  obtain⟨u,k,rfl,hk,rfl,hb,bB⟩:=hrel;have bR:=Hd bB;clear bB k0 k1 k2 k3 k4 k5 k6 k7 k8
  by_cases b0:k<n
  ·obtain⟨f,e⟩:∃x,m.a[k]?=A x:=⟨_,JR (by rw[HN.o];exact b0)⟩;have g:=Rd.X (HV.o u hb) e;rw[HN.o]at g;obtain⟨b1,off,cap,vs,N,_,_,_,_,l,a⟩:=g;injection N with e1 _ e3
   subst e1;subst e3;obtain⟨cb,cc,sl,rfl,P⟩:=bW.1 l;obtain⟨p6,c6,C⟩:=Rd.q P;have q:=Rd.sb P;obtain⟨Q,S⟩:=zzy (f.c.length);rw[S]at C q;subst C;have cq:(Q:Int)≤9223372036854775807:=by unfold maxLen at q;omega
   have d0:u.cell? ⟨b1,off+k*3,Y⟩=A (I U f.id):=a 0 _ Z;have d1:u.cell? ⟨b1,off+k*3+1,Y⟩=A (I U f.u):=a 1 _ Z;have d2:u.cell? ⟨b1,off+k*3+2,Y⟩=A (O p6 Q c6):=a 2 _ Z;obtain⟨ft,z⟩:=zzy (f.u);rw[z]at d1;have h0:=(ca.o f (J8 e)).1;rw[z]at h0;obtain⟨j,rfl⟩:∃j:Nat,ft=j:=⟨ft.toNat,by omega⟩;obtain⟨W2,B⟩:=zzx (u.alloc (r7 #[I U f.id,I U (j:Int),O p6 Q c6] 47));have b3:Kr u W2:=by rw[B];exact (JO _ u).alloc (JM _) _
   have b4:W2.heap[u.heap.size]?=A (r7 #[I U f.id,I U (j:Int),O p6 Q c6] 47 (0,0)):=by rw[B];exact oc u _
   have b5:=hb.trans (b3.mono hb.size);have b6:=HX.o W2 b5;obtain⟨k0,k1,k2,k3,k4,k5,k6,k7,k8⟩:=il b6;obtain⟨x0,x1,x2,_⟩:=aL b4;have X0:=fun x:Wb W2=>x.h x0
   have X1:=fun x:Wb W2=>x.h x1
   have X2:=fun x:Wb W2=>x.h x2
   have K6:=fun x:Wb W2=>x.h k6
   obtain⟨d,b7⟩:=zz2 b5 B;have cu:(k:Int)<n:=by omega
   have cf:=Hd (fun W (y:Kr w W) h=>eC.on (p:=kM R) (W:=W) y b0 bR.o e h);obtain⟨D,ch,b8⟩:=zz3 (fun h=>HR.o.symm.trans (lD (p:=kM R) e h)) S z;clear l a e hb b3 b4 B cb cc P S z h0 b6 q k0 k1 k2 k3 k4 k5 k6 k7 k8 x0 x1 x2;go_upto_region 4 with fail
   change Code.wp _ _ _ _ (u.alloc (r7 #[I U f.id,I U (j:Int),O p6 Q c6] 47));rw[←b7.o];clear d0 d1 d2 b7
   by_cases hA:ny≤j
   ·have ck:(ny:Int)≤(j:Int):=by omega
    have T:=Hd (D.o (CY (by rw[L.o,b8.o];omega)));refine ao (by kernel_rfl) (by kernel_rfl) ?_
    repeat (go_big_quiet_step (fail))
    refine xL ?_;intro W7 b;have s:=Hd (d.o.trans ((bA b).mono d.o.size));clear b X0 X1 X2 K6;go_wp2_with fail
    go_ret;exact⟨by rw[T.o];rfl,s.o⟩
   ·have ck:¬(ny:Int)≤(j:Int):=by omega
    have cl:j<ny:=by omega
    have cC:(j:Int)<(ny:Int):=by omega
    obtain⟨t,V⟩:∃x,R.c[j]?=A x:=⟨_,JR (by rw[L.o];exact cl)⟩;have g:=Rd.X (HY.o W2 d.o) V;rw[L.o]at g;obtain⟨b2,E,cv,vs,N,_,_,_,_,l,a⟩:=g;injection N with e1 _ e3
    subst e1;subst e3;obtain⟨rfl,_,cm⟩:=qG.1 l;have t0:W2.cell? ⟨b2,E+j*2,Y⟩=A (r9 t.c):=a 0 _ Z;have t1:W2.cell? ⟨b2,E+j*2+1,Y⟩=A (I U t.a):=a 1 _ Z;have T1:=fun x:Wb W2=>x.h t1
    have X:=DT b8.o V;rw[ch.o]at X;have ad:=Hd X;obtain⟨tf,b9⟩:=zzy (t.a);rw[b9]at T1 ad;clear l a V cm t0 t1 X b9
    by_cases hE:tf=(Q:Int)
    ·subst hE;have T:=Hd (fun W y=>cf.o W y (by rw[ad.o];simp));refine ao (by kernel_rfl) (by kernel_rfl) ?_
     repeat (go_big_quiet_step (fail))
     refine xL ?_;intro W7 b;have s:=Hd (T.o W7 (d.o.trans ((bA b).mono d.o.size)));clear b X0 X1 X2 K6 T1;go_wp2_with fail
     exact s.o
    ·have cn:(tf==(Q:Int))=false:=by simpa using hE
     have T:=Hd (D.o (by rw[ad.o];exact cn));refine ao (by kernel_rfl) (by kernel_rfl) ?_
     repeat (go_big_quiet_step (fail))
     refine xL ?_;intro W7 b;have s:=Hd (d.o.trans ((bA b).mono d.o.size));clear b X0 X1 X2 K6 T1;go_wp2_with fail
     go_ret;exact⟨by rw[T.o];rfl,s.o⟩
  ·obtain rfl:k=n:=by omega
   obtain⟨cp,T⟩:=zz2 hb (HR.o.symm.trans (j8 HN.o bR.o));clear hb;go_wp2_with fail
   go_ret;exact⟨by rw[T.o];rfl,cp.o⟩
