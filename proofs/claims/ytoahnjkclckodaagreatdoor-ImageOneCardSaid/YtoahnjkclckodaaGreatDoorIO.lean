/- Parts of one proof, joined; conditions stand in each theorem. -/
import Derived.Test.YtoahnjkclckodaaGreatDoorIG
import Derived.Test.YtoahnjkclckodaaGreatDoorIJ
import Derived.Test.YtoahnjkclckodaaGreatDoorMD
import Derived.Test.YtoahnjkclckodaaGreatDoorIL
import Derived.Test.YtoahnjkclckodaaGreatDoorIN
open Option renaming some→A,none→Y
open Go renaming World→J,Value→tT,wpQuiet_nil→xL
open Go.Value renaming int→I,string→tS,slice→O
open Go.IntKind renaming i64→U,u8→tF
open Go.Obj renaming cells→r9
open Go.World renaming cell?→AF
namespace Go.Proofs.YtoahnjkclckodaaGreatDoor
set_option maxHeartbeats 4000000
set_option maxRecDepth 100000
open Go.RowKit
theorem jC{α:Type}{p:α→Bool}{l:List α}{n:Nat}(a:l.length=n)(h:∀(j:Nat) x,j<n→l[j]?=A x→p x=true):l.all p=true:=by
 rw[Gb];intro x b;obtain⟨i,hi⟩:=List.getElem?_of_mem b;exact h i x (by rw[←a];exact (FU.1 hi).1) hi
theorem kM{α:Type}{p:α→Bool}{l:List α}{k:Nat}{x:α}(a:l[k]?=A x)(h:p x=false):l.all p=false:=by
 rw[List.all_eq_false];exact⟨x,FZ a,by simp[h]⟩
def ee{α:Type} (w:J) (n:Nat) (p:α→Bool) (l:List α) (i:tT) (W:J):Prop:=
 ∃(a:J) (k:Nat),a=W∧k≤n∧i=I U (k:Int)∧Gl w a∧∀(j:Nat) x,j<k→l[j]?=A x→p x=true
theorem ee.start{α:Type}{w:J}{n:Nat}{p:α→Bool}{l:List α}:ee w n p l (I U (0:Nat)) w:=⟨w,0,Z,FR _,Z,Fz _ _,fun _ _ h=>absurd h (Nat.not_lt_zero _)⟩
theorem ee.on{α:Type}{w W:J}{n k:Nat}{p:α→Bool}{l:List α}{x:α}(b:Gl w W)(f:k<n)(c:∀(j:Nat) x,j<k→l[j]?=A x→p x=true)(d:l[k]?=A x)(e:p x=true) :
  ee w n p l (I U ((k:Int)+1)) W∧n-(intOf (I U ((k:Int)+1))).toNat<n-(intOf (I U k)).toNat:=
 ⟨⟨W,k+1,Z,by omega,by go_num,b,fun j y g a=>by
  by_cases h:j=k
  ·subst h;rw[d]at a;injection a with a
   rw[←a];exact e
  ·exact c j y (by omega) a⟩,by simp[intOf];omega⟩
theorem BZ{n:Int}{t:ByteArray}(h:t.toList=[]):ev ⟨1,n,t⟩=true:=by
 rw[FS]at h;simp[ev,h]
theorem wJ{n:Int}{t:ByteArray}(h:¬t.toList=[]):ev ⟨1,n,t⟩=false:=by
 rw[FS]at h;simp only[ev]
 cases b:t.data.toList with
 | nil=>exact absurd b h
 | cons a l=>rfl
theorem uk(l:List bj)(v:tT)(w:J)(K:bL.h w (fun b=>b<w.heap.size) l v):Calls Tryz.prog 78 #[v] w (aV (l.all ev) w):=by
 obtain⟨p,c,M⟩:=Rd.q K;have m:=Rd.N K;subst M;obtain⟨n,N⟩:=zzy (l.length);have HV:=Hd (fun W (hW:Gl w W)=>Rd.sm K (fun _ h=>h) hW);rw[N]at HV m ⊢;have af:(n:Int)≤9223372036854775807:=by unfold maxLen at m;omega
 obtain⟨r,P⟩:=zzy (l.all ev);rw[P];obtain⟨HR,Q⟩:=zz2 P N;clear K N m P
 go_enter Tryz.func78,Tryz.ntmps78
 go_wp2_with fail
 go_loopw [7] (ee w n ev l) (fun i _=>n-(intOf i).toNat)
 case atStart=>exact ee.start
 case round =>
  obtain⟨e,k,rfl,hk,rfl,t,y⟩:=hrel;have z:=Hd y;clear y
  by_cases B:k<n
  ·obtain⟨x,L⟩:∃x,l[k]?=A x:=⟨_,FD (by rw[Q.o];exact B)⟩;have C:=Rd.K (HV.o e t) L;rw[Q.o]at C;obtain⟨R,off,cap,vs,S,_,_,_,_,D,a⟩:=C;injection S with e1 _ e3
   subst e1;subst e3;obtain⟨rfl,_⟩:=eh.1 D;obtain⟨g,u,E⟩:=x;have d0:e.cell? ⟨R,off+k*3,Y⟩=A (I tF g):=a 0 _ Z;have d1:e.cell? ⟨R,off+k*3+1,Y⟩=A (I U u):=a 1 _ Z;have d2:e.cell? ⟨R,off+k*3+2,Y⟩=A (tS E):=a 2 _ Z;obtain⟨W2,f⟩:=zzx (e.alloc (r9 #[I tF g,I U u,tS E] 88));have F:Gl e W2:=by rw[f];exact (Fz _ e).alloc (Fy _) _
   have G:W2.heap[e.heap.size]?=A (r9 #[I tF g,I U u,tS E] 88 (0,0)):=by rw[f];exact oA e _
   obtain⟨q,T,H⟩:=zz3 (t.trans (F.mono t.size)) G f;have aq:(k:Int)<n:=by omega
   obtain⟨s,j⟩:=zz2 (fun h=>ee.on (p:=ev) q.o B z.o L h) (fun h=>HR.o.symm.trans (kM (p:=ev) L h));clear D a L t F G f;go_upto_region 4 with fail
   change Code.wp _ _ _ _ (e.alloc (r9 #[I tF g,I U u,tS E] 88));rw[←H.o];obtain⟨x0,x1,x2,_⟩:=aE T.o;clear d0 d1 d2 H
   by_cases V:g=1
   ·subst V
    by_cases ht:E.toList=[]
    ·have d:=Hd (s.o (BZ ht));go_wp2_with fail
     exact d.o
    ·have d:=Hd (j.o (wJ ht));go_wp2_with fail
     go_ret;exact⟨by rw[d.o];rfl,q.o⟩
   ·have ar:(g==1)=false:=by simpa using V
    by_cases X:g=2
    ·subst X
     by_cases h3:u=0
     ·subst h3;have d:=Hd (s.o (by simp[ev]));go_wp2_with fail
      exact d.o
     ·have a1:(u==0)=false:=by simpa using h3
      have d:=Hd (j.o (by simp[ev,h3]));go_wp2_with fail
      go_ret;exact⟨by rw[d.o];rfl,q.o⟩
    ·have a6:(g==2)=false:=by simpa using X
     have d:=Hd (s.o (by simp[ev,V,X]));go_wp2_with fail
     exact d.o
  ·obtain rfl:k=n:=by omega
   obtain⟨ad,d⟩:=zz2 t (HR.o.symm.trans (jC Q.o z.o));clear t;go_wp2_with fail
   go_ret;exact⟨by rw[d.o];rfl,ad.o⟩
theorem yf{r:fZ}{y0 y1 y2 y3:tT}{w:J}(hf:bH.at_ w (fun x=>x<w.heap.size) r [y0,y1,y2,y3])(bd:szR r≤140737488355328):Calls Tryz.prog 52 #[Value.agg #[y0,y1,y2,y3]] w (aV (kR r) w):=by
 obtain⟨he,cn,sf,ss,j,B,P⟩:=db.1 hf;injection j with q0 j
 injection j with q1 j
 injection j with q2 j
 injection j with q3 _
 subst q0 q1 q2 q3;obtain⟨pf,cf,bk⟩:=Rd.q B;obtain⟨ps,cs,bl⟩:=Rd.q P;obtain⟨n,hn⟩:=zzy (r.a.length);obtain⟨m,hm⟩:=zzy (r.b.length);have Q:=Rd.N B;rw[hn]at bk Q;rw[hm]at bl;subst bk bl;have cT:(n:Int)≤9223372036854775807:=by unfold maxLen at Q;omega
 obtain⟨w1,u⟩:=zzx (w.alloc (r9 #[I U r.h,I U r.u,O pf n cf,O ps m cs] 52));have a:Gl w w1:=by rw[u];exact (Fz _ w).alloc (Fy _) _
 have hx:w1.heap[w.heap.size]?=A (r9 #[I U r.h,I U r.u,O pf n cf,O ps m cs] 52 (0,0)):=by rw[u];exact oA w _
 have l:=u;have G:=(Fx.1 hx).1;have HV:=Hd (fun W (l:Gl w1 W)=>Rd.sm B (fun _ h=>h) (a.trans (l.mono a.size)));have HF:=Hd (fun W (l:Gl w1 W)=>bH.D (fun b (h:b<w.heap.size)=>FG h (a.trans (l.mono a.size)).size) (bH.t (fun b (h:b<w.heap.size) o ho=>((a.trans (l.mono a.size)).block b h).trans ho) hf));have HS:=Hd (fun W (l:Gl w1 W)=>Rd.sv (fun b (h:b<w.heap.size)=>FG h (a.trans (l.mono a.size)).size) (Rd.sm P (fun _ h=>h) (a.trans (l.mono a.size))));have HX:=Hd (fun W (l:Gl w1 W)=>aa l hx G);have HB:=Hd (fun W (l:Gl w1 W)=>a.trans (l.mono a.size));obtain⟨bm,bn,HN⟩:=zz3 bd u hn;have H0:Hid (0<w1.heap.size):=by show _<_;omega
 obtain⟨ra,S⟩:=zzy ((r.a.all fun f=>f.a.all ev));obtain⟨rs,v⟩:=zzy (r.b.all ev);obtain⟨st,T⟩:=zzy ((eq (dq r,false)).2);have bq:kR r=(ra&&rs&&(!st.2&&st.1.isEmpty)):=by rw[←S,←v,←T];rfl
 rw[bq];obtain⟨bt,cp,cq⟩:=zz3 S v T;clear hf B P bd a hx u hn hm Q bq S v T G l he cn
 go_enter Tryz.func52,Tryz.ntmps52
 go_upto_region 1 with fail
 change Code.wp _ _ _ _ (w.alloc (r9 #[I U r.h,I U r.u,O pf n cf,O ps m cs] 52));rw[←bn.o];clear bn;obtain⟨c0,c1,c2,c3,_⟩:=bA (HX.o w1 (Fz _ _));go_wp2_with fail
 go_loopw [9] (ee w1 n (fun f:am=>f.a.all ev) r.a) (fun i _=>n-(intOf i).toNat)
 case atStart=>exact ee.start
 case round =>
  obtain⟨q,k,rfl,hk,rfl,a,bB⟩:=hrel;have bR:=Hd bB;clear bB c0 c1 c2 c3
  by_cases b0:k<n
  ·obtain⟨f,C⟩:∃x,r.a[k]?=A x:=⟨_,FD (by rw[HN.o];exact b0)⟩;have b2:=Rd.K (HV.o q a) C;rw[HN.o]at b2;obtain⟨b1,off,cap,vs,cr,_,_,_,_,b3,c⟩:=b2;injection cr with e1 _ e3
   subst e1;subst e3;obtain⟨ct,cu,sl,rfl,V⟩:=bY.1 b3;obtain⟨p6,c6,H⟩:=Rd.q V;obtain⟨m6,b4⟩:=zzy (f.a.length);rw[b4]at H;subst H;have d0:q.cell? ⟨b1,off+k*3,Y⟩=A (I U f.id):=c 0 _ Z;have d1:q.cell? ⟨b1,off+k*3+1,Y⟩=A (I U f.u):=c 1 _ Z;have d2:q.cell? ⟨b1,off+k*3+2,Y⟩=A (O p6 m6 c6):=c 2 _ Z;obtain⟨W2,D⟩:=zzx (q.alloc (r9 #[I U f.id,I U f.u,O p6 m6 c6] 47));have d:Gl q W2:=by rw[D];exact (Fz _ q).alloc (Fy _) _
   have b5:W2.heap[q.heap.size]?=A (r9 #[I U f.id,I U f.u,O p6 m6 c6] 47 (0,0)):=by rw[D];exact oA q _
   have s:=a.trans (d.mono a.size);obtain⟨t,cv,b6⟩:=zz3 s b5 D;have cV:(k:Int)<n:=by omega
   have cy:=(HB.o q a).size;have K:bL.h W2 (fun b=>b<W2.heap.size) f.a (O p6 m6 c6):=Rd.sv (fun x (hx:x<w.heap.size)=>(by have:=d.size;omega:x<W2.heap.size)) (Rd.sb (fun x (hx:x<w.heap.size) o ho=>(d.block x (by omega)).trans ho) V);have X:=Hd (uk f.a _ W2 K);have cA:=Hd (fun W (l:Gl w1 W) h=>ee.on (p:=fun f:am=>f.a.all ev) (W:=W) l b0 bR.o C h);have b7:=Hd (fun h=>bt.o.symm.trans (kM (p:=fun f:am=>f.a.all ev) C h));obtain⟨ba,ad⟩:=zzy (f.a.all ev);rw[ad]at X;have L:=Hd ad;clear b3 c C a d b5 D ct cu V K b4 ad s cy;go_upto_region 4 with fail
   change Code.wp _ _ _ _ (q.alloc (r9 #[I U f.id,I U f.u,O p6 m6 c6] 47));rw[←b6.o];obtain⟨x0,x1,x2,_⟩:=aE cv.o;clear d0 d1 d2 b6;go_wp2_with fail
   refine X.o.mono ?_;rintro e W3 ⟨rfl,y⟩;have E:=Hd (t.o.trans (y.mono t.o.size));clear y X x0 x1 x2
   cases ba with
   | true =>
    have HO:=Hd (cA.o W3 E.o L.o);go_wp2_with fail
    exact HO.o
   | false =>
    have HO:=Hd (b7.o L.o);go_wp2_with fail
    go_ret;exact⟨by rw[HO.o];rfl,HB.o _ E.o⟩
  ·obtain rfl:k=n:=by omega
   obtain⟨b8,b9,ca⟩:=zz3 a (bt.o.symm.trans (jC (p:=fun f:am=>f.a.all ev) HN.o bR.o)) (pn (HF.o q a) bm.o);obtain⟨c0,c1,c2,c3,_⟩:=bA (HX.o q a);clear a;go_wp2_with fail
   refine ca.o.mono ?_;rintro e W2 ⟨vb,rfl,af,d,_⟩;have s:=b8.o.trans (d.mono b8.o.size);obtain⟨M,t,cR,cW⟩:=zz4 (tc af (by have:=mz r;have:=bm.o;omega) (by have:=H0.o;have:=s.size;omega)) s d af;clear af d s c0 c1 c2 c3;go_wp2_with fail
   refine M.o.mono ?_;rintro e W3 ⟨R,g,rfl,y,hR,cb⟩;obtain⟨cc,E,cC⟩:=zz3 (ol cb) (t.o.trans (y.mono t.o.size)) hR;clear y hR cb M;go_wp2_with fail
   refine cc.o.mono ?_;rintro e W4 ⟨z0,z1,z2,z3,rfl,_,aq,_⟩;have F:Gl w1 W4:=nj E.o aq.1 (by have:=cC.o;have:=t.o.size;omega);have ar:=Hd (uk r.b _ W4 (HS.o W4 F));rw[cp.o]at ar;have z:=aq.2;rw[cq.o]at z;obtain⟨ch,ck⟩:=zz2 z F;obtain⟨c0,c1,c2,c3,_⟩:=bA (HX.o W4 F);clear aq z F cc;go_wp2_with fail
   refine ar.o.mono ?_;rintro e W5 ⟨rfl,a1⟩;have N:=ch.o.C a1;obtain⟨a6,cl⟩:=zz2 (qF N) (HB.o _ (ck.o.trans (a1.mono ck.o.size)));obtain⟨dn,bb⟩:=zzy ((!st.2&&st.1.isEmpty));rw[bb]at a6;have cm:=Hd bb;clear N a1 bb c0 c1 c2 c3 ar ch
   cases rs with
   | false =>
    go_wp2_with fail
    go_ret;exact⟨by rw[Bool.and_false,Bool.false_and];rfl,cl.o⟩
   | true =>
    go_wp2_with fail
    refine a6.o.mono ?_;rintro e W6 ⟨rfl,rfl⟩;clear a6;go_wp2_with fail
    go_ret;exact⟨by rw[b9.o,cm.o];rfl,cl.o⟩
theorem gz{W:J}{b:Nat}{a c c2 d c4 e f g i:tT}{t:TypeId}(h:W.heap[b]?=A (r9 #[a,c,c2,d,c4,e,f,g,i] t (0,0))) :
  W.cell? ⟨b,0,Y⟩=A a∧W.cell? ⟨b,1,Y⟩=A c∧W.cell? ⟨b,2,Y⟩=A c2∧W.cell? ⟨b,3,Y⟩=A d∧W.cell? ⟨b,4,Y⟩=A c4∧W.cell? ⟨b,5,Y⟩=A e∧W.cell? ⟨b,6,Y⟩=A f∧W.cell? ⟨b,7,Y⟩=A g∧W.cell? ⟨b,8,Y⟩=A i:=
 ⟨by simp[AF,h],by simp[AF,h],by simp[AF,h],by simp[AF,h],by simp[AF,h],by simp[AF,h],by simp[AF,h],by simp[AF,h],by simp[AF,h]⟩
def j9(R:de) (f:am):Bool:=decide (f.u<R.a.length)&&(((R.a[f.u.toNat]?).map ay.a).getD 0==(f.a.length:Int))
theorem AB{R:de}{f:am}{j:Nat}{t:ay}(b:f.u=j)(a:R.a[j]?=A t):j9 R f=(t.a==(f.a.length:Int)):=by
 unfold j9;rw[b,Int.toNat_natCast,a,decide_eq_true (by have:=(FU.1 a).1;omega)];rfl
theorem zQ{R:de}{f:am}(h:(R.a.length:Int)≤f.u):j9 R f=false:=by
 unfold j9;rw[oT (by omega)];rfl
theorem zA{w:J}{K:Nat}{m:aQ}{R:de}(h:jh w K m R):Calls Tryz.prog 25 #[Value.pointer (A ⟨K,0,Y⟩)] w (aV (l5 R m.a) w):=by
 have HL:=Hd h;obtain⟨_,_,sf,st,ss,sy,sr,M,hx,v,af,aq,F,ar,hM⟩:=h;obtain⟨p,c,a1⟩:=Rd.q v;obtain⟨pt,ct,a6⟩:=Rd.q af;obtain⟨ps,cs,ba⟩:=Rd.q aq;obtain⟨py,cy,bb⟩:=Rd.q F;obtain⟨pr,cr,bd⟩:=Rd.q ar;have G:=Rd.N v;obtain⟨n,hn⟩:=zzy (m.a.length);obtain⟨nt,bk⟩:=zzy (m.e.length);obtain⟨ns,bl⟩:=zzy (m.g.length);obtain⟨ny,H⟩:=zzy (R.a.length);obtain⟨nr,bm⟩:=zzy (R.c.length);rw[hn]at a1 G;rw[bk]at a6;rw[bl]at ba;rw[H]at bb;rw[bm]at bd;subst a1 a6 ba bb bd;have cC:(n:Int)≤9223372036854775807:=by unfold maxLen at G;omega
 have HV:=Hd (fun W (y:Gl w W)=>ak v y);have HY:=Hd (fun W (y:Gl w W)=>ak F y);have HX:=Hd (fun W (y:Gl w W)=>aa y hx (Fx.1 hx).1);obtain⟨HN,L,cb⟩:=zz3 hn H hM.fits;obtain⟨r,hr⟩:=zzy (l5 R m.a);rw[hr];have bn:m.a.all (j9 R)=r:=hr;have HR:=Hd bn;obtain⟨tx,bq⟩:=zzy (m.c);obtain⟨nx,bt⟩:=zzy (m.d);obtain⟨mn,bB⟩:=zzy (m.f);rw[bq,bt,bB]at HX;obtain⟨k0,k1,k2,k3,k4,k5,k6,k7,k8⟩:=gz (HX.o w (Fz _ _));clear hx v af aq F ar hM hn bk bl H bm G hr bn bq bt bB
 go_enter Tryz.func25,Tryz.ntmps25
 go_wp2_with fail
 go_loopw [12] (ee w n (j9 R) m.a) (fun i _=>n-(intOf i).toNat)
 case atStart=>exact ee.start
 case round =>
  obtain⟨u,k,rfl,hk,rfl,hb,bR⟩:=hrel;have b0:=Hd bR;clear bR k0 k1 k2 k3 k4 k5 k6 k7 k8
  by_cases b3:k<n
  ·obtain⟨f,e⟩:∃x,m.a[k]?=A x:=⟨_,FD (by rw[HN.o];exact b3)⟩;have g:=Rd.K (HV.o u hb) e;rw[HN.o]at g;obtain⟨b1,off,cap,vs,N,_,_,_,_,l,a⟩:=g;injection N with e1 _ e3
   subst e1;subst e3;obtain⟨cc,cf,sl,rfl,P⟩:=bY.1 l;obtain⟨p6,c6,C⟩:=Rd.q P;have q:=Rd.N P;obtain⟨Q,S⟩:=zzy (f.a.length);rw[S]at C q;subst C;have cu:(Q:Int)≤9223372036854775807:=by unfold maxLen at q;omega
   have d0:u.cell? ⟨b1,off+k*3,Y⟩=A (I U f.id):=a 0 _ Z;have d1:u.cell? ⟨b1,off+k*3+1,Y⟩=A (I U f.u):=a 1 _ Z;have d2:u.cell? ⟨b1,off+k*3+2,Y⟩=A (O p6 Q c6):=a 2 _ Z;obtain⟨ft,z⟩:=zzy (f.u);rw[z]at d1;have h0:=(cb.o f (FZ e)).1;rw[z]at h0;obtain⟨j,rfl⟩:∃j:Nat,ft=j:=⟨ft.toNat,by omega⟩;obtain⟨W2,B⟩:=zzx (u.alloc (r9 #[I U f.id,I U (j:Int),O p6 Q c6] 47));have b4:Gl u W2:=by rw[B];exact (Fz _ u).alloc (Fy _) _
   have b5:W2.heap[u.heap.size]?=A (r9 #[I U f.id,I U (j:Int),O p6 Q c6] 47 (0,0)):=by rw[B];exact oA u _
   have b6:=hb.trans (b4.mono hb.size);have b7:=HX.o W2 b6;obtain⟨k0,k1,k2,k3,k4,k5,k6,k7,k8⟩:=gz b7;obtain⟨x0,x1,x2,_⟩:=aE b5;have X0:=fun x:Wb W2=>x.h x0
   have X1:=fun x:Wb W2=>x.h x1
   have X2:=fun x:Wb W2=>x.h x2
   have K6:=fun x:Wb W2=>x.h k6
   obtain⟨d,b8⟩:=zz2 b6 B;have cv:(k:Int)<n:=by omega
   have ch:=Hd (fun W (y:Gl w W) h=>ee.on (p:=j9 R) (W:=W) y b3 b0.o e h);obtain⟨D,ck,b9⟩:=zz3 (fun h=>HR.o.symm.trans (kM (p:=j9 R) e h)) S z;clear l a e hb b4 b5 B cc cf P S z h0 b7 q k0 k1 k2 k3 k4 k5 k6 k7 k8 x0 x1 x2;go_upto_region 4 with fail
   change Code.wp _ _ _ _ (u.alloc (r9 #[I U f.id,I U (j:Int),O p6 Q c6] 47));rw[←b8.o];clear d0 d1 d2 b8
   by_cases hA:ny≤j
   ·have cl:(ny:Int)≤(j:Int):=by omega
    have T:=Hd (D.o (zQ (by rw[L.o,b9.o];omega)));refine al (by kernel_rfl) (by kernel_rfl) ?_
    repeat (go_big_quiet_step (fail))
    refine xL ?_;intro W7 b;have s:=Hd (d.o.trans ((bw b).mono d.o.size));clear b X0 X1 X2 K6;go_wp2_with fail
    go_ret;exact⟨by rw[T.o];rfl,s.o⟩
   ·have cl:¬(ny:Int)≤(j:Int):=by omega
    have cm:j<ny:=by omega
    have cR:(j:Int)<(ny:Int):=by omega
    obtain⟨t,V⟩:∃x,R.a[j]?=A x:=⟨_,FD (by rw[L.o];exact cm)⟩;have g:=Rd.K (HY.o W2 d.o) V;rw[L.o]at g;obtain⟨b2,E,cA,vs,N,_,_,_,_,l,a⟩:=g;injection N with e1 _ e3
    subst e1;subst e3;obtain⟨rfl,_,cn⟩:=oO.1 l;have t0:W2.cell? ⟨b2,E+j*2,Y⟩=A (tS t.c):=a 0 _ Z;have t1:W2.cell? ⟨b2,E+j*2+1,Y⟩=A (I U t.a):=a 1 _ Z;have T1:=fun x:Wb W2=>x.h t1
    have X:=AB b9.o V;rw[ck.o]at X;have ad:=Hd X;obtain⟨tf,ca⟩:=zzy (t.a);rw[ca]at T1 ad;clear l a V cn t0 t1 X ca
    by_cases hE:tf=(Q:Int)
    ·subst hE;have T:=Hd (fun W y=>ch.o W y (by rw[ad.o];simp));refine al (by kernel_rfl) (by kernel_rfl) ?_
     repeat (go_big_quiet_step (fail))
     refine xL ?_;intro W7 b;have s:=Hd (T.o W7 (d.o.trans ((bw b).mono d.o.size)));clear b X0 X1 X2 K6 T1;go_wp2_with fail
     exact s.o
    ·have cp:(tf==(Q:Int))=false:=by simpa using hE
     have T:=Hd (D.o (by rw[ad.o];exact cp));refine al (by kernel_rfl) (by kernel_rfl) ?_
     repeat (go_big_quiet_step (fail))
     refine xL ?_;intro W7 b;have s:=Hd (d.o.trans ((bw b).mono d.o.size));clear b X0 X1 X2 K6 T1;go_wp2_with fail
     go_ret;exact⟨by rw[T.o];rfl,s.o⟩
  ·obtain rfl:k=n:=by omega
   obtain⟨cq,T⟩:=zz2 hb (HR.o.symm.trans (jC HN.o b0.o));clear hb;go_wp2_with fail
   go_ret;exact⟨by rw[T.o];rfl,cq.o⟩
