/- Parts of one proof, joined; conditions stand in each theorem. -/
import Derived.Test.YtmpekinjoeibbaaGreatDoorNO
import Derived.Test.YtmpekinjoeibbaaGreatDoorNW
open Go.Value renaming slice→O,int→I,string→p9
open Option renaming some→A,none→V
open Go.IntKind renaming i64→Y,u8→J
open Go.Obj renaming cells→p8
namespace Go.Proofs.YtmpekinjoeibbaaGreatDoor
set_option maxHeartbeats 4000000
set_option maxRecDepth 100000
open Go.RowKit
def za:ByteArray:=⟨#[102,97,99,116,32,112,40,97,44,32,98,41,59,32,114,117,108,101,32,114,32,123,32,112,40,63,120,44,32,49,41,59,32,112,40,63,120,44,32,63,121,41,59,32,61,62,32,97,115,115,101,114,116,32,112,40,63,121,44,32,63,120,32,43,32,49,41,59,32,114,101,116,114,97,99,116,32,50,59,32,125]⟩
def Cs:ByteArray:=⟨#[114,117,108,101,32,114,32,123,32,113,40,41,59,32,61,62,32,104,97,108,116,59,32,125]⟩
def R8:bO:=match ew za with | .ok R=>R | .error _=>⟨[],[]⟩
theorem D8:ew za=Except.ok R8:=by kernel_rfl
theorem Dy:ew Cs=Except.error (211,9):=by kernel_rfl
theorem EN:rm 30 R8=true:=by kernel_rfl
def zK(R:bO):Bool:=match R with
 | ⟨[t],[r]⟩=>decide (t.b=2)&&decide (r.b=2)&&(match r.d with
  | [_,c]=>(match c.c with
   | [a,b]=>decide (a.b=3)&&decide (b.q=1)
   | _=>false)
  | _=>false)&&(match r.e with
  | [_,x]=>decide (x.a=1)
  | _=>false)
 | _=>false
theorem BI:zK R8=true:=by kernel_rfl
theorem EL:∃t r c0 c f x a b,R8.a=[t]∧R8.b=[r]∧t.b=2∧r.b=2∧r.d=[c0,c]∧r.e=[f,x]∧x.a=1∧c.c=[a,b]∧a.b=3∧b.q=1:=by
 have h:=BI;unfold zK at h
 split at h
 ·rename_i t r g
  rw[g];simp only[Fp,oE]at h;obtain⟨⟨⟨i,j⟩,d⟩,e⟩:=h
  split at d
  ·rename_i c0 c k
   split at d
   ·rename_i a b l
    split at e
    ·rename_i f x m
     simp only[Fp,oE]at d e;exact⟨t,r,c0,c,f,x,a,b,Z,Z,i,j,k,m,e,l,d.1,d.2⟩
    ·cases e
   ·cases d
  ·cases d
 ·cases h
theorem Cr{w:World}{F:Nat→Prop}{d:Nat}{R:bO}{st sr:Value}{t:ap}{r:au}{c0 c:aK}{x0 x:bm}{a b:dF}(h1:R.a=[t])(h2:R.b=[r])(h3:r.d=[c0,c])(h4:r.e=[x0,x])(h5:c.c=[a,b])
  (ht:cN.y w F R.a st) (hr:(dP d).y w F R.b sr) :
  ∃l y C h e D m z cc bx B E k n G,st=O (A ⟨l,y,V⟩) 1 C∧sr=O (A ⟨h,e,V⟩) 1 D∧(F l∧F h∧F m∧F bx∧F k)∧
   w.cell? ⟨l,y+1,V⟩=A (I Y t.b)∧w.cell? ⟨h,e,V⟩=A (p9 r.a)∧w.cell? ⟨h,e+1,V⟩=A (I Y r.c)∧w.cell? ⟨h,e+2,V⟩=A (I Y r.b)∧
   w.cell? ⟨h,e+3,V⟩=A (O (A ⟨m,z,V⟩) 2 cc)∧w.cell? ⟨h,e+4,V⟩=A (O (A ⟨bx,B,V⟩) 2 E)∧
   w.cell? ⟨m,z+12,V⟩=A (O (A ⟨k,n,V⟩) 2 G)∧w.cell? ⟨k,n,V⟩=A (I J a.b)∧w.cell? ⟨k,n+6,V⟩=A (I Y b.q)∧w.cell? ⟨bx,B+6,V⟩=A (I Y x.a):=by
 rw[h1]at ht;rw[h2]at hr;obtain⟨l,y,C,vt,H,_,_,K,_,L,M⟩:=Rd.T (i:=0) ht Z;obtain⟨h,e,D,vr,N,_,_,P,_,Q,f⟩:=Rd.T (i:=0) hr Z;obtain⟨rfl,_⟩:=fW.1 L;obtain⟨_,_,_,sc,sa,rfl,o,p⟩:=gA.1 Q;rw[h3]at o;rw[h4]at p;obtain⟨m,z,cc,vc,S,_,_,T,_,U,q⟩:=Rd.T (i:=1) o Z;obtain⟨bx,B,E,vx,W,_,_,X,_,ad,af⟩:=Rd.T (i:=1) p Z;obtain⟨_,_,_,a6,s,rfl,g,_⟩:=gh.1 U;obtain⟨_,_,_,s',rfl,_⟩:=jn.1 ad;rw[h5]at g;obtain⟨k,n,G,va,u,_,_,ak,_,aq,ar⟩:=Rd.T (i:=0) g Z;obtain⟨a7,a8,bb,bd,j,_,_,_,_,av,a1⟩:=Rd.T (i:=1) g Z;rw[u]at j;injection j with v _ e3
 injection v with v
 injection v with v e4
 subst v;subst e4;subst e3;obtain⟨rfl,_⟩:=jx.1 aq;obtain⟨rfl,_⟩:=jx.1 av;subst S;subst W;subst u;rw[gr]at q;refine⟨l,y,C,h,e,D,m,z,cc,bx,B,E,k,n,G,H,N,⟨K,P,T,X,ak⟩,M 1 _ Z,f 0 _ Z,f 1 _ Z,f 2 _ Z,f 3 _ Z,f 4 _ Z,q 2 _ Z,ar 0 _ Z,a1 1 _ Z,af 2 _ Z⟩
theorem zl(w:World)(ht:aM w):Calls Tryz.prog 4 #[] w (ao true w):=by
 have k:=Hd (qq za w ht);rw[D8]at k;have l:=fun W (f:FS w W)=>qq Cs W (ht.C f)
 rw[Dy]at l;unfold za at k;unfold Cs at l;have K:=Hd l;obtain⟨t,r,c0,c,x0,x,a,b,q1,q2,q3,q4,q5,q6,q7,q8,q9,L⟩:=EL;have aq:=Hd EN;generalize R8=R at *;clear ht l
 go_enter Tryz.func4,Tryz.ntmps4
 go_wp2_with fail
 refine Ff k.o ?_;rintro e w1 ⟨m,st,sr,rfl,v,y⟩;obtain⟨F,M,ct,g,d,cr,G,N,cc,bx,P,cx,Q,oa,ca,rfl,rfl,⟨⟨_,F1⟩,⟨_,F2⟩,⟨_,F3⟩,⟨_,F4⟩,⟨_,F5⟩⟩,d1,d2,d3,d4,d5,d6,d7,d8,d9,d10⟩:=Cr q1 q2 q5 q6 q8 v y;rw[q3]at d1;rw[q4]at d4;rw[q9]at d8;rw[L]at d9;rw[q7]at d10
 have HX:Hid (∀W,FS w1 W→W.cell? ⟨F,M+1,V⟩=A (I Y 2)∧W.cell? ⟨g,d,V⟩=A (p9 r.a)∧W.cell? ⟨g,d+1,V⟩=A (I Y r.c)∧W.cell? ⟨g,d+2,V⟩=A (I Y 2)∧
   W.cell? ⟨g,d+3,V⟩=A (O (A ⟨G,N,V⟩) 2 cc)∧W.cell? ⟨g,d+4,V⟩=A (O (A ⟨bx,P,V⟩) 2 cx)∧
   W.cell? ⟨G,N+12,V⟩=A (O (A ⟨Q,oa,V⟩) 2 ca)∧W.cell? ⟨Q,oa,V⟩=A (I J 3)∧W.cell? ⟨Q,oa+6,V⟩=A (I Y 1)∧W.cell? ⟨bx,P+6,V⟩=A (I Y 1)):=by
  intro W f;refine⟨(f.cell (p:=⟨F,_,V⟩) F1).trans d1,(f.cell (p:=⟨g,_,V⟩) F2).trans d2,(f.cell (p:=⟨g,_,V⟩) F2).trans d3,(f.cell (p:=⟨g,_,V⟩) F2).trans d4,(f.cell (p:=⟨g,_,V⟩) F2).trans d5,(f.cell (p:=⟨g,_,V⟩) F2).trans d6,(f.cell (p:=⟨G,_,V⟩) F3).trans d7,(f.cell (p:=⟨Q,_,V⟩) F5).trans d8,(f.cell (p:=⟨Q,_,V⟩) F5).trans d9,(f.cell (p:=⟨bx,_,V⟩) F4).trans d10⟩
 have HR:Hid (∀W,FS w1 W→Calls Tryz.prog 8 #[Value.agg #[O (A ⟨F,M,V⟩) 1 ct,O (A ⟨g,d,V⟩) 1 cr]] W (ao true W)):=by
  intro W f;have:=v7 (fun b=>b<w1.heap.size) 30 R _ _ W (fun b h=>EY h f.size) (Rd.u (Rd.sb (fun b h=>h.2) v) (fun _ h=>h) f) (Rd.u (Rd.sb (fun b h=>h.2) y) (fun _ h=>h) f);rw[aq.o]at this;exact this
 obtain⟨H,n⟩:=zzx (((w1.alloc (p8 #[O (A ⟨F,M,V⟩) 1 ct,O (A ⟨g,d,V⟩) 1 cr] 26)).alloc (p8 #[I Y 0,I Y 0] 29)));have z:FS w1 H:=by rw[n];exact gi w1 _ _
 obtain⟨X0,X1,_⟩:=ay w1 (p8 #[O (A ⟨F,M,V⟩) 1 ct,O (A ⟨g,d,V⟩) 1 cr] 26) (p8 #[I Y 0,I Y 0] 29);rw[←n]at X0 X1;have bb:w1.heap.size+1<H.heap.size:=(ES.1 X1).1;obtain⟨S,T,HC,U,X⟩:=zz5 z m (K.o H (m.trans (z.mono m.size))) X0 X1;clear m v y d1 d2 d3 d4 d5 d6 d7 d8 d9 d10 z X0 X1 k K q1 q2 q3 q4 q5 q6 q7 q8 q9 L F1 F2 F3 F4 F5;go_upto_region 2 with fail
 change Code.wp _ _ _ _ ((w1.alloc (p8 #[O (A ⟨F,M,V⟩) 1 ct,O (A ⟨g,d,V⟩) 1 cr] 26)).alloc (p8 #[I Y 0,I Y 0] 29));rw[←n];clear n;go_wp2_with fail
 refine Ff HC.o ?_;rintro e B ⟨q,rfl⟩;obtain⟨j,s⟩:=zzx (((B.alloc (p8 #[O V 0 0,O V 0 0] 26)).alloc (p8 #[I Y 211,I Y 9] 29)));have ad:FS B j:=by rw[s];exact gi B _ _
 obtain⟨Y0,Y1,_⟩:=ay B (p8 #[O V 0 0,O V 0 0] 26) (p8 #[I Y 211,I Y 9] 29);rw[←s]at Y0 Y1;have bd:B.heap.size+1<j.heap.size:=(ES.1 Y1).1;have bk:H.heap.size≤B.heap.size:=q.size;have i:=q.trans (ad.mono q.size);have Z0:=ag i U.o (by omega);have Z1:=ag i X.o (by omega);obtain⟨C,af,ar,av⟩:=zz4 (S.o.trans (i.mono S.o.size)) Z0 Z1 Y1;clear q ad i U X Z0 Z1 Y0 Y1 HC;go_upto_region 3 with fail
 change Code.wp _ _ _ _ ((B.alloc (p8 #[O V 0 0,O V 0 0] 26)).alloc (p8 #[I Y 211,I Y 9] 29));rw[←s];clear s;obtain⟨a0,a1,_,_⟩:=dQ af.o;obtain⟨b0,b1,_,_⟩:=dQ ar.o;obtain⟨c0,c1,_,_⟩:=dQ av.o;obtain⟨d1,d2,d3,d4,d5,d6,_⟩:=HX.o j C.o;go_upto_region 6 with fail
 clear a0 a1 b0 b1 c0 c1 d1 d2 d3 d4 d5 d6;change Code.wp _ _ _ _ (j.alloc (p8 #[p9 r.a,I Y r.c,I Y 2,O (A ⟨G,N,V⟩) 2 cc,O (A ⟨bx,P,V⟩) 2 cx] 39));obtain⟨wC,D⟩:=zzx ((j.alloc (p8 #[p9 r.a,I Y r.c,I Y 2,O (A ⟨G,N,V⟩) 2 cc,O (A ⟨bx,P,V⟩) 2 cx] 39)));have E:FS j wC:=by rw[D];exact (EU _ j).alloc (ET _) _
 have a6:=ot j (p8 #[p9 r.a,I Y r.c,I Y 2,O (A ⟨G,N,V⟩) 2 cc,O (A ⟨bx,P,V⟩) 2 cx] 39);rw[←D]at a6 ⊢;have u:=Hd (C.o.trans (E.mono C.o.size));obtain⟨v0,v1,v2,v3,v4⟩:=cells5 a6;obtain⟨a0,a1,_,_⟩:=dQ (ag E af.o (by omega));obtain⟨d1,d2,d3,d4,d5,d6,d7,d8,d9,d10⟩:=HX.o wC u.o;have a7:=Hd (HR.o wC u.o);clear D a6 E HX HR;go_wp2_with fail
 refine Ff a7.o ?_;rintro e w3 ⟨rfl,ak⟩;have a8:=Hd (T.o.trans ((u.o.trans (ak.mono u.o.size)).mono T.o.size));clear ak;go_wp2_with fail
 go_ret;exact⟨Z,a8.o⟩
