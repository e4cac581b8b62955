/- Parts of one proof, joined; conditions stand in each theorem. -/
import Derived.Test.YtkhfjgjjhlnnnaaGreatDoorYNO
import Derived.Test.YtkhfjgjjhlnnnaaGreatDoorYNW
open Go.Value renaming slice→A,int→I,string→J
open Option renaming some→Y,none→U
open Go.IntKind renaming i64→Z,u8→O
open Go.Obj renaming cells→wq
namespace Go.Proofs.YtkhfjgjjhlnnnaaGreatDoor
set_option maxHeartbeats 4000000
set_option maxRecDepth 100000
open Go.RowKit
def yE:ByteArray:=⟨#[102,97,99,116,32,112,40,97,44,32,98,41,59,32,114,117,108,101,32,114,32,123,32,112,40,63,120,44,32,49,41,59,32,112,40,63,120,44,32,63,121,41,59,32,61,62,32,97,115,115,101,114,116,32,112,40,63,121,44,32,63,120,32,43,32,49,41,59,32,114,101,116,114,97,99,116,32,50,59,32,125]⟩
def Cm:ByteArray:=⟨#[114,117,108,101,32,114,32,123,32,113,40,41,59,32,61,62,32,104,97,108,116,59,32,125]⟩
def R8:eL:=match gV yE with | .ok R=>R | .error _=>⟨[],[]⟩
theorem D9:gV yE=Except.ok R8:=by kernel_rfl
theorem Dy:gV Cm=Except.error (211,9):=by kernel_rfl
theorem EJ:rC 30 R8=true:=by kernel_rfl
def zx(R:eL):Bool:=match R with
 | ⟨[t],[r]⟩=>decide (t.b=2)&&decide (r.b=2)&&(match r.c with
  | [_,c]=>(match c.N with
   | [a,b]=>decide (a.b=3)&&decide (b.h=1)
   | _=>false)
  | _=>false)&&(match r.d with
  | [_,x]=>decide (x.a=1)
  | _=>false)
 | _=>false
theorem Bw:zx R8=true:=by kernel_rfl
theorem EH:∃t r f c g x a b,R8.a=[t]∧R8.b=[r]∧t.b=2∧r.b=2∧r.c=[f,c]∧r.d=[g,x]∧x.a=1∧c.N=[a,b]∧a.b=3∧b.h=1:=by
 have h:=Bw;unfold zx at h
 split at h
 ·rename_i t r i
  rw[i];simp only[Ff,r7]at h;obtain⟨⟨⟨j,k⟩,d⟩,e⟩:=h
  split at d
  ·rename_i f c l
   split at d
   ·rename_i a b m
    split at e
    ·rename_i g x n
     simp only[Ff,r7]at d e;exact⟨t,r,f,c,g,x,a,b,V,V,j,k,l,n,e,m,d.1,d.2⟩
    ·cases e
   ·cases d
  ·cases d
 ·cases h
theorem Ck{w:World}{F:Nat→Prop}{d:Nat}{R:eL}{st sr:Value}{t:ae}{r:an}{c0 c:aW}{x0 x:bW}{a b:dw}(h1:R.a=[t])(h2:R.b=[r])(h3:r.c=[c0,c])(h4:r.d=[x0,x])(h5:c.N=[a,b])
  (ht:bV.K w F R.a st) (hr:(bX d).K w F R.b sr) :
  ∃l y C h e D m z E bx B G k n H,st=A (Y ⟨l,y,U⟩) 1 C∧sr=A (Y ⟨h,e,U⟩) 1 D∧(F l∧F h∧F m∧F bx∧F k)∧
   w.cell? ⟨l,y+1,U⟩=Y (I Z t.b)∧w.cell? ⟨h,e,U⟩=Y (J r.a)∧w.cell? ⟨h,e+1,U⟩=Y (I Z r.e)∧w.cell? ⟨h,e+2,U⟩=Y (I Z r.b)∧
   w.cell? ⟨h,e+3,U⟩=Y (A (Y ⟨m,z,U⟩) 2 E)∧w.cell? ⟨h,e+4,U⟩=Y (A (Y ⟨bx,B,U⟩) 2 G)∧
   w.cell? ⟨m,z+12,U⟩=Y (A (Y ⟨k,n,U⟩) 2 H)∧w.cell? ⟨k,n,U⟩=Y (I O a.b)∧w.cell? ⟨k,n+6,U⟩=Y (I Z b.h)∧w.cell? ⟨bx,B+6,U⟩=Y (I Z x.a):=by
 rw[h1]at ht;rw[h2]at hr;obtain⟨l,y,C,vt,K,_,_,L,_,M,N⟩:=Rd.tS (i:=0) ht V;obtain⟨h,e,D,vr,P,_,_,Q,_,S,f⟩:=Rd.tS (i:=0) hr V;obtain⟨rfl,_⟩:=gp.1 M;obtain⟨_,_,_,sc,sa,rfl,o,p⟩:=gY.1 S;rw[h3]at o;rw[h4]at p;obtain⟨m,z,E,vc,T,_,_,W,_,X,q⟩:=Rd.tS (i:=1) o V;obtain⟨bx,B,G,vx,ad,_,_,af,_,ak,al⟩:=Rd.tS (i:=1) p V;obtain⟨_,_,_,bb,s,rfl,g,_⟩:=fw.1 X;obtain⟨_,_,_,s',rfl,_⟩:=fP.1 ak;rw[h5]at g;obtain⟨k,n,H,va,u,_,_,aq,_,ar,av⟩:=Rd.tS (i:=0) g V;obtain⟨bd,bk,bl,bn,j,_,_,_,_,a1,a6⟩:=Rd.tS (i:=1) g V;rw[u]at j;injection j with v _ e3
 injection v with v
 injection v with v e4
 subst v;subst e4;subst e3;obtain⟨rfl,_⟩:=kl.1 ar;obtain⟨rfl,_⟩:=kl.1 a1;subst T;subst ad;subst u;rw[dP]at q;refine⟨l,y,C,h,e,D,m,z,E,bx,B,G,k,n,H,K,P,⟨L,Q,W,af,aq⟩,N 1 _ V,f 0 _ V,f 1 _ V,f 2 _ V,f 3 _ V,f 4 _ V,q 2 _ V,av 0 _ V,a6 1 _ V,al 2 _ V⟩
theorem yT(w:World)(ht:aR w):Calls Tryz.prog 6 #[] w (am true w):=by
 have k:=Hd (qG yE w ht);rw[D9]at k;have l:=fun W (f:FK w W)=>qG Cm W (ht.z f)
 rw[Dy]at l;unfold yE at k;unfold Cm at l;have L:=Hd l;obtain⟨t,r,c0,c,x0,x,a,b,q1,q2,q3,q4,q5,q6,q7,q8,q9,M⟩:=EH;have ar:=Hd EJ;generalize R8=R at *;clear ht l
 go_enter Tryz.func6,Tryz.ntmps6
 go_wp2_with fail
 refine EX k.o ?_;rintro e w1 ⟨m,st,sr,rfl,v,y⟩;obtain⟨F,N,ct,g,d,cr,G,P,cc,bx,Q,cx,S,oa,ca,rfl,rfl,⟨⟨_,F1⟩,⟨_,H⟩,⟨_,F3⟩,⟨_,F4⟩,⟨_,F5⟩⟩,d1,d2,d3,d4,d5,d6,d7,d8,d9,d10⟩:=Ck q1 q2 q5 q6 q8 v y;rw[q3]at d1;rw[q4]at d4;rw[q9]at d8;rw[M]at d9;rw[q7]at d10
 have HX:Hid (∀W,FK w1 W→W.cell? ⟨F,N+1,U⟩=Y (I Z 2)∧W.cell? ⟨g,d,U⟩=Y (J r.a)∧W.cell? ⟨g,d+1,U⟩=Y (I Z r.e)∧W.cell? ⟨g,d+2,U⟩=Y (I Z 2)∧
   W.cell? ⟨g,d+3,U⟩=Y (A (Y ⟨G,P,U⟩) 2 cc)∧W.cell? ⟨g,d+4,U⟩=Y (A (Y ⟨bx,Q,U⟩) 2 cx)∧
   W.cell? ⟨G,P+12,U⟩=Y (A (Y ⟨S,oa,U⟩) 2 ca)∧W.cell? ⟨S,oa,U⟩=Y (I O 3)∧W.cell? ⟨S,oa+6,U⟩=Y (I Z 1)∧W.cell? ⟨bx,Q+6,U⟩=Y (I Z 1)):=by
  intro W f;refine⟨(f.cell (p:=⟨F,_,U⟩) F1).trans d1,(f.cell (p:=⟨g,_,U⟩) H).trans d2,(f.cell (p:=⟨g,_,U⟩) H).trans d3,(f.cell (p:=⟨g,_,U⟩) H).trans d4,(f.cell (p:=⟨g,_,U⟩) H).trans d5,(f.cell (p:=⟨g,_,U⟩) H).trans d6,(f.cell (p:=⟨G,_,U⟩) F3).trans d7,(f.cell (p:=⟨S,_,U⟩) F5).trans d8,(f.cell (p:=⟨S,_,U⟩) F5).trans d9,(f.cell (p:=⟨bx,_,U⟩) F4).trans d10⟩
 have HR:Hid (∀W,FK w1 W→Calls Tryz.prog 17 #[Value.agg #[A (Y ⟨F,N,U⟩) 1 ct,A (Y ⟨g,d,U⟩) 1 cr]] W (am true W)):=by
  intro W f;have:=vM (fun b=>b<w1.heap.size) 30 R _ _ W (fun b h=>ET h f.size) (Rd.X (Rd.y (fun b h=>h.2) v) (fun _ h=>h) f) (Rd.X (Rd.y (fun b h=>h.2) y) (fun _ h=>h) f);rw[ar.o]at this;exact this
 obtain⟨K,n⟩:=zzx (((w1.alloc (wq #[A (Y ⟨F,N,U⟩) 1 ct,A (Y ⟨g,d,U⟩) 1 cr] 32)).alloc (wq #[I Z 0,I Z 0] 35)));have z:FK w1 K:=by rw[n];exact fU w1 _ _
 obtain⟨X0,X1,_⟩:=ap w1 (wq #[A (Y ⟨F,N,U⟩) 1 ct,A (Y ⟨g,d,U⟩) 1 cr] 32) (wq #[I Z 0,I Z 0] 35);rw[←n]at X0 X1;have bl:w1.heap.size+1<K.heap.size:=(EN.1 X1).1;obtain⟨T,X,HC,ad,af⟩:=zz5 z m (L.o K (m.trans (z.mono m.size))) X0 X1;clear m v y d1 d2 d3 d4 d5 d6 d7 d8 d9 d10 z X0 X1 k L q1 q2 q3 q4 q5 q6 q7 q8 q9 M F1 H F3 F4 F5;go_upto_region 2 with fail
 change Code.wp _ _ _ _ ((w1.alloc (wq #[A (Y ⟨F,N,U⟩) 1 ct,A (Y ⟨g,d,U⟩) 1 cr] 32)).alloc (wq #[I Z 0,I Z 0] 35));rw[←n];clear n;go_wp2_with fail
 refine EX HC.o ?_;rintro e B ⟨q,rfl⟩;obtain⟨j,s⟩:=zzx (((B.alloc (wq #[A U 0 0,A U 0 0] 32)).alloc (wq #[I Z 211,I Z 9] 35)));have ak:FK B j:=by rw[s];exact fU B _ _
 obtain⟨Y0,Y1,_⟩:=ap B (wq #[A U 0 0,A U 0 0] 32) (wq #[I Z 211,I Z 9] 35);rw[←s]at Y0 Y1;have bn:B.heap.size+1<j.heap.size:=(EN.1 Y1).1;have bq:K.heap.size≤B.heap.size:=q.size;have i:=q.trans (ak.mono q.size);have Z0:=aa i ad.o (by omega);have Z1:=aa i af.o (by omega);obtain⟨C,al,av,a6⟩:=zz4 (T.o.trans (i.mono T.o.size)) Z0 Z1 Y1;clear q ak i ad af Z0 Z1 Y0 Y1 HC;go_upto_region 3 with fail
 change Code.wp _ _ _ _ ((B.alloc (wq #[A U 0 0,A U 0 0] 32)).alloc (wq #[I Z 211,I Z 9] 35));rw[←s];clear s;obtain⟨a0,a1,_,_⟩:=eB al.o;obtain⟨b0,b1,_,_⟩:=eB av.o;obtain⟨c0,c1,_,_⟩:=eB a6.o;obtain⟨d1,d2,d3,d4,d5,d6,_⟩:=HX.o j C.o;go_upto_region 6 with fail
 clear a0 a1 b0 b1 c0 c1 d1 d2 d3 d4 d5 d6;change Code.wp _ _ _ _ (j.alloc (wq #[J r.a,I Z r.e,I Z 2,A (Y ⟨G,P,U⟩) 2 cc,A (Y ⟨bx,Q,U⟩) 2 cx] 50));obtain⟨wC,D⟩:=zzx ((j.alloc (wq #[J r.a,I Z r.e,I Z 2,A (Y ⟨G,P,U⟩) 2 cc,A (Y ⟨bx,Q,U⟩) 2 cx] 50)));have E:FK j wC:=by rw[D];exact (EP _ j).alloc (EO _) _
 have bb:=p9 j (wq #[J r.a,I Z r.e,I Z 2,A (Y ⟨G,P,U⟩) 2 cc,A (Y ⟨bx,Q,U⟩) 2 cx] 50);rw[←D]at bb ⊢;have u:=Hd (C.o.trans (E.mono C.o.size));obtain⟨v0,v1,v2,v3,v4⟩:=cells5 bb;obtain⟨a0,a1,_,_⟩:=eB (aa E al.o (by omega));obtain⟨d1,d2,d3,d4,d5,d6,d7,d8,d9,d10⟩:=HX.o wC u.o;have bd:=Hd (HR.o wC u.o);clear D bb E HX HR;go_wp2_with fail
 refine EX bd.o ?_;rintro e w3 ⟨rfl,aq⟩;have bk:=Hd (X.o.trans ((u.o.trans (aq.mono u.o.size)).mono X.o.size));clear aq;go_wp2_with fail
 go_ret;exact⟨V,bk.o⟩
