/- Parts of one proof, joined; conditions stand in each theorem. -/
import Derived.Test.YtoonjedifockoaaGreatDoorMD
import Derived.Test.YtoonjedifockoaaGreatDoorNZ
import Derived.Test.YtoonjedifockoaaGreatDoorMDD
namespace Go.Proofs.YtoonjedifockoaaGreatDoor
open Go.IntKind(i64)
open Go.Value(int string slice)
set_option maxHeartbeats 4000000
set_option maxRecDepth 100000
open Go.RowKit
theorem ov(e:ag)(g:Option Addr)(h i:Nat)(j:Option Addr)(k c2:Nat)(w:World)(y:∀W,Ft w W→Calls Tryz.prog 131 #[.agg #[int .u8 e.kind,int .u8 e.val.kind,int i64 e.val.num,.string e.val.text,int i64 e.var,int .u8 e.op,.slice g h i],.agg #[int .u8 e.kind,int .u8 e.val.kind,int i64 e.val.num,.string e.val.text,int i64 e.var,int .u8 e.op,.slice j k c2]] W (ax W))
  (l:∀W,Ft w W→Calls Tryz.prog 132 #[.slice g h i,.slice j k c2] W (ax W)):Calls Tryz.prog 129 #[.agg #[int .u8 e.kind,int .u8 e.val.kind,int i64 e.val.num,.string e.val.text,int i64 e.var,int .u8 e.op,.slice g h i],.agg #[int .u8 e.kind,int .u8 e.val.kind,int i64 e.val.num,.string e.val.text,int i64 e.var,int .u8 e.op,.slice j k c2]] w (ax w):=by
 have r:=bz w (.cells #[int .u8 e.kind,int .u8 e.val.kind,int i64 e.val.num,.string e.val.text,int i64 e.var,int .u8 e.op,.slice g h i] 50) (.cells #[int .u8 e.kind,int .u8 e.val.kind,int i64 e.val.num,.string e.val.text,int i64 e.var,int .u8 e.op,.slice j k c2] 50);obtain⟨s,t,_⟩:=am w (.cells #[int .u8 e.kind,int .u8 e.val.kind,int i64 e.val.num,.string e.val.text,int i64 e.var,int .u8 e.op,.slice g h i] 50) (.cells #[int .u8 e.kind,int .u8 e.val.kind,int i64 e.val.num,.string e.val.text,int i64 e.var,int .u8 e.op,.slice j k c2] 50);obtain⟨q,d⟩:=zzx (((w.alloc (.cells #[int .u8 e.kind,int .u8 e.val.kind,int i64 e.val.num,.string e.val.text,int i64 e.var,int .u8 e.op,.slice g h i] 50)).alloc (.cells #[int .u8 e.kind,int .u8 e.val.kind,int i64 e.val.num,.string e.val.text,int i64 e.var,int .u8 e.op,.slice j k c2] 50)));have J:w.heap.size+1<q.heap.size:=by rw[d];simp
 rw[←d]at r s t;have u:=Hd r;have m:=Hd s;have n:=Hd t;have K:=Hd y;have v:=Hd l;clear s t r y l;obtain⟨a0,a1,a2,a3,a4,a5,z⟩:=cD m.o;obtain⟨A,B,C,D,E,F,G⟩:=cD n.o
 go_enter Tryz.func129,Tryz.ntmps129
 go_wp2_with fail
 rw[←d];refine EJ (K.o q u.o) ?_;rintro M L ⟨rfl,c⟩;have f:=Hd (u.o.trans (c.mono u.o.size));have a:=aa c m.o (by omega);have b:=aa c n.o (by omega);clear a0 a1 a2 a3 a4 a5 z A B C D E F G;obtain⟨a0,a1,a2,a3,a4,a5,z⟩:=cD a;obtain⟨A,B,C,D,E,F,G⟩:=cD b;have H:=Hd a;have I:=Hd b;clear a b;clear c;go_wp2_with fail
 refine EJ (v.o L f.o) ?_;rintro N W2 ⟨rfl,p⟩;have x:=Hd (f.o.trans (p.mono f.o.size));clear p;go_wp2_with fail
 go_ret;exact⟨rfl,x.o⟩
theorem ym(e:aT)(g:Option Addr)(h i:Nat)(j:Option Addr)(k c2:Nat)(w:World)(y:∀W,Ft w W→Calls Tryz.prog 95 #[.agg #[int .u8 e.kind,int i64 e.type,int i64 e.which,.slice g h i],.agg #[int .u8 e.kind,int i64 e.type,int i64 e.which,.slice j k c2]] W (ax W))
  (l:∀W,Ft w W→Calls Tryz.prog 132 #[.slice g h i,.slice j k c2] W (ax W)):Calls Tryz.prog 94 #[.agg #[int .u8 e.kind,int i64 e.type,int i64 e.which,.slice g h i],.agg #[int .u8 e.kind,int i64 e.type,int i64 e.which,.slice j k c2]] w (ax w):=by
 have r:=bz w (.cells #[int .u8 e.kind,int i64 e.type,int i64 e.which,.slice g h i] 58) (.cells #[int .u8 e.kind,int i64 e.type,int i64 e.which,.slice j k c2] 58);obtain⟨s,t,_⟩:=am w (.cells #[int .u8 e.kind,int i64 e.type,int i64 e.which,.slice g h i] 58) (.cells #[int .u8 e.kind,int i64 e.type,int i64 e.which,.slice j k c2] 58);obtain⟨q,d⟩:=zzx (((w.alloc (.cells #[int .u8 e.kind,int i64 e.type,int i64 e.which,.slice g h i] 58)).alloc (.cells #[int .u8 e.kind,int i64 e.type,int i64 e.which,.slice j k c2] 58)));have F:w.heap.size+1<q.heap.size:=by rw[d];simp
 rw[←d]at r s t;have u:=Hd r;have m:=Hd s;have n:=Hd t;have G:=Hd y;have v:=Hd l;clear s t r y l;obtain⟨a0,a1,a2,a3⟩:=cells4 m.o;obtain⟨z,A,B,C⟩:=cells4 n.o
 go_enter Tryz.func94,Tryz.ntmps94
 go_wp2_with fail
 rw[←d];refine EJ (G.o q u.o) ?_;rintro I H ⟨rfl,c⟩;have f:=Hd (u.o.trans (c.mono u.o.size));have a:=aa c m.o (by omega);have b:=aa c n.o (by omega);clear a0 a1 a2 a3 z A B C;obtain⟨a0,a1,a2,a3⟩:=cells4 a;obtain⟨z,A,B,C⟩:=cells4 b;have D:=Hd a;have E:=Hd b;clear a b;clear c;go_wp2_with fail
 refine EJ (v.o H f.o) ?_;rintro J W2 ⟨rfl,p⟩;have x:=Hd (f.o.trans (p.mono f.o.size));clear p;go_wp2_with fail
 go_ret;exact⟨rfl,x.o⟩
theorem vF(e:aC)(m:Option Addr)(n p:Nat)(q:Option Addr)(r s:Nat)(t:Option Addr)(u c2:Nat)(x2:Option Addr)(v z2:Nat)(w:World)(Y:∀W,Ft w W→Calls Tryz.prog 93 #[.agg #[int .u8 e.kind,int i64 e.type,.slice m n p,int .u8 e.test.kind,int .u8 e.test.val.kind,int i64 e.test.val.num,.string e.test.val.text,int i64 e.test.var,int .u8 e.test.op,.slice q r s],.agg #[int .u8 e.kind,int i64 e.type,.slice t u c2,int .u8 e.test.kind,int .u8 e.test.val.kind,int i64 e.test.val.num,.string e.test.val.text,int i64 e.test.var,int .u8 e.test.op,.slice x2 v z2]] W (ax W))
  (x:∀W,Ft w W→Calls Tryz.prog 128 #[.slice m n p,.slice t u c2] W (ax W)) (y:∀W,Ft w W→Calls Tryz.prog 129 #[.agg #[int .u8 e.test.kind,int .u8 e.test.val.kind,int i64 e.test.val.num,.string e.test.val.text,int i64 e.test.var,int .u8 e.test.op,.slice q r s],.agg #[int .u8 e.test.kind,int .u8 e.test.val.kind,int i64 e.test.val.num,.string e.test.val.text,int i64 e.test.var,int .u8 e.test.op,.slice x2 v z2]] W (ax W)):Calls Tryz.prog 92 #[.agg #[int .u8 e.kind,int i64 e.type,.slice m n p,int .u8 e.test.kind,int .u8 e.test.val.kind,int i64 e.test.val.num,.string e.test.val.text,int i64 e.test.var,int .u8 e.test.op,.slice q r s],.agg #[int .u8 e.kind,int i64 e.type,.slice t u c2,int .u8 e.test.kind,int .u8 e.test.val.kind,int i64 e.test.val.num,.string e.test.val.text,int i64 e.test.var,int .u8 e.test.op,.slice x2 v z2]] w (ax w):=by
 have Q:=bz w (.cells #[int .u8 e.kind,int i64 e.type,.slice m n p,int .u8 e.test.kind,int .u8 e.test.val.kind,int i64 e.test.val.num,.string e.test.val.text,int i64 e.test.var,int .u8 e.test.op,.slice q r s] 52) (.cells #[int .u8 e.kind,int i64 e.type,.slice t u c2,int .u8 e.test.kind,int .u8 e.test.val.kind,int i64 e.test.val.num,.string e.test.val.text,int i64 e.test.var,int .u8 e.test.op,.slice x2 v z2] 52);obtain⟨R,S,_⟩:=am w (.cells #[int .u8 e.kind,int i64 e.type,.slice m n p,int .u8 e.test.kind,int .u8 e.test.val.kind,int i64 e.test.val.num,.string e.test.val.text,int i64 e.test.var,int .u8 e.test.op,.slice q r s] 52) (.cells #[int .u8 e.kind,int i64 e.type,.slice t u c2,int .u8 e.test.kind,int .u8 e.test.val.kind,int i64 e.test.val.num,.string e.test.val.text,int i64 e.test.var,int .u8 e.test.op,.slice x2 v z2] 52);obtain⟨C,k⟩:=zzx (((w.alloc (.cells #[int .u8 e.kind,int i64 e.type,.slice m n p,int .u8 e.test.kind,int .u8 e.test.val.kind,int i64 e.test.val.num,.string e.test.val.text,int i64 e.test.var,int .u8 e.test.op,.slice q r s] 52)).alloc (.cells #[int .u8 e.kind,int i64 e.type,.slice t u c2,int .u8 e.test.kind,int .u8 e.test.val.kind,int i64 e.test.val.num,.string e.test.val.text,int i64 e.test.var,int .u8 e.test.op,.slice x2 v z2] 52)));have af:w.heap.size+1<C.heap.size:=by rw[k];simp
 rw[←k]at Q R S;have T:=Hd Q;have z:=Hd R;have A:=Hd S;have HS:=Hd Y;have U:=Hd x;have V:=Hd y;clear R S Q Y x y;obtain⟨a0,a1,a2,a3,a4,a5,D,E,F,a9⟩:=bw z.o;obtain⟨G,H,I,J,K,L,M,N,O,P⟩:=bw A.o
 go_enter Tryz.func92,Tryz.ntmps92
 go_wp2_with fail
 rw[←k];refine EJ (HS.o C T.o) ?_;rintro e0 W1 ⟨rfl,f⟩;have g:=Hd (T.o.trans (f.mono T.o.size));have a:=aa f z.o (by omega);have b:=aa f A.o (by omega);clear a0 a1 a2 a3 a4 a5 D E F a9 G H I J K L M N O P;obtain⟨a0,a1,a2,a3,a4,a5,D,E,F,a9⟩:=bw a;obtain⟨G,H,I,J,K,L,M,N,O,P⟩:=bw b;have i:=Hd a;have j:=Hd b;clear a b;clear f;go_wp2_with fail
 refine EJ (U.o W1 g.o) ?_;rintro e1 W2 ⟨rfl,h⟩;have l:=Hd (g.o.trans (h.mono g.o.size));have c:=aa h i.o (by have:=g.o.size;have:=(Ez.1 i.o).1;omega);have d:=aa h j.o (by have:=(Ez.1 j.o).1;omega);clear a0 a1 a2 a3 a4 a5 D E F a9 G H I J K L M N O P;obtain⟨a0,a1,a2,a3,a4,a5,D,E,F,a9⟩:=bw c;obtain⟨G,H,I,J,K,L,M,N,O,P⟩:=bw d;have Z:=Hd c;have ad:=Hd d;clear c d;clear h;go_wp2_with fail
 refine EJ (V.o W2 l.o) ?_;rintro e2 W3 ⟨rfl,B⟩;have X:=Hd (l.o.trans (B.mono l.o.size));clear B;go_wp2_with fail
 go_ret;exact⟨rfl,X.o⟩
theorem wo(e:aj)(m:Option Addr)(n p:Nat)(q:Option Addr)(r s:Nat)(t:Option Addr)(u c2:Nat)(x2:Option Addr)(v z2:Nat)(w:World)(P:∀W,Ft w W→Calls Tryz.prog 45 #[.agg #[.string e.name,int i64 e.sal,int i64 e.vars,.slice m n p,.slice q r s],.agg #[.string e.name,int i64 e.sal,int i64 e.vars,.slice t u c2,.slice x2 v z2]] W (ax W))
  (x:∀W,Ft w W→Calls Tryz.prog 65 #[.slice m n p,.slice t u c2] W (ax W)) (y:∀W,Ft w W→Calls Tryz.prog 66 #[.slice q r s,.slice x2 v z2] W (ax W)):Calls Tryz.prog 44 #[.agg #[.string e.name,int i64 e.sal,int i64 e.vars,.slice m n p,.slice q r s],.agg #[.string e.name,int i64 e.sal,int i64 e.vars,.slice t u c2,.slice x2 v z2]] w (ax w):=by
 have I:=bz w (.cells #[.string e.name,int i64 e.sal,int i64 e.vars,.slice m n p,.slice q r s] 38) (.cells #[.string e.name,int i64 e.sal,int i64 e.vars,.slice t u c2,.slice x2 v z2] 38);obtain⟨J,K,_⟩:=am w (.cells #[.string e.name,int i64 e.sal,int i64 e.vars,.slice m n p,.slice q r s] 38) (.cells #[.string e.name,int i64 e.sal,int i64 e.vars,.slice t u c2,.slice x2 v z2] 38);obtain⟨C,k⟩:=zzx (((w.alloc (.cells #[.string e.name,int i64 e.sal,int i64 e.vars,.slice m n p,.slice q r s] 38)).alloc (.cells #[.string e.name,int i64 e.sal,int i64 e.vars,.slice t u c2,.slice x2 v z2] 38)));have S:w.heap.size+1<C.heap.size:=by rw[k];simp
 rw[←k]at I J K;have L:=Hd I;have z:=Hd J;have A:=Hd K;have T:=Hd P;have M:=Hd x;have N:=Hd y;clear J K I P x y;obtain⟨a0,a1,a2,a3,a4⟩:=cells5 z.o;obtain⟨D,E,F,G,H⟩:=cells5 A.o
 go_enter Tryz.func44,Tryz.ntmps44
 go_wp2_with fail
 rw[←k];refine EJ (T.o C L.o) ?_;rintro V U ⟨rfl,f⟩;have g:=Hd (L.o.trans (f.mono L.o.size));have a:=aa f z.o (by omega);have b:=aa f A.o (by omega);clear a0 a1 a2 a3 a4 D E F G H;obtain⟨a0,a1,a2,a3,a4⟩:=cells5 a;obtain⟨D,E,F,G,H⟩:=cells5 b;have i:=Hd a;have j:=Hd b;clear a b;clear f;go_wp2_with fail
 refine EJ (M.o U g.o) ?_;rintro X W2 ⟨rfl,h⟩;have l:=Hd (g.o.trans (h.mono g.o.size));have c:=aa h i.o (by have:=g.o.size;have:=(Ez.1 i.o).1;omega);have d:=aa h j.o (by have:=(Ez.1 j.o).1;omega);clear a0 a1 a2 a3 a4 D E F G H;obtain⟨a0,a1,a2,a3,a4⟩:=cells5 c;obtain⟨D,E,F,G,H⟩:=cells5 d;have Q:=Hd c;have R:=Hd d;clear c d;clear h;go_wp2_with fail
 refine EJ (N.o W2 l.o) ?_;rintro Y Z ⟨rfl,B⟩;have O:=Hd (l.o.trans (B.mono l.o.size));clear B;go_wp2_with fail
 go_ret;exact⟨rfl,O.o⟩
theorem uj(l:Option Addr)(m n:Nat)(p:Option Addr)(q r:Nat)(s:Option Addr)(t c2:Nat)(x2:Option Addr)(u z2:Nat)(w:World)(L:∀W,Ft w W→Calls Tryz.prog 20 #[.agg #[.slice l m n,.slice p q r],.agg #[.slice s t c2,.slice x2 u z2]] W (ax W))
  (v:∀W,Ft w W→Calls Tryz.prog 21 #[.slice l m n,.slice s t c2] W (ax W)) (x:∀W,Ft w W→Calls Tryz.prog 22 #[.slice p q r,.slice x2 u z2] W (ax W)):Calls Tryz.prog 9 #[.agg #[.slice l m n,.slice p q r],.agg #[.slice s t c2,.slice x2 u z2]] w (ax w):=by
 have E:=bz w (.cells #[.slice l m n,.slice p q r] 25) (.cells #[.slice s t c2,.slice x2 u z2] 25);obtain⟨F,G,_⟩:=am w (.cells #[.slice l m n,.slice p q r] 25) (.cells #[.slice s t c2,.slice x2 u z2] 25);obtain⟨B,j⟩:=zzx (((w.alloc (.cells #[.slice l m n,.slice p q r] 25)).alloc (.cells #[.slice s t c2,.slice x2 u z2] 25)));have O:w.heap.size+1<B.heap.size:=by rw[j];simp
 rw[←j]at E F G;have H:=Hd E;have y:=Hd F;have z:=Hd G;have P:=Hd L;have I:=Hd v;have J:=Hd x;clear F G E L v x;obtain⟨a0,a1⟩:=cells2 y.o;obtain⟨C,D⟩:=cells2 z.o
 go_enter Tryz.func9,Tryz.ntmps9
 go_wp2_with fail
 rw[←j];refine EJ (P.o B H.o) ?_;rintro R Q ⟨rfl,e⟩;have f:=Hd (H.o.trans (e.mono H.o.size));have a:=aa e y.o (by omega);have b:=aa e z.o (by omega);clear a0 a1 C D;obtain⟨a0,a1⟩:=cells2 a;obtain⟨C,D⟩:=cells2 b;have h:=Hd a;have i:=Hd b;clear a b;clear e;go_wp2_with fail
 refine EJ (I.o Q f.o) ?_;rintro S W2 ⟨rfl,g⟩;have k:=Hd (f.o.trans (g.mono f.o.size));have c:=aa g h.o (by have:=f.o.size;have:=(Ez.1 h.o).1;omega);have d:=aa g i.o (by have:=(Ez.1 i.o).1;omega);clear a0 a1 C D;obtain⟨a0,a1⟩:=cells2 c;obtain⟨C,D⟩:=cells2 d;have M:=Hd c;have N:=Hd d;clear c d;clear g;go_wp2_with fail
 refine EJ (J.o W2 k.o) ?_;rintro T U ⟨rfl,A⟩;have K:=Hd (k.o.trans (A.mono k.o.size));clear A;go_wp2_with fail
 go_ret;exact⟨rfl,K.o⟩
theorem u7(I r:Rd cg)(J:r.n=5)(K:∀w F x vs,I.at_ w F x vs→vs=[int .u8 x.kind,int i64 x.var,int .u8 x.val.kind,int i64 x.val.num,.string x.val.text])(L:∀w F x vs,r.at_ w F x vs→vs=[int .u8 x.kind,int i64 x.var,int .u8 x.val.kind,int i64 x.val.num,.string x.val.text])
  (M:∀m,m<12→∀w,r.at_ w (fun _=>False) (jR (db m)) [int .u8 0,int i64 (8000024+(m:Int)),int .u8 0,int i64 0,string ⟨#[]⟩]) (xs:List cg) (u v:Value) (w:World) (hu:(bJ I r (marks jR)).at_ w (fun b=>b<w.heap.size) xs [u]) (hv:r.row w (fun b=>b<w.heap.size) xs v) (ad:xs.length≤20000) :
  Calls Tryz.prog 128 #[u,v] w (ax w):=by
 obtain⟨n,hn⟩:=zzy (xs.length);obtain⟨g,A,af,ak,N,O,D⟩:=hu;obtain⟨p,c,P⟩:=Rd.row_shape hv;injection A with A _
 rw[dQ]at A N;rw[hn]at A P ad N D;subst A;subst P;have HN:=Hd hn;have Q:=Hd O;have R:=Hd D;have S:=Hd (fun W (hW:Ft w W)=>Rd.row_below hv (fun _ h=>h) hW);have E:=Hd J;have an:=Hd K;have T:=Hd L;have aq:=Hd M;have HM:=Hd (fun i W (hi:i≤100)=>nS i W hi);clear hv hn O D J K L M af
 go_enter Tryz.func128,Tryz.ntmps128
 go_wp2_with fail
 go_loopw [6] (ie w (n+12)) (fun i _=>n+12-(intOf i).toNat)
 case atStart=>exact⟨_,0,rfl,EM _,rfl,EB _ _⟩
 case round =>
  obtain⟨f,k,rfl,hk,rfl,t⟩:=hrel;have bc:(0:Int)≤k:=by omega
  have j:∀m z,w.cell? ⟨g,m,none⟩=some z→f.cell? ⟨g,m,none⟩=some z:=fun m z h=>(t.cell (p:=⟨g,m,none⟩) ak).trans h
  by_cases U:k<n
  ·have ar:(k:Int)<n:=by omega
   have av:(k:Int)<(n:Int)+12:=by omega
   have V:decide ((n:Int)≤(k:Int))=false:=by simp;omega
   have X:decide (n≤k)=false:=by simp;omega
   obtain⟨x,hx⟩:∃x,xs[k]?=some x:=⟨xs[k]'(by rw[HN.o];exact U),EE (by rw[HN.o];exact U)⟩;obtain⟨us,q,a⟩:=Q.o k x hx;rw[E.o]at a;have Y:=Rd.row_at (S.o f t) hx;rw[HN.o]at Y;obtain⟨b,off,cap,vs,a1,_,_,_,_,B,d⟩:=Y;injection a1 with e1 _ e3
   subst e1;subst e3;rw[E.o]at d;have l:I.at_ f (fun b=>b<f.heap.size) x us:=I.sub (fun b (h:b<w.heap.size)=>EF h t.size) (I.keep (fun b (h:b<w.heap.size) o ho=>(t.block b h).trans ho) q);have Z:=Hd l;have a8:=Hd B;obtain rfl:=an.o _ _ _ _ q;obtain rfl:=T.o _ _ _ _ B;have c0:f.cell? ⟨g,k*5,none⟩=some (int .u8 x.kind):=j _ _ (a 0 _ rfl);have c1:f.cell? ⟨g,k*5+1,none⟩=some (int i64 x.var):=j _ _ (a 1 _ rfl);have c2:f.cell? ⟨g,k*5+2,none⟩=some (int .u8 x.val.kind):=j _ _ (a 2 _ rfl);have c3:f.cell? ⟨g,k*5+3,none⟩=some (int i64 x.val.num):=j _ _ (a 3 _ rfl);have c4:f.cell? ⟨g,k*5+4,none⟩=some (.string x.val.text):=j _ _ (a 4 _ rfl);have d0:f.cell? ⟨b,off+k*5,none⟩=some (int .u8 x.kind):=d 0 _ rfl;have d1:f.cell? ⟨b,off+k*5+1,none⟩=some (int i64 x.var):=d 1 _ rfl;have d2:f.cell? ⟨b,off+k*5+2,none⟩=some (int .u8 x.val.kind):=d 2 _ rfl;have d3:f.cell? ⟨b,off+k*5+3,none⟩=some (int i64 x.val.num):=d 3 _ rfl;have d4:f.cell? ⟨b,off+k*5+4,none⟩=some (.string x.val.text):=d 4 _ rfl;have C0:=fun y:Wb f=>y.cell c0
   have D0:=fun y:Wb f=>y.cell d0
   have C1:=fun y:Wb f=>y.cell c1
   have D1:=fun y:Wb f=>y.cell d1
   have C2:=fun y:Wb f=>y.cell c2
   have D2:=fun y:Wb f=>y.cell d2
   have C3:=fun y:Wb f=>y.cell c3
   have D3:=fun y:Wb f=>y.cell d3
   have C4:=fun y:Wb f=>y.cell c4
   have D4:=fun y:Wb f=>y.cell d4
   have s:=Hd t;clear t hx q B l a d j c0 c1 c2 c3 c4 d0 d1 d2 d3 d4;go_wp2_with fail
   refine ae (by kernel_rfl) (by kernel_rfl) ?_
   repeat (go_big_quiet_step (fail))
   refine wpQuiet_nil ?_;intro _ G;obtain⟨⟨W2,C⟩,rfl⟩:=G;have H:=Hd (s.o.trans (C.mono s.o.size));clear C C0 C1 C2 C3 C4 D0 D1 D2 D3 D4;go_wp2_with fail
   exact⟨⟨_,k+1,rfl,by omega,by go_num,H.o⟩,by simp[intOf];omega⟩
  ·by_cases ba:k<n+12
   ·have ar:decide ((k:Int)<(n:Int))=false:=by simp;omega
    have bd:decide (k<n)=false:=by simp;omega
    have av:(k:Int)<(n:Int)+12:=by omega
    have V:(n:Int)≤k:=by omega
    have X:decide ((n:Int)≤(k:Int))=true:=by simp;omega
    have bb:decide (n≤k)=true:=by simp;omega
    obtain⟨us,q,a⟩:=R.o (k-n) _ (il jR (by omega));rw[show n+(k-n)=k by omega,E.o]at a;have l:r.at_ f (fun b=>b<f.heap.size) (jR (db (k-n))) us:=r.sub (fun b (h:b<w.heap.size)=>EF h t.size) (r.keep (fun b (h:b<w.heap.size) o ho=>(t.block b h).trans ho) q);have Z:=Hd l;have a6:=Hd (fun W=>aq.o (k-n) (by omega) W);obtain rfl:=T.o _ _ _ _ q;have c0:f.cell? ⟨g,k*5,none⟩=some (int .u8 0):=j _ _ (a 0 _ rfl);have c1:f.cell? ⟨g,k*5+1,none⟩=some (int i64 (8000024+((k-n:Nat):Int))):=j _ _ (a 1 _ rfl);have c2:f.cell? ⟨g,k*5+2,none⟩=some (int .u8 0):=j _ _ (a 2 _ rfl);have c3:f.cell? ⟨g,k*5+3,none⟩=some (int i64 0):=j _ _ (a 3 _ rfl);have c4:f.cell? ⟨g,k*5+4,none⟩=some (string ⟨#[]⟩):=j _ _ (a 4 _ rfl);have a7:Hid (∀W,Calls Tryz.prog 160 #[int i64 1,int i64 ((k:Int)-n)] W fun e w'=>e=.returned (.agg #[int .u8 0,int i64 (8000024+((k-n:Nat):Int)),int .u8 0,int i64 0,string ⟨#[]⟩])∧Ft W w'):=by
     show ∀W,_
     intro W;have e:((k:Int)-n)=((k-n:Nat):Int):=by omega
     rw[e];exact HM.o (k-n) W (by omega)
    have s:=Hd t;clear t q l a j HM Q R Z a6;generalize (8000024+((k-n:Nat):Int))=z at *;have C0:=fun y:Wb f=>y.cell c0
    have C1:=fun y:Wb f=>y.cell c1
    have C2:=fun y:Wb f=>y.cell c2
    have C3:=fun y:Wb f=>y.cell c3
    have C4:=fun y:Wb f=>y.cell c4
    clear c0 c1 c2 c3 c4;go_wp2_with fail
    refine ae (by kernel_rfl) (by kernel_rfl) ?_
    repeat (go_big_quiet_step (first|(go_at_call 160;exact Calls.below_of (a7.o _))))
    refine wpQuiet_nil ?_;intro _ G;obtain⟨⟨W2,C⟩,rfl⟩:=G;have H:=Hd (s.o.trans (C.mono s.o.size));clear C C0 C1 C2 C3 C4;go_wp2_with fail
    exact⟨⟨_,k+1,rfl,by omega,by go_num,H.o⟩,by simp[intOf];omega⟩
   ·obtain rfl:k=n+12:=by omega
    have s:=Hd t;clear t j;have V:decide ((n:Int)+12<(n:Int)+12)=false:=by simp
    go_wp2_with fail
    go_ret;exact⟨rfl,s.o⟩
theorem tY(I r:Rd ai)(J:r.n=2)(K:∀w F x vs,I.at_ w F x vs→vs=[.string x.name,int i64 x.fields])(L:∀w F x vs,r.at_ w F x vs→vs=[.string x.name,int i64 x.fields])
  (M:∀m,m<12→∀w,r.at_ w (fun _=>False) (eW (db m)) [string ⟨#[]⟩,int i64 (8000024+(m:Int))]) (xs:List ai) (u v:Value) (w:World) (hu:(bJ I r (marks eW)).at_ w (fun b=>b<w.heap.size) xs [u]) (hv:r.row w (fun b=>b<w.heap.size) xs v) (ad:xs.length≤20000) :
  Calls Tryz.prog 21 #[u,v] w (ax w):=by
 obtain⟨n,hn⟩:=zzy (xs.length);obtain⟨g,A,af,ak,N,O,D⟩:=hu;obtain⟨p,c,P⟩:=Rd.row_shape hv;injection A with A _
 rw[dQ]at A N;rw[hn]at A P ad N D;subst A;subst P;have HN:=Hd hn;have Q:=Hd O;have R:=Hd D;have S:=Hd (fun W (hW:Ft w W)=>Rd.row_below hv (fun _ h=>h) hW);have E:=Hd J;have an:=Hd K;have T:=Hd L;have aq:=Hd M;have HM:=Hd (fun i W (hi:i≤100)=>mP i W hi);clear hv hn O D J K L M af
 go_enter Tryz.func21,Tryz.ntmps21
 go_wp2_with fail
 go_loopw [6] (ie w (n+12)) (fun i _=>n+12-(intOf i).toNat)
 case atStart=>exact⟨_,0,rfl,EM _,rfl,EB _ _⟩
 case round =>
  obtain⟨f,k,rfl,hk,rfl,t⟩:=hrel;have bc:(0:Int)≤k:=by omega
  have l:∀m z,w.cell? ⟨g,m,none⟩=some z→f.cell? ⟨g,m,none⟩=some z:=fun m z h=>(t.cell (p:=⟨g,m,none⟩) ak).trans h
  by_cases U:k<n
  ·have ar:(k:Int)<n:=by omega
   have av:(k:Int)<(n:Int)+12:=by omega
   have V:decide ((n:Int)≤(k:Int))=false:=by simp;omega
   have X:decide (n≤k)=false:=by simp;omega
   obtain⟨x,hx⟩:∃x,xs[k]?=some x:=⟨xs[k]'(by rw[HN.o];exact U),EE (by rw[HN.o];exact U)⟩;obtain⟨us,q,a⟩:=Q.o k x hx;rw[E.o]at a;have Y:=Rd.row_at (S.o f t) hx;rw[HN.o]at Y;obtain⟨b,off,cap,vs,a1,_,_,_,_,B,d⟩:=Y;injection a1 with e1 _ e3
   subst e1;subst e3;rw[E.o]at d;have j:I.at_ f (fun b=>b<f.heap.size) x us:=I.sub (fun b (h:b<w.heap.size)=>EF h t.size) (I.keep (fun b (h:b<w.heap.size) o ho=>(t.block b h).trans ho) q);have Z:=Hd j;have a8:=Hd B;obtain rfl:=an.o _ _ _ _ q;obtain rfl:=T.o _ _ _ _ B;have c0:f.cell? ⟨g,k*2,none⟩=some (.string x.name):=l _ _ (a 0 _ rfl);have c1:f.cell? ⟨g,k*2+1,none⟩=some (int i64 x.fields):=l _ _ (a 1 _ rfl);have d0:f.cell? ⟨b,off+k*2,none⟩=some (.string x.name):=d 0 _ rfl;have d1:f.cell? ⟨b,off+k*2+1,none⟩=some (int i64 x.fields):=d 1 _ rfl;have C0:=fun y:Wb f=>y.cell c0
   have D0:=fun y:Wb f=>y.cell d0
   have C1:=fun y:Wb f=>y.cell c1
   have D1:=fun y:Wb f=>y.cell d1
   have s:=Hd t;clear t hx q B j a d l c0 c1 d0 d1;go_wp2_with fail
   refine ae (by kernel_rfl) (by kernel_rfl) ?_
   repeat (go_big_quiet_step (fail))
   refine wpQuiet_nil ?_;intro _ G;obtain⟨⟨W2,C⟩,rfl⟩:=G;have H:=Hd (s.o.trans (C.mono s.o.size));clear C C0 C1 D0 D1;go_wp2_with fail
   exact⟨⟨_,k+1,rfl,by omega,by go_num,H.o⟩,by simp[intOf];omega⟩
  ·by_cases ba:k<n+12
   ·have ar:decide ((k:Int)<(n:Int))=false:=by simp;omega
    have bd:decide (k<n)=false:=by simp;omega
    have av:(k:Int)<(n:Int)+12:=by omega
    have V:(n:Int)≤k:=by omega
    have X:decide ((n:Int)≤(k:Int))=true:=by simp;omega
    have bb:decide (n≤k)=true:=by simp;omega
    obtain⟨us,q,a⟩:=R.o (k-n) _ (il eW (by omega));rw[show n+(k-n)=k by omega,E.o]at a;have j:r.at_ f (fun b=>b<f.heap.size) (eW (db (k-n))) us:=r.sub (fun b (h:b<w.heap.size)=>EF h t.size) (r.keep (fun b (h:b<w.heap.size) o ho=>(t.block b h).trans ho) q);have Z:=Hd j;have a6:=Hd (fun W=>aq.o (k-n) (by omega) W);obtain rfl:=T.o _ _ _ _ q;have c0:f.cell? ⟨g,k*2,none⟩=some (string ⟨#[]⟩):=l _ _ (a 0 _ rfl);have c1:f.cell? ⟨g,k*2+1,none⟩=some (int i64 (8000024+((k-n:Nat):Int))):=l _ _ (a 1 _ rfl);have a7:Hid (∀W,Calls Tryz.prog 25 #[int i64 1,int i64 ((k:Int)-n)] W fun e w'=>e=.returned (.agg #[string ⟨#[]⟩,int i64 (8000024+((k-n:Nat):Int))])∧Ft W w'):=by
     show ∀W,_
     intro W;have e:((k:Int)-n)=((k-n:Nat):Int):=by omega
     rw[e];exact HM.o (k-n) W (by omega)
    have s:=Hd t;clear t q j a l HM Q R Z a6;generalize (8000024+((k-n:Nat):Int))=z at *;have C0:=fun y:Wb f=>y.cell c0
    have C1:=fun y:Wb f=>y.cell c1
    clear c0 c1;go_wp2_with fail
    refine ae (by kernel_rfl) (by kernel_rfl) ?_
    repeat (go_big_quiet_step (first|(go_at_call 25;exact Calls.below_of (a7.o _))))
    refine wpQuiet_nil ?_;intro _ G;obtain⟨⟨W2,C⟩,rfl⟩:=G;have H:=Hd (s.o.trans (C.mono s.o.size));clear C C0 C1;go_wp2_with fail
    exact⟨⟨_,k+1,rfl,by omega,by go_num,H.o⟩,by simp[intOf];omega⟩
   ·obtain rfl:k=n+12:=by omega
    have s:=Hd t;clear t l;have V:decide ((n:Int)+12<(n:Int)+12)=false:=by simp
    go_wp2_with fail
    go_ret;exact⟨rfl,s.o⟩
theorem mF(N r:Rd ag)(X:r.n=7)(Y:∀w F x vs,N.at_ w F x vs→∃O P Q,vs=[int .u8 x.kind,int .u8 x.val.kind,int i64 x.val.num,.string x.val.text,int i64 x.var,int .u8 x.op,.slice O P Q])(Z:∀w F x vs,r.at_ w F x vs→∃O P Q,vs=[int .u8 x.kind,int .u8 x.val.kind,int i64 x.val.num,.string x.val.text,int i64 x.var,int .u8 x.op,.slice O P Q])
  (ad:∀m,m<12→∀w,r.at_ w (fun _=>False) (fw (db m)) [int .u8 0,int .u8 0,int i64 0,string ⟨#[]⟩,int i64 (8000024+(m:Int)),int .u8 0,slice none 0 0]) (xs:List ag) (u v:Value) (w:World) (hu:(bJ N r (marks fw)).at_ w (fun b=>b<w.heap.size) xs [u]) (hv:r.row w (fun b=>b<w.heap.size) xs v) (b0:xs.length≤20000) (hS:gj r 131)
  (af:∀x∈xs,∀W vs ak,Ft w W→N.at_ W (fun b=>b<W.heap.size) x vs→r.at_ W (fun b=>b<W.heap.size) x ak→Calls Tryz.prog 129 #[.agg vs.toArray,.agg ak.toArray] W (ax W)) :
  Calls Tryz.prog 132 #[u,v] w (ax w):=by
 obtain⟨n,hn⟩:=zzy (xs.length);obtain⟨g,A,b1,b2,an,aq,R⟩:=hu;obtain⟨p,c,ar⟩:=Rd.row_shape hv;injection A with A _
 rw[dQ]at A an;rw[hn]at A ar b0 an R;subst A;subst ar;have HN:=Hd hn;have av:=Hd aq;have a1:=Hd R;have a6:=Hd (fun W (hW:Ft w W)=>Rd.row_below hv (fun _ h=>h) hW);have S:=Hd X;have b3:=Hd Y;have a7:=Hd Z;have b4:=Hd ad;have HM:=Hd (fun i W (hi:i≤100)=>mx i W hi);have HS:=Hd hS;have b5:=Hd af;clear hv hn aq R X Y Z ad hS af b1
 go_enter Tryz.func132,Tryz.ntmps132
 go_wp2_with fail
 go_loopw [6] (ie w (n+12)) (fun i _=>n+12-(intOf i).toNat)
 case atStart=>exact⟨_,0,rfl,EM _,rfl,EB _ _⟩
 case round =>
  obtain⟨d,k,rfl,hk,rfl,q⟩:=hrel;have ck:(0:Int)≤k:=by omega
  have j:∀m z,w.cell? ⟨g,m,none⟩=some z→d.cell? ⟨g,m,none⟩=some z:=fun m z h=>(q.cell (p:=⟨g,m,none⟩) b2).trans h
  by_cases a8:k<n
  ·have b6:(k:Int)<n:=by omega
   have b7:(k:Int)<(n:Int)+12:=by omega
   have ba:decide ((n:Int)≤(k:Int))=false:=by simp;omega
   have bb:decide (n≤k)=false:=by simp;omega
   obtain⟨x,hx⟩:∃x,xs[k]?=some x:=⟨xs[k]'(by rw[HN.o];exact a8),EE (by rw[HN.o];exact a8)⟩;obtain⟨us,s,a⟩:=av.o k x hx;rw[S.o]at a;have bc:=Rd.row_at (a6.o d q) hx;rw[HN.o]at bc;obtain⟨b,off,cap,vs,b8,_,_,_,_,B,f⟩:=bc;injection b8 with e1 _ e3
   subst e1;subst e3;rw[S.o]at f;have l:N.at_ d (fun b=>b<d.heap.size) x us:=N.sub (fun b (h:b<w.heap.size)=>EF h q.size) (N.keep (fun b (h:b<w.heap.size) o L=>(q.block b h).trans L) s);have M:=Hd l;have bd:=Hd B;obtain⟨O,P,Q,rfl⟩:=b3.o _ _ _ _ s;obtain⟨q2,l2,c2,rfl⟩:=a7.o _ _ _ _ B;have C:d.cell? ⟨g,k*7,none⟩=some (int .u8 x.kind):=j _ _ (a 0 _ rfl);have D:d.cell? ⟨g,k*7+1,none⟩=some (int .u8 x.val.kind):=j _ _ (a 1 _ rfl);have E:d.cell? ⟨g,k*7+2,none⟩=some (int i64 x.val.num):=j _ _ (a 2 _ rfl);have G:d.cell? ⟨g,k*7+3,none⟩=some (.string x.val.text):=j _ _ (a 3 _ rfl);have H:d.cell? ⟨g,k*7+4,none⟩=some (int i64 x.var):=j _ _ (a 4 _ rfl);have I:d.cell? ⟨g,k*7+5,none⟩=some (int .u8 x.op):=j _ _ (a 5 _ rfl);have J:d.cell? ⟨g,k*7+6,none⟩=some (.slice O P Q):=j _ _ (a 6 _ rfl);have bk:d.cell? ⟨b,off+k*7,none⟩=some (int .u8 x.kind):=f 0 _ rfl;have bl:d.cell? ⟨b,off+k*7+1,none⟩=some (int .u8 x.val.kind):=f 1 _ rfl;have bn:d.cell? ⟨b,off+k*7+2,none⟩=some (int i64 x.val.num):=f 2 _ rfl;have bq:d.cell? ⟨b,off+k*7+3,none⟩=some (.string x.val.text):=f 3 _ rfl;have br:d.cell? ⟨b,off+k*7+4,none⟩=some (int i64 x.var):=f 4 _ rfl;have bt:d.cell? ⟨b,off+k*7+5,none⟩=some (int .u8 x.op):=f 5 _ rfl;have bB:d.cell? ⟨b,off+k*7+6,none⟩=some (.slice q2 l2 c2):=f 6 _ rfl;have C0:=fun y:Wb d=>y.cell C
   have D0:=fun y:Wb d=>y.cell bk
   have C1:=fun y:Wb d=>y.cell D
   have D1:=fun y:Wb d=>y.cell bl
   have C2:=fun y:Wb d=>y.cell E
   have D2:=fun y:Wb d=>y.cell bn
   have C3:=fun y:Wb d=>y.cell G
   have D3:=fun y:Wb d=>y.cell bq
   have C4:=fun y:Wb d=>y.cell H
   have D4:=fun y:Wb d=>y.cell br
   have C5:=fun y:Wb d=>y.cell I
   have D5:=fun y:Wb d=>y.cell bt
   have C6:=fun y:Wb d=>y.cell J
   have D6:=fun y:Wb d=>y.cell bB
   have T:=Hd (fun y:Wb d=>b5.o x (EU hx) y.1 _ _ (q.trans (y.2.mono q.size)) (N.sub (fun b (h:b<d.heap.size)=>EF h y.2.size) (N.keep (fun b (h:b<d.heap.size) o L=>(y.2.block b h).trans L) M.o))
    (r.sub (fun b (h:b<w.heap.size)=>EF h (EG q.size y.2.size)) (r.keep (fun b (h:b<w.heap.size) o L=>(y.2.block b (EF h q.size)).trans L) bd.o)))
   have t:=Hd q;clear q hx s B l a f j C D E G H I J bk bl bn bq br bt bB;go_wp2_with fail
   refine ae (by kernel_rfl) (by kernel_rfl) ?_
   repeat (go_big_quiet_step ((go_at_call 129;exact Calls.below_of (T.o _))))
   refine wpQuiet_nil ?_;intro _ U;obtain⟨⟨W2,K⟩,rfl⟩:=U;have V:=Hd (t.o.trans (K.mono t.o.size));clear K C0 C1 C2 C3 C4 C5 C6 D0 D1 D2 D3 D4 D5 D6;go_wp2_with fail
   exact⟨⟨_,k+1,rfl,by omega,by go_num,V.o⟩,by simp[intOf];omega⟩
  ·by_cases cc:k<n+12
   ·have b6:decide ((k:Int)<(n:Int))=false:=by simp;omega
    have cl:decide (k<n)=false:=by simp;omega
    have b7:(k:Int)<(n:Int)+12:=by omega
    have ba:(n:Int)≤k:=by omega
    have bb:decide ((n:Int)≤(k:Int))=true:=by simp;omega
    have ch:decide (n≤k)=true:=by simp;omega
    obtain⟨us,s,a⟩:=a1.o (k-n) _ (il fw (by omega));rw[show n+(k-n)=k by omega,S.o]at a;have l:r.at_ d (fun b=>b<d.heap.size) (fw (db (k-n))) us:=r.sub (fun b (h:b<w.heap.size)=>EF h q.size) (r.keep (fun b (h:b<w.heap.size) o L=>(q.block b h).trans L) s);have M:=Hd l;have bR:=Hd (fun W=>b4.o (k-n) (by omega) W);obtain⟨O,P,Q,rfl⟩:=a7.o _ _ _ _ s;have C:d.cell? ⟨g,k*7,none⟩=some (int .u8 0):=j _ _ (a 0 _ rfl);have D:d.cell? ⟨g,k*7+1,none⟩=some (int .u8 0):=j _ _ (a 1 _ rfl);have E:d.cell? ⟨g,k*7+2,none⟩=some (int i64 0):=j _ _ (a 2 _ rfl);have G:d.cell? ⟨g,k*7+3,none⟩=some (string ⟨#[]⟩):=j _ _ (a 3 _ rfl);have H:d.cell? ⟨g,k*7+4,none⟩=some (int i64 (8000024+((k-n:Nat):Int))):=j _ _ (a 4 _ rfl);have I:d.cell? ⟨g,k*7+5,none⟩=some (int .u8 0):=j _ _ (a 5 _ rfl);have J:d.cell? ⟨g,k*7+6,none⟩=some (.slice O P Q):=j _ _ (a 6 _ rfl);have b9:Hid (∀W,Calls Tryz.prog 161 #[int i64 1,int i64 ((k:Int)-n)] W fun e w'=>e=.returned (.agg #[int .u8 0,int .u8 0,int i64 0,string ⟨#[]⟩,int i64 (8000024+((k-n:Nat):Int)),int .u8 0,slice none 0 0])∧Ft W w'):=by
     show ∀W,_
     intro W;have e:((k:Int)-n)=((k-n:Nat):Int):=by omega
     rw[e];exact HM.o (k-n) W (by omega)
    have ca:Hid (∀y:Wb d,Calls Tryz.prog 131 #[.agg #[int .u8 0,int .u8 0,int i64 0,string ⟨#[]⟩,int i64 (8000024+((k-n:Nat):Int)),int .u8 0,.slice O P Q],.agg #[int .u8 0,int .u8 0,int i64 0,string ⟨#[]⟩,int i64 (8000024+((k-n:Nat):Int)),int .u8 0,slice none 0 0]] y.1 (ax y.1)):=fun y=>HS.o _ _ _ y.1 (r.sub (fun b (h:b<d.heap.size)=>EF h y.2.size) (r.keep (fun b (h:b<d.heap.size) o L=>(y.2.block b h).trans L) M.o)) (r.sub (fun b (h:False)=>h.elim) (bR.o y.1))
    have t:=Hd q;clear q s l a j HM av a1 M bR;generalize (8000024+((k-n:Nat):Int))=z at *;have C0:=fun y:Wb d=>y.cell C
    have C1:=fun y:Wb d=>y.cell D
    have C2:=fun y:Wb d=>y.cell E
    have C3:=fun y:Wb d=>y.cell G
    have C4:=fun y:Wb d=>y.cell H
    have C5:=fun y:Wb d=>y.cell I
    have C6:=fun y:Wb d=>y.cell J
    clear C D E G H I J;go_wp2_with fail
    refine ae (by kernel_rfl) (by kernel_rfl) ?_
    repeat (go_big_quiet_step ((first|(go_at_call 161;exact Calls.below_of (b9.o _))|(go_at_call 131;exact Calls.below_of (ca.o _)))))
    refine wpQuiet_nil ?_;intro _ U;obtain⟨⟨W2,K⟩,rfl⟩:=U;have V:=Hd (t.o.trans (K.mono t.o.size));clear K C0 C1 C2 C3 C4 C5 C6;go_wp2_with fail
    exact⟨⟨_,k+1,rfl,by omega,by go_num,V.o⟩,by simp[intOf];omega⟩
   ·obtain rfl:k=n+12:=by omega
    have t:=Hd q;clear q j;have ba:decide ((n:Int)+12<(n:Int)+12)=false:=by simp
    go_wp2_with fail
    go_ret;exact⟨rfl,t.o⟩
theorem tw(Q r:Rd aC)(an:r.n=10)(aq:∀w F x vs,Q.at_ w F x vs→∃R S T U V X,vs=[int .u8 x.kind,int i64 x.type,.slice R S T,int .u8 x.test.kind,int .u8 x.test.val.kind,int i64 x.test.val.num,.string x.test.val.text,int i64 x.test.var,int .u8 x.test.op,.slice U V X])(ar:∀w F x vs,r.at_ w F x vs→∃R S T U V X,vs=[int .u8 x.kind,int i64 x.type,.slice R S T,int .u8 x.test.kind,int .u8 x.test.val.kind,int i64 x.test.val.num,.string x.test.val.text,int i64 x.test.var,int .u8 x.test.op,.slice U V X])
  (av:∀m,m<12→∀w,r.at_ w (fun _=>False) (jn (db m)) [int .u8 0,int i64 (8000024+(m:Int)),slice none 0 0,int .u8 0,int .u8 0,int i64 0,string ⟨#[]⟩,int i64 0,int .u8 0,slice none 0 0]) (xs:List aC) (u v:Value) (w:World) (hu:(bJ Q r (marks jn)).at_ w (fun b=>b<w.heap.size) xs [u]) (hv:r.row w (fun b=>b<w.heap.size) xs v) (b9:xs.length≤20000) (hS:gj r 93)
  (a1:∀x∈xs,∀W vs a6,Ft w W→Q.at_ W (fun b=>b<W.heap.size) x vs→r.at_ W (fun b=>b<W.heap.size) x a6→Calls Tryz.prog 92 #[.agg vs.toArray,.agg a6.toArray] W (ax W)) :
  Calls Tryz.prog 65 #[u,v] w (ax w):=by
 obtain⟨n,hn⟩:=zzy (xs.length);obtain⟨g,A,ca,cc,a7,a8,Y⟩:=hu;obtain⟨p,c,ba⟩:=Rd.row_shape hv;injection A with A _
 rw[dQ]at A a7;rw[hn]at A ba b9 a7 Y;subst A;subst ba;have HN:=Hd hn;have bb:=Hd a8;have bc:=Hd Y;have bd:=Hd (fun W (hW:Ft w W)=>Rd.row_below hv (fun _ h=>h) hW);have Z:=Hd an;have ch:=Hd aq;have bk:=Hd ar;have ck:=Hd av;have HM:=Hd (fun i W (hi:i≤100)=>mq i W hi);have HS:=Hd hS;have cl:=Hd a1;clear hv hn a8 Y an aq ar av hS a1 ca
 go_enter Tryz.func65,Tryz.ntmps65
 go_wp2_with fail
 go_loopw [6] (ie w (n+12)) (fun i _=>n+12-(intOf i).toNat)
 case atStart=>exact⟨_,0,rfl,EM _,rfl,EB _ _⟩
 case round =>
  obtain⟨d,k,rfl,hk,rfl,q⟩:=hrel;have cR:(0:Int)≤k:=by omega
  have j:∀m z,w.cell? ⟨g,m,none⟩=some z→d.cell? ⟨g,m,none⟩=some z:=fun m z h=>(q.cell (p:=⟨g,m,none⟩) cc).trans h
  by_cases bl:k<n
  ·have cq:(k:Int)<n:=by omega
   have cr:(k:Int)<(n:Int)+12:=by omega
   have bn:decide ((n:Int)≤(k:Int))=false:=by simp;omega
   have bq:decide (n≤k)=false:=by simp;omega
   obtain⟨x,hx⟩:∃x,xs[k]?=some x:=⟨xs[k]'(by rw[HN.o];exact bl),EE (by rw[HN.o];exact bl)⟩;obtain⟨us,s,a⟩:=bb.o k x hx;rw[Z.o]at a;have br:=Rd.row_at (bd.o d q) hx;rw[HN.o]at br;obtain⟨b,off,cap,vs,ct,_,_,_,_,B,f⟩:=br;injection ct with e1 _ e3
   subst e1;subst e3;rw[Z.o]at f;have l:Q.at_ d (fun b=>b<d.heap.size) x us:=Q.sub (fun b (h:b<w.heap.size)=>EF h q.size) (Q.keep (fun b (h:b<w.heap.size) o O=>(q.block b h).trans O) s);have P:=Hd l;have bt:=Hd B;obtain⟨R,S,T,U,V,X,rfl⟩:=ch.o _ _ _ _ s;obtain⟨q2,l2,c2,x2,y2,z2,rfl⟩:=bk.o _ _ _ _ B;have C:d.cell? ⟨g,k*10,none⟩=some (int .u8 x.kind):=j _ _ (a 0 _ rfl);have D:d.cell? ⟨g,k*10+1,none⟩=some (int i64 x.type):=j _ _ (a 1 _ rfl);have E:d.cell? ⟨g,k*10+2,none⟩=some (.slice R S T):=j _ _ (a 2 _ rfl);have G:d.cell? ⟨g,k*10+3,none⟩=some (int .u8 x.test.kind):=j _ _ (a 3 _ rfl);have H:d.cell? ⟨g,k*10+4,none⟩=some (int .u8 x.test.val.kind):=j _ _ (a 4 _ rfl);have I:d.cell? ⟨g,k*10+5,none⟩=some (int i64 x.test.val.num):=j _ _ (a 5 _ rfl);have J:d.cell? ⟨g,k*10+6,none⟩=some (.string x.test.val.text):=j _ _ (a 6 _ rfl);have K:d.cell? ⟨g,k*10+7,none⟩=some (int i64 x.test.var):=j _ _ (a 7 _ rfl);have L:d.cell? ⟨g,k*10+8,none⟩=some (int .u8 x.test.op):=j _ _ (a 8 _ rfl);have M:d.cell? ⟨g,k*10+9,none⟩=some (.slice U V X):=j _ _ (a 9 _ rfl);have bB:d.cell? ⟨b,off+k*10,none⟩=some (int .u8 x.kind):=f 0 _ rfl;have bR:d.cell? ⟨b,off+k*10+1,none⟩=some (int i64 x.type):=f 1 _ rfl;have b0:d.cell? ⟨b,off+k*10+2,none⟩=some (.slice q2 l2 c2):=f 2 _ rfl;have b1:d.cell? ⟨b,off+k*10+3,none⟩=some (int .u8 x.test.kind):=f 3 _ rfl;have b2:d.cell? ⟨b,off+k*10+4,none⟩=some (int .u8 x.test.val.kind):=f 4 _ rfl;have b3:d.cell? ⟨b,off+k*10+5,none⟩=some (int i64 x.test.val.num):=f 5 _ rfl;have b4:d.cell? ⟨b,off+k*10+6,none⟩=some (.string x.test.val.text):=f 6 _ rfl;have b5:d.cell? ⟨b,off+k*10+7,none⟩=some (int i64 x.test.var):=f 7 _ rfl;have b6:d.cell? ⟨b,off+k*10+8,none⟩=some (int .u8 x.test.op):=f 8 _ rfl;have b7:d.cell? ⟨b,off+k*10+9,none⟩=some (.slice x2 y2 z2):=f 9 _ rfl;have C0:=fun y:Wb d=>y.cell C
   have D0:=fun y:Wb d=>y.cell bB
   have C1:=fun y:Wb d=>y.cell D
   have D1:=fun y:Wb d=>y.cell bR
   have C2:=fun y:Wb d=>y.cell E
   have D2:=fun y:Wb d=>y.cell b0
   have C3:=fun y:Wb d=>y.cell G
   have D3:=fun y:Wb d=>y.cell b1
   have C4:=fun y:Wb d=>y.cell H
   have D4:=fun y:Wb d=>y.cell b2
   have C5:=fun y:Wb d=>y.cell I
   have D5:=fun y:Wb d=>y.cell b3
   have C6:=fun y:Wb d=>y.cell J
   have D6:=fun y:Wb d=>y.cell b4
   have C7:=fun y:Wb d=>y.cell K
   have D7:=fun y:Wb d=>y.cell b5
   have C8:=fun y:Wb d=>y.cell L
   have D8:=fun y:Wb d=>y.cell b6
   have C9:=fun y:Wb d=>y.cell M
   have D9:=fun y:Wb d=>y.cell b7
   have ad:=Hd (fun y:Wb d=>cl.o x (EU hx) y.1 _ _ (q.trans (y.2.mono q.size)) (Q.sub (fun b (h:b<d.heap.size)=>EF h y.2.size) (Q.keep (fun b (h:b<d.heap.size) o O=>(y.2.block b h).trans O) P.o))
    (r.sub (fun b (h:b<w.heap.size)=>EF h (EG q.size y.2.size)) (r.keep (fun b (h:b<w.heap.size) o O=>(y.2.block b (EF h q.size)).trans O) bt.o)))
   have t:=Hd q;clear q hx s B l a f j C D E G H I J K L M bB bR b0 b1 b2 b3 b4 b5 b6 b7;go_wp2_with fail
   refine ae (by kernel_rfl) (by kernel_rfl) ?_
   repeat (go_big_quiet_step ((go_at_call 92;exact Calls.below_of (ad.o _))))
   refine wpQuiet_nil ?_;intro _ af;obtain⟨⟨W2,N⟩,rfl⟩:=af;have ak:=Hd (t.o.trans (N.mono t.o.size));clear N C0 C1 C2 C3 C4 C5 C6 C7 C8 C9 D0 D1 D2 D3 D4 D5 D6 D7 D8 D9;go_wp2_with fail
   exact⟨⟨_,k+1,rfl,by omega,by go_num,ak.o⟩,by simp[intOf];omega⟩
  ·by_cases cA:k<n+12
   ·have cq:decide ((k:Int)<(n:Int))=false:=by simp;omega
    have cT:decide (k<n)=false:=by simp;omega
    have cr:(k:Int)<(n:Int)+12:=by omega
    have bn:(n:Int)≤k:=by omega
    have bq:decide ((n:Int)≤(k:Int))=true:=by simp;omega
    have cC:decide (n≤k)=true:=by simp;omega
    obtain⟨us,s,a⟩:=bc.o (k-n) _ (il jn (by omega));rw[show n+(k-n)=k by omega,Z.o]at a;have l:r.at_ d (fun b=>b<d.heap.size) (jn (db (k-n))) us:=r.sub (fun b (h:b<w.heap.size)=>EF h q.size) (r.keep (fun b (h:b<w.heap.size) o O=>(q.block b h).trans O) s);have P:=Hd l;have b8:=Hd (fun W=>ck.o (k-n) (by omega) W);obtain⟨R,S,T,U,V,X,rfl⟩:=bk.o _ _ _ _ s;have C:d.cell? ⟨g,k*10,none⟩=some (int .u8 0):=j _ _ (a 0 _ rfl);have D:d.cell? ⟨g,k*10+1,none⟩=some (int i64 (8000024+((k-n:Nat):Int))):=j _ _ (a 1 _ rfl);have E:d.cell? ⟨g,k*10+2,none⟩=some (.slice R S T):=j _ _ (a 2 _ rfl);have G:d.cell? ⟨g,k*10+3,none⟩=some (int .u8 0):=j _ _ (a 3 _ rfl);have H:d.cell? ⟨g,k*10+4,none⟩=some (int .u8 0):=j _ _ (a 4 _ rfl);have I:d.cell? ⟨g,k*10+5,none⟩=some (int i64 0):=j _ _ (a 5 _ rfl);have J:d.cell? ⟨g,k*10+6,none⟩=some (string ⟨#[]⟩):=j _ _ (a 6 _ rfl);have K:d.cell? ⟨g,k*10+7,none⟩=some (int i64 0):=j _ _ (a 7 _ rfl);have L:d.cell? ⟨g,k*10+8,none⟩=some (int .u8 0):=j _ _ (a 8 _ rfl);have M:d.cell? ⟨g,k*10+9,none⟩=some (.slice U V X):=j _ _ (a 9 _ rfl);have cv:Hid (∀W,Calls Tryz.prog 85 #[int i64 1,int i64 ((k:Int)-n)] W fun e w'=>e=.returned (.agg #[int .u8 0,int i64 (8000024+((k-n:Nat):Int)),slice none 0 0,int .u8 0,int .u8 0,int i64 0,string ⟨#[]⟩,int i64 0,int .u8 0,slice none 0 0])∧Ft W w'):=by
     show ∀W,_
     intro W;have e:((k:Int)-n)=((k-n:Nat):Int):=by omega
     rw[e];exact HM.o (k-n) W (by omega)
    have cx:Hid (∀y:Wb d,Calls Tryz.prog 93 #[.agg #[int .u8 0,int i64 (8000024+((k-n:Nat):Int)),.slice R S T,int .u8 0,int .u8 0,int i64 0,string ⟨#[]⟩,int i64 0,int .u8 0,.slice U V X],.agg #[int .u8 0,int i64 (8000024+((k-n:Nat):Int)),slice none 0 0,int .u8 0,int .u8 0,int i64 0,string ⟨#[]⟩,int i64 0,int .u8 0,slice none 0 0]] y.1 (ax y.1)):=fun y=>HS.o _ _ _ y.1 (r.sub (fun b (h:b<d.heap.size)=>EF h y.2.size) (r.keep (fun b (h:b<d.heap.size) o O=>(y.2.block b h).trans O) P.o)) (r.sub (fun b (h:False)=>h.elim) (b8.o y.1))
    have t:=Hd q;clear q s l a j HM bb bc P b8;generalize (8000024+((k-n:Nat):Int))=z at *;have C0:=fun y:Wb d=>y.cell C
    have C1:=fun y:Wb d=>y.cell D
    have C2:=fun y:Wb d=>y.cell E
    have C3:=fun y:Wb d=>y.cell G
    have C4:=fun y:Wb d=>y.cell H
    have C5:=fun y:Wb d=>y.cell I
    have C6:=fun y:Wb d=>y.cell J
    have C7:=fun y:Wb d=>y.cell K
    have C8:=fun y:Wb d=>y.cell L
    have C9:=fun y:Wb d=>y.cell M
    clear C D E G H I J K L M;go_wp2_with fail
    refine ae (by kernel_rfl) (by kernel_rfl) ?_
    repeat (go_big_quiet_step ((first|(go_at_call 85;exact Calls.below_of (cv.o _))|(go_at_call 93;exact Calls.below_of (cx.o _)))))
    refine wpQuiet_nil ?_;intro _ af;obtain⟨⟨W2,N⟩,rfl⟩:=af;have ak:=Hd (t.o.trans (N.mono t.o.size));clear N C0 C1 C2 C3 C4 C5 C6 C7 C8 C9;go_wp2_with fail
    exact⟨⟨_,k+1,rfl,by omega,by go_num,ak.o⟩,by simp[intOf];omega⟩
   ·obtain rfl:k=n+12:=by omega
    have t:=Hd q;clear q j;have bn:decide ((n:Int)+12<(n:Int)+12)=false:=by simp
    go_wp2_with fail
    go_ret;exact⟨rfl,t.o⟩
theorem vW(K r:Rd aT)(T:r.n=4)(U:∀w F x vs,K.at_ w F x vs→∃L M N,vs=[int .u8 x.kind,int i64 x.type,int i64 x.which,.slice L M N])(V:∀w F x vs,r.at_ w F x vs→∃L M N,vs=[int .u8 x.kind,int i64 x.type,int i64 x.which,.slice L M N])
  (X:∀m,m<12→∀w,r.at_ w (fun _=>False) (iD (db m)) [int .u8 0,int i64 (8000024+(m:Int)),int i64 0,slice none 0 0]) (xs:List aT) (u v:Value) (w:World) (hu:(bJ K r (marks iD)).at_ w (fun b=>b<w.heap.size) xs [u]) (hv:r.row w (fun b=>b<w.heap.size) xs v) (bn:xs.length≤20000) (hS:gj r 95)
  (Y:∀x∈xs,∀W vs Z,Ft w W→K.at_ W (fun b=>b<W.heap.size) x vs→r.at_ W (fun b=>b<W.heap.size) x Z→Calls Tryz.prog 94 #[.agg vs.toArray,.agg Z.toArray] W (ax W)) :
  Calls Tryz.prog 66 #[u,v] w (ax w):=by
 obtain⟨n,hn⟩:=zzy (xs.length);obtain⟨g,A,bq,br,ad,af,O⟩:=hu;obtain⟨p,c,ak⟩:=Rd.row_shape hv;injection A with A _
 rw[dQ]at A ad;rw[hn]at A ak bn ad O;subst A;subst ak;have HN:=Hd hn;have an:=Hd af;have aq:=Hd O;have ar:=Hd (fun W (hW:Ft w W)=>Rd.row_below hv (fun _ h=>h) hW);have P:=Hd T;have bt:=Hd U;have av:=Hd V;have bB:=Hd X;have HM:=Hd (fun i W (hi:i≤100)=>om i W hi);have HS:=Hd hS;have bR:=Hd Y;clear hv hn af O T U V X hS Y bq
 go_enter Tryz.func66,Tryz.ntmps66
 go_wp2_with fail
 go_loopw [6] (ie w (n+12)) (fun i _=>n+12-(intOf i).toNat)
 case atStart=>exact⟨_,0,rfl,EM _,rfl,EB _ _⟩
 case round =>
  obtain⟨d,k,rfl,hk,rfl,q⟩:=hrel;have b7:(0:Int)≤k:=by omega
  have j:∀m z,w.cell? ⟨g,m,none⟩=some z→d.cell? ⟨g,m,none⟩=some z:=fun m z h=>(q.cell (p:=⟨g,m,none⟩) br).trans h
  by_cases a1:k<n
  ·have b0:(k:Int)<n:=by omega
   have b1:(k:Int)<(n:Int)+12:=by omega
   have a6:decide ((n:Int)≤(k:Int))=false:=by simp;omega
   have a7:decide (n≤k)=false:=by simp;omega
   obtain⟨x,hx⟩:∃x,xs[k]?=some x:=⟨xs[k]'(by rw[HN.o];exact a1),EE (by rw[HN.o];exact a1)⟩;obtain⟨us,s,a⟩:=an.o k x hx;rw[P.o]at a;have a8:=Rd.row_at (ar.o d q) hx;rw[HN.o]at a8;obtain⟨b,off,cap,vs,b2,_,_,_,_,B,f⟩:=a8;injection b2 with e1 _ e3
   subst e1;subst e3;rw[P.o]at f;have l:K.at_ d (fun b=>b<d.heap.size) x us:=K.sub (fun b (h:b<w.heap.size)=>EF h q.size) (K.keep (fun b (h:b<w.heap.size) o I=>(q.block b h).trans I) s);have J:=Hd l;have ba:=Hd B;obtain⟨L,M,N,rfl⟩:=bt.o _ _ _ _ s;obtain⟨q2,l2,c2,rfl⟩:=av.o _ _ _ _ B;have C:d.cell? ⟨g,k*4,none⟩=some (int .u8 x.kind):=j _ _ (a 0 _ rfl);have D:d.cell? ⟨g,k*4+1,none⟩=some (int i64 x.type):=j _ _ (a 1 _ rfl);have E:d.cell? ⟨g,k*4+2,none⟩=some (int i64 x.which):=j _ _ (a 2 _ rfl);have G:d.cell? ⟨g,k*4+3,none⟩=some (.slice L M N):=j _ _ (a 3 _ rfl);have bb:d.cell? ⟨b,off+k*4,none⟩=some (int .u8 x.kind):=f 0 _ rfl;have bc:d.cell? ⟨b,off+k*4+1,none⟩=some (int i64 x.type):=f 1 _ rfl;have bd:d.cell? ⟨b,off+k*4+2,none⟩=some (int i64 x.which):=f 2 _ rfl;have bk:d.cell? ⟨b,off+k*4+3,none⟩=some (.slice q2 l2 c2):=f 3 _ rfl;have C0:=fun y:Wb d=>y.cell C
   have D0:=fun y:Wb d=>y.cell bb
   have C1:=fun y:Wb d=>y.cell D
   have D1:=fun y:Wb d=>y.cell bc
   have C2:=fun y:Wb d=>y.cell E
   have D2:=fun y:Wb d=>y.cell bd
   have C3:=fun y:Wb d=>y.cell G
   have D3:=fun y:Wb d=>y.cell bk
   have Q:=Hd (fun y:Wb d=>bR.o x (EU hx) y.1 _ _ (q.trans (y.2.mono q.size)) (K.sub (fun b (h:b<d.heap.size)=>EF h y.2.size) (K.keep (fun b (h:b<d.heap.size) o I=>(y.2.block b h).trans I) J.o))
    (r.sub (fun b (h:b<w.heap.size)=>EF h (EG q.size y.2.size)) (r.keep (fun b (h:b<w.heap.size) o I=>(y.2.block b (EF h q.size)).trans I) ba.o)))
   have t:=Hd q;clear q hx s B l a f j C D E G bb bc bd bk;go_wp2_with fail
   refine ae (by kernel_rfl) (by kernel_rfl) ?_
   repeat (go_big_quiet_step ((go_at_call 94;exact Calls.below_of (Q.o _))))
   refine wpQuiet_nil ?_;intro _ R;obtain⟨⟨W2,H⟩,rfl⟩:=R;have S:=Hd (t.o.trans (H.mono t.o.size));clear H C0 C1 C2 C3 D0 D1 D2 D3;go_wp2_with fail
   exact⟨⟨_,k+1,rfl,by omega,by go_num,S.o⟩,by simp[intOf];omega⟩
  ·by_cases b5:k<n+12
   ·have b0:decide ((k:Int)<(n:Int))=false:=by simp;omega
    have b8:decide (k<n)=false:=by simp;omega
    have b1:(k:Int)<(n:Int)+12:=by omega
    have a6:(n:Int)≤k:=by omega
    have a7:decide ((n:Int)≤(k:Int))=true:=by simp;omega
    have b6:decide (n≤k)=true:=by simp;omega
    obtain⟨us,s,a⟩:=aq.o (k-n) _ (il iD (by omega));rw[show n+(k-n)=k by omega,P.o]at a;have l:r.at_ d (fun b=>b<d.heap.size) (iD (db (k-n))) us:=r.sub (fun b (h:b<w.heap.size)=>EF h q.size) (r.keep (fun b (h:b<w.heap.size) o I=>(q.block b h).trans I) s);have J:=Hd l;have bl:=Hd (fun W=>bB.o (k-n) (by omega) W);obtain⟨L,M,N,rfl⟩:=av.o _ _ _ _ s;have C:d.cell? ⟨g,k*4,none⟩=some (int .u8 0):=j _ _ (a 0 _ rfl);have D:d.cell? ⟨g,k*4+1,none⟩=some (int i64 (8000024+((k-n:Nat):Int))):=j _ _ (a 1 _ rfl);have E:d.cell? ⟨g,k*4+2,none⟩=some (int i64 0):=j _ _ (a 2 _ rfl);have G:d.cell? ⟨g,k*4+3,none⟩=some (.slice L M N):=j _ _ (a 3 _ rfl);have b3:Hid (∀W,Calls Tryz.prog 87 #[int i64 1,int i64 ((k:Int)-n)] W fun e w'=>e=.returned (.agg #[int .u8 0,int i64 (8000024+((k-n:Nat):Int)),int i64 0,slice none 0 0])∧Ft W w'):=by
     show ∀W,_
     intro W;have e:((k:Int)-n)=((k-n:Nat):Int):=by omega
     rw[e];exact HM.o (k-n) W (by omega)
    have b4:Hid (∀y:Wb d,Calls Tryz.prog 95 #[.agg #[int .u8 0,int i64 (8000024+((k-n:Nat):Int)),int i64 0,.slice L M N],.agg #[int .u8 0,int i64 (8000024+((k-n:Nat):Int)),int i64 0,slice none 0 0]] y.1 (ax y.1)):=fun y=>HS.o _ _ _ y.1 (r.sub (fun b (h:b<d.heap.size)=>EF h y.2.size) (r.keep (fun b (h:b<d.heap.size) o I=>(y.2.block b h).trans I) J.o)) (r.sub (fun b (h:False)=>h.elim) (bl.o y.1))
    have t:=Hd q;clear q s l a j HM an aq J bl;generalize (8000024+((k-n:Nat):Int))=z at *;have C0:=fun y:Wb d=>y.cell C
    have C1:=fun y:Wb d=>y.cell D
    have C2:=fun y:Wb d=>y.cell E
    have C3:=fun y:Wb d=>y.cell G
    clear C D E G;go_wp2_with fail
    refine ae (by kernel_rfl) (by kernel_rfl) ?_
    repeat (go_big_quiet_step ((first|(go_at_call 87;exact Calls.below_of (b3.o _))|(go_at_call 95;exact Calls.below_of (b4.o _)))))
    refine wpQuiet_nil ?_;intro _ R;obtain⟨⟨W2,H⟩,rfl⟩:=R;have S:=Hd (t.o.trans (H.mono t.o.size));clear H C0 C1 C2 C3;go_wp2_with fail
    exact⟨⟨_,k+1,rfl,by omega,by go_num,S.o⟩,by simp[intOf];omega⟩
   ·obtain rfl:k=n+12:=by omega
    have t:=Hd q;clear q j;have a6:decide ((n:Int)+12<(n:Int)+12)=false:=by simp
    go_wp2_with fail
    go_ret;exact⟨rfl,t.o⟩
theorem qy(L r:Rd aj)(Y:r.n=5)(Z:∀w F x vs,L.at_ w F x vs→∃M N O P Q R,vs=[.string x.name,int i64 x.sal,int i64 x.vars,.slice M N O,.slice P Q R])(ad:∀w F x vs,r.at_ w F x vs→∃M N O P Q R,vs=[.string x.name,int i64 x.sal,int i64 x.vars,.slice M N O,.slice P Q R])
  (af:∀m,m<12→∀w,r.at_ w (fun _=>False) (fP (db m)) [string ⟨#[]⟩,int i64 0,int i64 (8000024+(m:Int)),slice none 0 0,slice none 0 0]) (xs:List aj) (u v:Value) (w:World) (hu:(bJ L r (marks fP)).at_ w (fun b=>b<w.heap.size) xs [u]) (hv:r.row w (fun b=>b<w.heap.size) xs v) (bR:xs.length≤20000) (hS:gj r 45)
  (ak:∀x∈xs,∀W vs an,Ft w W→L.at_ W (fun b=>b<W.heap.size) x vs→r.at_ W (fun b=>b<W.heap.size) x an→Calls Tryz.prog 44 #[.agg vs.toArray,.agg an.toArray] W (ax W)) :
  Calls Tryz.prog 22 #[u,v] w (ax w):=by
 obtain⟨n,hn⟩:=zzy (xs.length);obtain⟨g,A,b0,b1,aq,ar,S⟩:=hu;obtain⟨p,c,av⟩:=Rd.row_shape hv;injection A with A _
 rw[dQ]at A aq;rw[hn]at A av bR aq S;subst A;subst av;have HN:=Hd hn;have a1:=Hd ar;have a6:=Hd S;have a7:=Hd (fun W (hW:Ft w W)=>Rd.row_below hv (fun _ h=>h) hW);have T:=Hd Y;have b2:=Hd Z;have a8:=Hd ad;have b3:=Hd af;have HM:=Hd (fun i W (hi:i≤100)=>mJ i W hi);have HS:=Hd hS;have b4:=Hd ak;clear hv hn ar S Y Z ad af hS ak b0
 go_enter Tryz.func22,Tryz.ntmps22
 go_wp2_with fail
 go_loopw [6] (ie w (n+12)) (fun i _=>n+12-(intOf i).toNat)
 case atStart=>exact⟨_,0,rfl,EM _,rfl,EB _ _⟩
 case round =>
  obtain⟨d,k,rfl,hk,rfl,q⟩:=hrel;have ch:(0:Int)≤k:=by omega
  have j:∀m z,w.cell? ⟨g,m,none⟩=some z→d.cell? ⟨g,m,none⟩=some z:=fun m z h=>(q.cell (p:=⟨g,m,none⟩) b1).trans h
  by_cases ba:k<n
  ·have b5:(k:Int)<n:=by omega
   have b6:(k:Int)<(n:Int)+12:=by omega
   have bb:decide ((n:Int)≤(k:Int))=false:=by simp;omega
   have bc:decide (n≤k)=false:=by simp;omega
   obtain⟨x,hx⟩:∃x,xs[k]?=some x:=⟨xs[k]'(by rw[HN.o];exact ba),EE (by rw[HN.o];exact ba)⟩;obtain⟨us,s,a⟩:=a1.o k x hx;rw[T.o]at a;have bd:=Rd.row_at (a7.o d q) hx;rw[HN.o]at bd;obtain⟨b,off,cap,vs,b7,_,_,_,_,B,f⟩:=bd;injection b7 with e1 _ e3
   subst e1;subst e3;rw[T.o]at f;have l:L.at_ d (fun b=>b<d.heap.size) x us:=L.sub (fun b (h:b<w.heap.size)=>EF h q.size) (L.keep (fun b (h:b<w.heap.size) o J=>(q.block b h).trans J) s);have K:=Hd l;have bk:=Hd B;obtain⟨M,N,O,P,Q,R,rfl⟩:=b2.o _ _ _ _ s;obtain⟨q2,l2,c2,x2,y2,z2,rfl⟩:=a8.o _ _ _ _ B;have C:d.cell? ⟨g,k*5,none⟩=some (.string x.name):=j _ _ (a 0 _ rfl);have D:d.cell? ⟨g,k*5+1,none⟩=some (int i64 x.sal):=j _ _ (a 1 _ rfl);have E:d.cell? ⟨g,k*5+2,none⟩=some (int i64 x.vars):=j _ _ (a 2 _ rfl);have G:d.cell? ⟨g,k*5+3,none⟩=some (.slice M N O):=j _ _ (a 3 _ rfl);have H:d.cell? ⟨g,k*5+4,none⟩=some (.slice P Q R):=j _ _ (a 4 _ rfl);have bl:d.cell? ⟨b,off+k*5,none⟩=some (.string x.name):=f 0 _ rfl;have bn:d.cell? ⟨b,off+k*5+1,none⟩=some (int i64 x.sal):=f 1 _ rfl;have bq:d.cell? ⟨b,off+k*5+2,none⟩=some (int i64 x.vars):=f 2 _ rfl;have br:d.cell? ⟨b,off+k*5+3,none⟩=some (.slice q2 l2 c2):=f 3 _ rfl;have bt:d.cell? ⟨b,off+k*5+4,none⟩=some (.slice x2 y2 z2):=f 4 _ rfl;have C0:=fun y:Wb d=>y.cell C
   have D0:=fun y:Wb d=>y.cell bl
   have C1:=fun y:Wb d=>y.cell D
   have D1:=fun y:Wb d=>y.cell bn
   have C2:=fun y:Wb d=>y.cell E
   have D2:=fun y:Wb d=>y.cell bq
   have C3:=fun y:Wb d=>y.cell G
   have D3:=fun y:Wb d=>y.cell br
   have C4:=fun y:Wb d=>y.cell H
   have D4:=fun y:Wb d=>y.cell bt
   have U:=Hd (fun y:Wb d=>b4.o x (EU hx) y.1 _ _ (q.trans (y.2.mono q.size)) (L.sub (fun b (h:b<d.heap.size)=>EF h y.2.size) (L.keep (fun b (h:b<d.heap.size) o J=>(y.2.block b h).trans J) K.o))
    (r.sub (fun b (h:b<w.heap.size)=>EF h (EG q.size y.2.size)) (r.keep (fun b (h:b<w.heap.size) o J=>(y.2.block b (EF h q.size)).trans J) bk.o)))
   have t:=Hd q;clear q hx s B l a f j C D E G H bl bn bq br bt;go_wp2_with fail
   refine ae (by kernel_rfl) (by kernel_rfl) ?_
   repeat (go_big_quiet_step ((go_at_call 44;exact Calls.below_of (U.o _))))
   refine wpQuiet_nil ?_;intro _ V;obtain⟨⟨W2,I⟩,rfl⟩:=V;have X:=Hd (t.o.trans (I.mono t.o.size));clear I C0 C1 C2 C3 C4 D0 D1 D2 D3 D4;go_wp2_with fail
   exact⟨⟨_,k+1,rfl,by omega,by go_num,X.o⟩,by simp[intOf];omega⟩
  ·by_cases ca:k<n+12
   ·have b5:decide ((k:Int)<(n:Int))=false:=by simp;omega
    have ck:decide (k<n)=false:=by simp;omega
    have b6:(k:Int)<(n:Int)+12:=by omega
    have bb:(n:Int)≤k:=by omega
    have bc:decide ((n:Int)≤(k:Int))=true:=by simp;omega
    have cc:decide (n≤k)=true:=by simp;omega
    obtain⟨us,s,a⟩:=a6.o (k-n) _ (il fP (by omega));rw[show n+(k-n)=k by omega,T.o]at a;have l:r.at_ d (fun b=>b<d.heap.size) (fP (db (k-n))) us:=r.sub (fun b (h:b<w.heap.size)=>EF h q.size) (r.keep (fun b (h:b<w.heap.size) o J=>(q.block b h).trans J) s);have K:=Hd l;have bB:=Hd (fun W=>b3.o (k-n) (by omega) W);obtain⟨M,N,O,P,Q,R,rfl⟩:=a8.o _ _ _ _ s;have C:d.cell? ⟨g,k*5,none⟩=some (string ⟨#[]⟩):=j _ _ (a 0 _ rfl);have D:d.cell? ⟨g,k*5+1,none⟩=some (int i64 0):=j _ _ (a 1 _ rfl);have E:d.cell? ⟨g,k*5+2,none⟩=some (int i64 (8000024+((k-n:Nat):Int))):=j _ _ (a 2 _ rfl);have G:d.cell? ⟨g,k*5+3,none⟩=some (.slice M N O):=j _ _ (a 3 _ rfl);have H:d.cell? ⟨g,k*5+4,none⟩=some (.slice P Q R):=j _ _ (a 4 _ rfl);have b8:Hid (∀W,Calls Tryz.prog 27 #[int i64 1,int i64 ((k:Int)-n)] W fun e w'=>e=.returned (.agg #[string ⟨#[]⟩,int i64 0,int i64 (8000024+((k-n:Nat):Int)),slice none 0 0,slice none 0 0])∧Ft W w'):=by
     show ∀W,_
     intro W;have e:((k:Int)-n)=((k-n:Nat):Int):=by omega
     rw[e];exact HM.o (k-n) W (by omega)
    have b9:Hid (∀y:Wb d,Calls Tryz.prog 45 #[.agg #[string ⟨#[]⟩,int i64 0,int i64 (8000024+((k-n:Nat):Int)),.slice M N O,.slice P Q R],.agg #[string ⟨#[]⟩,int i64 0,int i64 (8000024+((k-n:Nat):Int)),slice none 0 0,slice none 0 0]] y.1 (ax y.1)):=fun y=>HS.o _ _ _ y.1 (r.sub (fun b (h:b<d.heap.size)=>EF h y.2.size) (r.keep (fun b (h:b<d.heap.size) o J=>(y.2.block b h).trans J) K.o)) (r.sub (fun b (h:False)=>h.elim) (bB.o y.1))
    have t:=Hd q;clear q s l a j HM a1 a6 K bB;generalize (8000024+((k-n:Nat):Int))=z at *;have C0:=fun y:Wb d=>y.cell C
    have C1:=fun y:Wb d=>y.cell D
    have C2:=fun y:Wb d=>y.cell E
    have C3:=fun y:Wb d=>y.cell G
    have C4:=fun y:Wb d=>y.cell H
    clear C D E G H;go_wp2_with fail
    refine ae (by kernel_rfl) (by kernel_rfl) ?_
    repeat (go_big_quiet_step ((first|(go_at_call 27;exact Calls.below_of (b8.o _))|(go_at_call 45;exact Calls.below_of (b9.o _)))))
    refine wpQuiet_nil ?_;intro _ V;obtain⟨⟨W2,I⟩,rfl⟩:=V;have X:=Hd (t.o.trans (I.mono t.o.size));clear I C0 C1 C2 C3 C4;go_wp2_with fail
    exact⟨⟨_,k+1,rfl,by omega,by go_num,X.o⟩,by simp[intOf];omega⟩
   ·obtain rfl:k=n+12:=by omega
    have t:=Hd q;clear q j;have bb:decide ((n:Int)+12<(n:Int)+12)=false:=by simp
    go_wp2_with fail
    go_ret;exact⟨rfl,t.o⟩
theorem Rd.later{α:Type}{r:Rd α}{w W:World}{x:α}{vs:List Value}(h:r.at_ w (fun b=>b<w.heap.size) x vs)(c:Ft w W):r.at_ W (fun b=>b<W.heap.size) x vs:=
 r.sub (fun b (a:b<w.heap.size)=>EF a c.size) (r.keep (fun b (a:b<w.heap.size) _o d=>(c.block b a).trans d) h)
theorem Rd.row_later{α:Type}{r:Rd α}{w W:World}{xs:List α}{v:Value}(h:r.row w (fun b=>b<w.heap.size) xs v)(c:Ft w W):r.row W (fun b=>b<W.heap.size) xs v:=
 Rd.row_sub (fun b (a:b<w.heap.size)=>EF a c.size) (Rd.row_below h (fun _ h=>h) c)
theorem nU{b r:Rd ag}{ms:List ag}{w:World}{F:Nat→Prop}{e:ag}{vs:List Value}(h:(js (bJ b r ms)).at_ w F e vs):∃g,vs=bF e (slice (some ⟨g,0,none⟩) e.kids.length (e.kids.length+ms.length))∧(bJ b r ms).at_ w F e.kids [slice (some ⟨g,0,none⟩) e.kids.length (e.kids.length+ms.length)]:=by
 obtain⟨f,i,rfl,⟨rfl,j⟩,v1,v2,rfl,d,k,x2,rfl,⟨rfl,l⟩,m,n,rfl,⟨rfl,o⟩,c⟩:=h;obtain⟨rfl,hw⟩:=jt.1 d;have a:=c;obtain⟨g,rfl,_⟩:=a;exact⟨g,rfl,c⟩
def CQ(d:Nat):Prop:=∀(e:ag) (vs a:List Value) (w:World),(fc d).at_ w (fun b=>b<w.heap.size) e vs→(ay d).at_ w (fun b=>b<w.heap.size) e a→jg d e→Calls Tryz.prog 129 #[.agg vs.toArray,.agg a.toArray] w (ax w)
theorem lV(d:Nat)(h:CQ d)(xs:List ag)(u v:Value)(w:World)(hu:(mW d).at_ w (fun b=>b<w.heap.size) xs [u])(c:(ay d).row w (fun b=>b<w.heap.size) xs v)(e:xs.length≤20000)(f:∀x∈xs,jg d x):Calls Tryz.prog 132 #[u,v] w (ax w):=
 mF (fc d) (ay d) (cB d) uv ju (fun m hm w=>j7 d m hm w) xs u v w hu c e (fF d) (fun x g W vs a _ i j=>h x vs a W i j (f x g))
theorem kj:∀d,CQ d
 | 0,e,vs,f,w,h,k,l=>by
  have n:=fun W (a:Ft w W)=>fF 0 e vs f W (Rd.later (gp 0 _ _ _ _ h) a) (Rd.later k a)
  obtain⟨g,rfl,i⟩:=nU h;obtain⟨o,s,rfl,j⟩:=bZ.1 k;obtain⟨q,p,c,rfl⟩:=j;refine ov e _ _ _ p 0 c w n fun W a=>?_
  have i:=Rd.later i a;rw[q]at i ⊢;exact mF (Rd.no 7) (ay 0) rfl (fun _ _ _ _ h=>h.elim) ju (fun m hm w=>j7 0 m hm w) [] _ _ W i Rd.row_nil (by simp) (fF 0) (fun x r=>by cases r)
 | d+1,e,vs,f,w,h,k,l=>by
  have n:=fun W (a:Ft w W)=>fF (d+1) e vs f W (Rd.later (gp (d+1) _ _ _ _ h) a) (Rd.later k a)
  obtain⟨g,rfl,i⟩:=nU h;obtain⟨o,s,rfl,j⟩:=bZ.1 k;have j:(ay d).row w (fun b=>b<w.heap.size) e.kids s:=j;obtain⟨p,c,rfl⟩:=Rd.row_shape j;exact ov e _ _ _ p _ c w n fun W a=>lV d (kj d) e.kids _ _ W (Rd.later i a) (Rd.row_later j a) l.1 l.2
theorem sE(d:Nat)(xs:List ag)(u v:Value)(w:World)(hu:(mW d).at_ w (fun b=>b<w.heap.size) xs [u])(a:(ay d).row w (fun b=>b<w.heap.size) xs v)(c:xs.length≤20000)(e:∀x∈xs,jg d x):Calls Tryz.prog 132 #[u,v] w (ax w):=lV d (kj d) xs u v w hu a c e
theorem ut(w:World)(F:Nat→Prop)(x:cg)(vs:List Value)(h:dm.at_ w F x vs):vs=[int .u8 x.kind,int i64 x.var,int .u8 x.val.kind,int i64 x.val.num,.string x.val.text]:=(eP.1 h).1
theorem rT(w:World)(F:Nat→Prop)(x:ai)(vs:List Value)(h:bo.at_ w F x vs):vs=[.string x.name,int i64 x.fields]:=(dN.1 h).1
theorem sT(xs:List cg)(u v:Value)(w:World)(hu:pG.at_ w (fun b=>b<w.heap.size) xs [u])(a:dm.row w (fun b=>b<w.heap.size) xs v)(c:xs.length≤20000):Calls Tryz.prog 128 #[u,v] w (ax w):=
 u7 dm dm rfl ut ut (fun m hm w=>ul m hm w _) xs u v w hu a c
theorem sA(xs:List ai)(u v:Value)(w:World)(hu:qw.at_ w (fun b=>b<w.heap.size) xs [u])(a:bo.row w (fun b=>b<w.heap.size) xs v)(c:xs.length≤20000):Calls Tryz.prog 21 #[u,v] w (ax w):=
 tY bo bo rfl rT rT (fun m hm w=>rm m hm w _) xs u v w hu a c
theorem zP{d:Nat}{w:World}{F:Nat→Prop}{c:aC}{vs:List Value}(h:(km d).at_ w F c vs):∃g us,vs=int .u8 c.kind :: int i64 c.type :: slice (some ⟨g,0,none⟩) c.args.length (c.args.length+12)::us∧pG.at_ w F c.args [slice (some ⟨g,0,none⟩) c.args.length (c.args.length+12)]∧(fc d).at_ w F c.test us:=by
 obtain⟨e,f,rfl,⟨rfl,i⟩,v1,v2,rfl,⟨rfl,j⟩,k,x2,rfl,b,he⟩:=h;have a:=b;obtain⟨g,rfl,_⟩:=a;exact⟨g,x2,rfl,b,he⟩
theorem uH(d:Nat)(c:aC)(vs e:List Value)(w:World)(h:(km d).at_ w (fun b=>b<w.heap.size) c vs)(k:(bp d).at_ w (fun b=>b<w.heap.size) c e)(l:jY d c):Calls Tryz.prog 92 #[.agg vs.toArray,.agg e.toArray] w (ax w):=by
 have n:=fun W (a:Ft w W)=>kT d c vs e W (Rd.later (lz d _ _ _ _ h) a) (Rd.later k a)
 obtain⟨g,us,rfl,o,he⟩:=zP h;obtain⟨_,_,i,u,s,rfl,f,m⟩:=dq.1 k;obtain⟨p,q,rfl⟩:=Rd.row_shape f;obtain⟨r,t,rfl⟩:=aI m;obtain⟨s1,rfl,_,v,x,y,rfl⟩:=sW he;have j:(ay d).at_ w (fun b=>b<w.heap.size) c.test (bF c.test (.slice r c.test.kids.length t)):=bZ.2 ⟨i,_,rfl,m⟩;exact vF c _ _ _ _ _ _ _ _ _ _ _ _ w n (fun W a=>sT c.args _ _ W (Rd.later o a) (Rd.row_later f a) l.1) (fun W a=>kj d c.test _ _ W (Rd.later he a) (Rd.later j a) l.2)
theorem BD{d:Nat}(w:World)(F:Nat→Prop)(t:aC)(vs:List Value)(h:(km d).at_ w F t vs):∃a b c e f g,vs=[int .u8 t.kind,int i64 t.type,.slice a b c,int .u8 t.test.kind,int .u8 t.test.val.kind,int i64 t.test.val.num,.string t.test.val.text,int i64 t.test.var,int .u8 t.test.op,.slice e f g]:=mY w F t vs (lz d w F t vs h)
theorem sG(d:Nat)(xs:List aC)(u v:Value)(w:World)(hu:(nb d).at_ w (fun b=>b<w.heap.size) xs [u])(c:(bp d).row w (fun b=>b<w.heap.size) xs v)(e:xs.length≤20000)(f:∀x∈xs,jY d x):Calls Tryz.prog 65 #[u,v] w (ax w):=
 tw (km d) (bp d) (jp d) BD mY (fun m hm w=>tC d m hm w) xs u v w hu c e (kT d) (fun x g W vs a _ h i=>uH d x vs a W h i (f x g))
theorem wE(d:Nat)(a:aT)(vs c:List Value)(w:World)(h:(o0 d).at_ w (fun b=>b<w.heap.size) a vs)(i:(bS d).at_ w (fun b=>b<w.heap.size) a c)(j:kt d a):Calls Tryz.prog 94 #[.agg vs.toArray,.agg c.toArray] w (ax w):=by
 have l:=fun W (e:Ft w W)=>lH d a vs c W (Rd.later (nE d _ _ _ _ h) e) (Rd.later i e)
 obtain⟨m,n,rfl,⟨rfl,o⟩,v1,v2,rfl,⟨rfl,r⟩,t,x2,rfl,⟨rfl,u⟩,he⟩:=h;have f:=he;obtain⟨g,rfl,_⟩:=f;obtain⟨_,_,_,s,rfl,k⟩:=eB.1 i;obtain⟨p,q,rfl⟩:=Rd.row_shape k;exact ym a _ _ _ _ _ _ w l (fun W e=>sE d a.exprs _ _ W (Rd.later he e) (Rd.row_later k e) j.1 j.2)
theorem CW{d:Nat}(w:World)(F:Nat→Prop)(t:aT)(vs:List Value)(h:(o0 d).at_ w F t vs):∃a b c,vs=pn t (.slice a b c):=po w F t vs (nE d w F t vs h)
theorem ub(d:Nat)(xs:List aT)(u v:Value)(w:World)(hu:(pY d).at_ w (fun b=>b<w.heap.size) xs [u])(c:(bS d).row w (fun b=>b<w.heap.size) xs v)(e:xs.length≤20000)(f:∀x∈xs,kt d x):Calls Tryz.prog 66 #[u,v] w (ax w):=
 vW (o0 d) (bS d) rfl CW po (fun m hm w=>tK d m hm w) xs u v w hu c e (lH d) (fun x g W vs a _ h i=>wE d x vs a W h i (f x g))
theorem tO(d:Nat)(r:aj)(vs c:List Value)(w:World)(h:(lu d).at_ w (fun b=>b<w.heap.size) r vs)(l:(bh d).at_ w (fun b=>b<w.heap.size) r c)(i:kh d r):Calls Tryz.prog 44 #[.agg vs.toArray,.agg c.toArray] w (ax w):=by
 have o:=fun W (a:Ft w W)=>kL d r vs c W (Rd.later (ln d _ _ _ _ h) a) (Rd.later l a)
 obtain⟨s,t,rfl,⟨rfl,u⟩,v1,v2,rfl,⟨rfl,v⟩,x,x2,rfl,⟨rfl,y⟩,z,A,rfl,m,n⟩:=h;have j:=m;have k:=n;obtain⟨g,rfl,_⟩:=j;obtain⟨g2,rfl,_⟩:=k;obtain⟨_,_,_,B,C,rfl,e,f⟩:=dY.1 l;obtain⟨p,q,rfl⟩:=Rd.row_shape e;obtain⟨D,E,rfl⟩:=Rd.row_shape f;exact wo r _ _ _ _ _ _ _ _ _ _ _ _ w o (fun W a=>sG d r.conds _ _ W (Rd.later m a) (Rd.row_later e a) i.1 i.2.2.1) (fun W a=>ub d r.acts _ _ W (Rd.later n a) (Rd.row_later f a) i.2.1 i.2.2.2)
theorem BO{d:Nat}(w:World)(F:Nat→Prop)(t:aj)(vs:List Value)(h:(lu d).at_ w F t vs):∃a b c e f g,vs=[.string t.name,int i64 t.sal,int i64 t.vars,.slice a b c,.slice e f g]:=mz w F t vs (ln d w F t vs h)
theorem pN(d:Nat)(xs:List aj)(u v:Value)(w:World)(hu:(jX d).at_ w (fun b=>b<w.heap.size) xs [u])(c:(bh d).row w (fun b=>b<w.heap.size) xs v)(e:xs.length≤20000)(f:∀x∈xs,kh d x):Calls Tryz.prog 22 #[u,v] w (ax w):=
 qy (lu d) (bh d) rfl BO mz (fun m hm w=>s6 d m hm w) xs u v w hu c e (kL d) (fun x g W vs a _ h i=>tO d x vs a W h i (f x g))
theorem sD(d:Nat)(R:cd)(vs c:List Value)(w:World)(h:(ka d).at_ w (fun b=>b<w.heap.size) R vs)(l:(iW d).at_ w (fun b=>b<w.heap.size) R c)(i:qq d R):Calls Tryz.prog 9 #[.agg vs.toArray,.agg c.toArray] w (ax w):=by
 have o:=fun W (a:Ft w W)=>ue d R vs c W (Rd.later (rA d _ _ _ _ h) a) (Rd.later l a)
 obtain⟨r,s,rfl,m,n⟩:=h;have j:=m;have k:=n;obtain⟨g,rfl,_⟩:=j;obtain⟨g2,rfl,_⟩:=k;obtain⟨t,u,rfl,e,f⟩:=jb.1 l;obtain⟨p,q,rfl⟩:=Rd.row_shape e;obtain⟨v,x,rfl⟩:=Rd.row_shape f;exact uj _ _ _ _ _ _ _ _ _ _ _ _ w o (fun W a=>sA R.types _ _ W (Rd.later m a) (Rd.row_later e a) i.1) (fun W a=>pN d R.rules _ _ W (Rd.later n a) (Rd.row_later f a) i.2.1 i.2.2)
