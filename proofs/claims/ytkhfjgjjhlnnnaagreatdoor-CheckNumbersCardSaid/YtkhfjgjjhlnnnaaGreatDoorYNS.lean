/- Parts of one proof, joined; conditions stand in each theorem. -/
import Derived.Test.YtkhfjgjjhlnnnaaGreatDoorYNR
import Derived.Test.YtkhfjgjjhlnnnaaGreatDoorYMD
open Go renaming World→wD,Calls→xL,wpQuiet_nil→Bk,Value→wF
open Go.Proofs.Tryz renaming prog→xD
open Go.Value renaming pointer→xV,agg→xS,int→I,string→J,slice→A,bool→AJ
open Option renaming some→Y,none→U
open Go.IntKind renaming u8→O,i64→Z
open Bool renaming true→wP,false→xj
open Go.Obj renaming cells→wq
open Decidable renaming decide→xv
open Go.Code renaming wp→AR
namespace Go.Proofs.YtkhfjgjjhlnnnaaGreatDoor
set_option maxHeartbeats 8000000
set_option maxRecDepth 100000
open Go.RowKit
theorem uw(S:Nat)(nv:Int)(e:aw)(p:Option Addr)(n c:Nat)(w:wD)(q:e.b=1)(u:e.u.length=n)(b:ga e) :
  xL xD 128 #[xV (Y ⟨S,0,U⟩),xS #[I O e.b,I O e.f.b,I Z e.f.h,J e.f.f,I Z e.h,I O e.op,A p n c]] w (am (cy nv e) w):=by
 have hm:cy nv e=(bs wP xj xj e&&gP e.f):=by
  unfold cy bs;rw[q]
  cases (e.h==0)<;>cases (e.op==0)<;>cases e.u.isEmpty<;>cases gP e.f<;>rfl
 rw[hm];have j:FK w (w.alloc (wq #[I O 1,I O e.f.b,I Z e.f.h,J e.f.f,I Z e.h,I O e.op,A p n c] 62)):=(EP _ w).alloc (EO _) _;have k:=Hd j;have l:Hid ((w.alloc (wq #[I O 1,I O e.f.b,I Z e.f.h,J e.f.f,I Z e.h,I O e.op,A p n c] 62)).heap[w.heap.size]?=Y (wq #[I O 1,I O e.f.b,I Z e.f.h,J e.f.f,I Z e.h,I O e.op,A p n c] 62 (0,0))):=p9 w _;have v:Hid (xL xD 126 #[xS #[I O 1,I O e.f.b,I Z e.f.h,J e.f.f,I Z e.h,I O e.op,A p n c],AJ wP,AJ xj,AJ xj] (w.alloc (wq #[I O 1,I O e.f.b,I Z e.f.h,J e.f.f,I Z e.h,I O e.op,A p n c] 62)) (am (bs wP xj xj e) (w.alloc (wq #[I O 1,I O e.f.b,I Z e.f.h,J e.f.f,I Z e.h,I O e.op,A p n c] 62)))):=by
  have h:=zN e p n c (w.alloc (wq #[I O 1,I O e.f.b,I Z e.f.h,J e.f.f,I Z e.h,I O e.op,A p n c] 62)) u;rw[q]at h;exact h
 have s:=Hd (fun W=>lY e.f W b.2.1.2.2);rw[q];clear j hm b q u
 go_enter Tryz.func128,Tryz.ntmps128
 go_wp2_with fail
 refine v.o.mono ?_;rintro x W2 ⟨rfl,f⟩;have g:=Hd (k.o.trans (f.mono k.o.size));have a:=aa f l.o (EN.1 l.o).1;have y:W2.cell? ⟨w.heap.size,1,U⟩=Y (I O e.f.b):=by rw[FI _ _ _ _ _ _ a];rfl
 have c2:W2.cell? ⟨w.heap.size,1+1,U⟩=Y (I Z e.f.h):=by rw[FI _ _ _ _ _ _ a];rfl
 have z:W2.cell? ⟨w.heap.size,1+2,U⟩=Y (J e.f.f):=by rw[FI _ _ _ _ _ _ a];rfl
 clear f a
 cases r:bs wP xj xj e with
 | false =>
  have i:=Hd r;clear r;go_wp2_with fail
  go_ret;exact⟨by rw[i.o];rfl,g.o⟩
 | true =>
  have i:=Hd r;clear r;go_wp2_with fail
  refine (s.o W2).mono ?_;rintro x B ⟨rfl,m⟩;have t:=Hd (g.o.trans (m.mono g.o.size));clear m y c2 z;go_wp2_with fail
  go_ret;exact⟨by rw[i.o];rfl,t.o⟩
theorem tZ(S:Nat)(nv:Int)(e:aw)(p:Option Addr)(n c:Nat)(w:wD)(a:e.b≠1∧e.b≠2∧e.b≠3) :
  xL xD 128 #[xV (Y ⟨S,0,U⟩),xS #[I O e.b,I O e.f.b,I Z e.f.h,J e.f.f,I Z e.h,I O e.op,A p n c]] w (am (cy nv e) w):=by
 have hm:cy nv e=false:=by
  unfold cy;rw[show (e.b==1)=xj by simpa using a.1,show (e.b==2)=xj by simpa using a.2.1,show (e.b==3)=xj by simpa using a.2.2];rfl
 rw[hm];obtain⟨f,g,h⟩:=a;have b:Hid (FK w (w.alloc (wq #[I O e.b,I O e.f.b,I Z e.f.h,J e.f.f,I Z e.h,I O e.op,A p n c] 62))):=(EP _ w).alloc (EO _) _;clear hm
 go_enter Tryz.func128,Tryz.ntmps128
 go_wp2_with fail
 go_ret;exact⟨V,b.o⟩
theorem zU(S:Nat)(nv:Int)(e:aw)(p:Option Addr)(n c:Nat)(w:wD)(s:e.b=2)(G:e.u.length=n)(H:ir S nv w) :
  xL xD 128 #[xV (Y ⟨S,0,U⟩),xS #[I O e.b,I O e.f.b,I Z e.f.h,J e.f.f,I Z e.h,I O e.op,A p n c]] w (am (cy nv e) w):=by
 have hm:cy nv e=(bs xj wP xj e&&xv (0≤e.h)&&xv (e.h<nv)):=by
  unfold cy bs;rw[s]
  cases zeroV e.f<;>cases (e.op==0)<;>cases e.u.isEmpty<;>rfl
 rw[hm];obtain⟨w1,j⟩:=zzx (w.alloc (wq #[I O 2,I O e.f.b,I Z e.f.h,J e.f.f,I Z e.h,I O e.op,A p n c] 62));have m:FK w w1:=by rw[j];exact (EP _ w).alloc (EO _) _
 have a:w1.heap[w.heap.size]?=Y (wq #[I O 2,I O e.f.b,I Z e.f.h,J e.f.f,I Z e.h,I O e.op,A p n c] 62 (0,0)):=by rw[j];exact p9 w _
 have g:=Hd m
 have l:=Hd (fun (x:Wb w1)=>(show xL xD 126 #[xS #[I O 2,I O e.f.b,I Z e.f.h,J e.f.f,I Z e.h,I O e.op,A p n c],AJ xj,AJ wP,AJ xj] x.1 (am (bs xj wP xj e) x.1) by
  have h:=Bq e p n c x.1 G;rw[s]at h
  exact h))
 have r:w1.cell? ⟨S,2,U⟩=Y (I Z nv):=H.z m;have K:w1.cell? ⟨w.heap.size,0,U⟩=Y (I O 2):=by rw[FI _ _ _ _ _ _ a];rfl
 have L:w1.cell? ⟨w.heap.size,1,U⟩=Y (I O e.f.b):=by rw[FI _ _ _ _ _ _ a];rfl
 have M:w1.cell? ⟨w.heap.size,2,U⟩=Y (I Z e.f.h):=by rw[FI _ _ _ _ _ _ a];rfl
 have N:w1.cell? ⟨w.heap.size,3,U⟩=Y (J e.f.f):=by rw[FI _ _ _ _ _ _ a];rfl
 have P:w1.cell? ⟨w.heap.size,4,U⟩=Y (I Z e.h):=by rw[FI _ _ _ _ _ _ a];rfl
 have Q:w1.cell? ⟨w.heap.size,5,U⟩=Y (I O e.op):=by rw[FI _ _ _ _ _ _ a];rfl
 have R:w1.cell? ⟨w.heap.size,6,U⟩=Y (A p n c):=by rw[FI _ _ _ _ _ _ a];rfl
 have u:=fun x:Wb w1=>x.b K
 have v:=fun x:Wb w1=>x.b L
 have E2:=fun x:Wb w1=>x.b M
 have y:=fun x:Wb w1=>x.b N
 have z:=fun x:Wb w1=>x.b P
 have B:=fun x:Wb w1=>x.b Q
 have C:=fun x:Wb w1=>x.b R
 have D:=fun x:Wb w1=>x.b r
 rw[s];clear m a hm s G H
 go_enter Tryz.func128,Tryz.ntmps128
 go_upto_region 1 with fail
 change AR _ _ _ _ (w.alloc (wq #[I O 2,I O e.f.b,I Z e.f.h,J e.f.f,I Z e.h,I O e.op,A p n c] 62));rw[←j];clear j;go_upto_region 5 with fail
 clear K L M N P Q R r
 cases q:bs xj wP xj e with
 | false =>
  rw[q]at l;have k:=Hd q;clear q;refine au (by kernel_rfl) (by kernel_rfl) ?_
  repeat (go_big_quiet_step ((go_at_call 126;exact Calls.b (l.o _))))
  refine Bk ?_;intro W2 b;have f:=a7 b;have i:=Hd (g.o.trans (f.mono g.o.size));clear b f u v E2 y z B C D l;go_wp2_with fail
  go_ret;exact⟨by rw[k.o];rfl,i.o⟩
 | true =>
  rw[q]at l;have k:=Hd q;clear q
  by_cases t:0≤e.h
  ·have E:xv (0≤e.h)=true:=decide_eq_true t;refine au (by kernel_rfl) (by kernel_rfl) ?_
   repeat (go_big_quiet_step ((go_at_call 126;exact Calls.b (l.o _))))
   refine Bk ?_;intro W2 b;have f:=a7 b;have i:=Hd (g.o.trans (f.mono g.o.size));clear b f u v E2 y z B C D l;go_wp2_with fail
   go_ret;exact⟨by rw[k.o,decide_eq_true t];rfl,i.o⟩
  ·have E:xv (0≤e.h)=false:=r6 t;have T:Hid (¬0≤e.h):=t;refine au (by kernel_rfl) (by kernel_rfl) ?_
   repeat (go_big_quiet_step ((go_at_call 126;exact Calls.b (l.o _))))
   refine Bk ?_;intro W2 b;have f:=a7 b;have i:=Hd (g.o.trans (f.mono g.o.size));clear b f u v E2 y z B C D l;go_wp2_with fail
   go_ret;exact⟨by first|(rw[k.o,r6 T.o];rfl)|rfl|simp_all,i.o⟩
theorem Df(S:Nat)(nv:Int)(e:aw)(all:Bool)(p:Option Addr)(n c:Nat)(w:wD)(u:e.b=3)(z:e.u.length=n)
  (hex:n≠0→∀W,FK w W→xL xD 130 #[xV (Y ⟨S,0,U⟩),A p n c] W (am all W)) :
  xL xD 128 #[xV (Y ⟨S,0,U⟩),xS #[I O e.b,I O e.f.b,I Z e.f.h,J e.f.f,I Z e.h,I O e.op,A p n c]] w (am (cy nv e&&all) w):=by
 by_cases t:e.op=4
 ·have hm:(cy nv e&&all)=(bs xj xj wP e&&(n==1)&&all):=by
   have hw:(if e.op==4||e.op==11 then 1 else 2)=(1:Nat):=by rw[t];rfl
   unfold cy bs;rw[hw,u,t,z]
   cases zeroV e.f<;>cases (e.h==0)<;>cases (n==1)<;>cases all<;>rfl
  rw[hm];have k:FK w (w.alloc (wq #[I O 3,I O e.f.b,I Z e.f.h,J e.f.f,I Z e.h,I O 4,A p n c] 62)):=(EP _ w).alloc (EO _) _;have l:=Hd k;have f:Hid ((w.alloc (wq #[I O 3,I O e.f.b,I Z e.f.h,J e.f.f,I Z e.h,I O 4,A p n c] 62)).heap[w.heap.size]?=Y (wq #[I O 3,I O e.f.b,I Z e.f.h,J e.f.f,I Z e.h,I O 4,A p n c] 62 (0,0))):=p9 w _;have B:Hid (xL xD 126 #[xS #[I O 3,I O e.f.b,I Z e.f.h,J e.f.f,I Z e.h,I O 4,A p n c],AJ xj,AJ xj,AJ wP] (w.alloc (wq #[I O 3,I O e.f.b,I Z e.f.h,J e.f.f,I Z e.h,I O 4,A p n c] 62)) (am (bs xj xj wP e) (w.alloc (wq #[I O 3,I O e.f.b,I Z e.f.h,J e.f.f,I Z e.h,I O 4,A p n c] 62)))):=by
   have h:=ny e p n c (w.alloc (wq #[I O 3,I O e.f.b,I Z e.f.h,J e.f.f,I Z e.h,I O 4,A p n c] 62)) z;rw[u,t]at h;exact h
  have v:=Hd hex;rw[u,t];clear k hm u z hex
  go_enter Tryz.func128,Tryz.ntmps128
  go_wp2_with fail
  refine B.o.mono ?_;rintro D W2 ⟨rfl,g⟩;have a:=Hd (l.o.trans (g.mono l.o.size));have m:Hid (FK w W2):=a.o;have i:=aa g f.o (EN.1 f.o).1;have K:W2.cell? ⟨w.heap.size,5,U⟩=Y (I O 4):=by rw[FI _ _ _ _ _ _ i];rfl
  have L:W2.cell? ⟨w.heap.size,6,U⟩=Y (A p n c):=by rw[FI _ _ _ _ _ _ i];rfl
  clear g i B f
  cases s:bs xj xj wP e with
  | false =>
   have b:=Hd s;clear s;go_wp2_with fail
   go_ret;exact⟨by rw[b.o];rfl,a.o⟩
  | true =>
   have b:=Hd s;clear s
   by_cases hlen:n=1
   ·subst hlen;have C:=Hd (v.o (by omega) W2 m.o);go_wp2_with fail
    refine C.o.mono ?_;rintro D M ⟨rfl,q⟩;have x:=Hd (a.o.trans (q.mono a.o.size));clear q C;go_wp2_with fail
    go_ret;exact⟨by rw[b.o];simp,x.o⟩
   ·have y:¬((n:Int)=1):=by omega
    have E:((n:Int)==1)=false:=by simpa using y
    have r:(n==1)=false:=by simpa using hlen
    go_wp2_with fail
    go_ret;exact⟨by rw[b.o];simp[r],a.o⟩
 by_cases j:e.op=11
 ·have hm:(cy nv e&&all)=(bs xj xj wP e&&(n==1)&&all):=by
   have hw:(if e.op==4||e.op==11 then 1 else 2)=(1:Nat):=by rw[j];rfl
   unfold cy bs;rw[hw,u,j,z]
   cases zeroV e.f<;>cases (e.h==0)<;>cases (n==1)<;>cases all<;>rfl
  rw[hm];have k:FK w (w.alloc (wq #[I O 3,I O e.f.b,I Z e.f.h,J e.f.f,I Z e.h,I O 11,A p n c] 62)):=(EP _ w).alloc (EO _) _;have l:=Hd k;have f:Hid ((w.alloc (wq #[I O 3,I O e.f.b,I Z e.f.h,J e.f.f,I Z e.h,I O 11,A p n c] 62)).heap[w.heap.size]?=Y (wq #[I O 3,I O e.f.b,I Z e.f.h,J e.f.f,I Z e.h,I O 11,A p n c] 62 (0,0))):=p9 w _;have B:Hid (xL xD 126 #[xS #[I O 3,I O e.f.b,I Z e.f.h,J e.f.f,I Z e.h,I O 11,A p n c],AJ xj,AJ xj,AJ wP] (w.alloc (wq #[I O 3,I O e.f.b,I Z e.f.h,J e.f.f,I Z e.h,I O 11,A p n c] 62)) (am (bs xj xj wP e) (w.alloc (wq #[I O 3,I O e.f.b,I Z e.f.h,J e.f.f,I Z e.h,I O 11,A p n c] 62)))):=by
   have h:=ny e p n c (w.alloc (wq #[I O 3,I O e.f.b,I Z e.f.h,J e.f.f,I Z e.h,I O 11,A p n c] 62)) z;rw[u,j]at h;exact h
  have v:=Hd hex;rw[u,j];clear k hm u z hex
  go_enter Tryz.func128,Tryz.ntmps128
  go_wp2_with fail
  refine B.o.mono ?_;rintro D W2 ⟨rfl,g⟩;have a:=Hd (l.o.trans (g.mono l.o.size));have m:Hid (FK w W2):=a.o;have i:=aa g f.o (EN.1 f.o).1;have K:W2.cell? ⟨w.heap.size,5,U⟩=Y (I O 11):=by rw[FI _ _ _ _ _ _ i];rfl
  have L:W2.cell? ⟨w.heap.size,6,U⟩=Y (A p n c):=by rw[FI _ _ _ _ _ _ i];rfl
  clear g i B f
  cases s:bs xj xj wP e with
  | false =>
   have b:=Hd s;clear s;go_wp2_with fail
   go_ret;exact⟨by rw[b.o];rfl,a.o⟩
  | true =>
   have b:=Hd s;clear s
   by_cases hlen:n=1
   ·subst hlen;have C:=Hd (v.o (by omega) W2 m.o);go_wp2_with fail
    refine C.o.mono ?_;rintro D M ⟨rfl,q⟩;have x:=Hd (a.o.trans (q.mono a.o.size));clear q C;go_wp2_with fail
    go_ret;exact⟨by rw[b.o];simp,x.o⟩
   ·have y:¬((n:Int)=1):=by omega
    have E:((n:Int)==1)=false:=by simpa using y
    have r:(n==1)=false:=by simpa using hlen
    go_wp2_with fail
    go_ret;exact⟨by rw[b.o];simp[r],a.o⟩
 have hm:(cy nv e&&all)=(bs xj xj wP e&&xv (1≤e.op)&&xv (e.op≤11)&&(n==2)&&all):=by
  have hw:(if e.op==4||e.op==11 then 1 else 2)=(2:Nat):=by rw[show (e.op==4)=xj by simpa using t,show (e.op==11)=xj by simpa using j];rfl
  unfold cy bs;rw[hw,u,z]
  cases zeroV e.f<;>cases (e.h==0)<;>cases xv (1≤e.op)<;>cases xv (e.op≤11)<;>cases (n==2)<;>cases all<;>rfl
 rw[hm];have k:FK w (w.alloc (wq #[I O 3,I O e.f.b,I Z e.f.h,J e.f.f,I Z e.h,I O e.op,A p n c] 62)):=(EP _ w).alloc (EO _) _;have l:=Hd k;have f:Hid ((w.alloc (wq #[I O 3,I O e.f.b,I Z e.f.h,J e.f.f,I Z e.h,I O e.op,A p n c] 62)).heap[w.heap.size]?=Y (wq #[I O 3,I O e.f.b,I Z e.f.h,J e.f.f,I Z e.h,I O e.op,A p n c] 62 (0,0))):=p9 w _;have B:Hid (xL xD 126 #[xS #[I O 3,I O e.f.b,I Z e.f.h,J e.f.f,I Z e.h,I O e.op,A p n c],AJ xj,AJ xj,AJ wP] (w.alloc (wq #[I O 3,I O e.f.b,I Z e.f.h,J e.f.f,I Z e.h,I O e.op,A p n c] 62)) (am (bs xj xj wP e) (w.alloc (wq #[I O 3,I O e.f.b,I Z e.f.h,J e.f.f,I Z e.h,I O e.op,A p n c] 62)))):=by
  have h:=ny e p n c (w.alloc (wq #[I O 3,I O e.f.b,I Z e.f.h,J e.f.f,I Z e.h,I O e.op,A p n c] 62)) z;rw[u]at h;exact h
 have v:=Hd hex;have N:(e.op==4)=false:=by simpa using t
 have H:(e.op==11)=false:=by simpa using j
 rw[u];clear k hm u z hex
 go_enter Tryz.func128,Tryz.ntmps128
 go_wp2_with fail
 refine B.o.mono ?_;rintro D W2 ⟨rfl,g⟩;have a:=Hd (l.o.trans (g.mono l.o.size));have m:Hid (FK w W2):=a.o;have i:=aa g f.o (EN.1 f.o).1;have K:W2.cell? ⟨w.heap.size,5,U⟩=Y (I O e.op):=by rw[FI _ _ _ _ _ _ i];rfl
 have L:W2.cell? ⟨w.heap.size,6,U⟩=Y (A p n c):=by rw[FI _ _ _ _ _ _ i];rfl
 clear g i B f
 cases s:bs xj xj wP e with
 | false =>
  have b:=Hd s;clear s;go_wp2_with fail
  go_ret;exact⟨by rw[b.o];rfl,a.o⟩
 | true =>
  have b:=Hd s;clear s
  by_cases P:1≤e.op
  ·by_cases G:e.op≤11
   ·by_cases hlen:n=2
    ·subst hlen;have C:=Hd (v.o (by omega) W2 m.o);go_wp2_with fail
     refine C.o.mono ?_;rintro D M ⟨rfl,q⟩;have x:=Hd (a.o.trans (q.mono a.o.size));clear q C;go_wp2_with fail
     go_ret;exact⟨by rw[b.o];simp[P,G],x.o⟩
    ·have y:¬((n:Int)=2):=by omega
     have E:((n:Int)==2)=false:=by simpa using y
     have r:(n==2)=false:=by simpa using hlen
     go_wp2_with fail
     go_ret;exact⟨by rw[b.o];simp[r],a.o⟩
   ·have Q:xv (e.op≤11)=false:=r6 G;go_wp2_with fail
    go_ret;exact⟨by rw[b.o];simp;omega,a.o⟩
  ·have R:xv (1≤e.op)=false:=r6 P;go_wp2_with fail
   go_ret;exact⟨by rw[b.o];simp;omega,a.o⟩
theorem mp(S:Nat)(nv:Int):∀d,kP S nv d (dQ nv d):=by
 intro d
 induction d with
 | zero =>
  intro e s w m f j;obtain⟨p,c,rfl⟩:=bg j;have n:e.u=[]:=j.1
  by_cases k:e.b=1
  ·exact uw S nv e p _ c w k V f
  by_cases l:e.b=2
  ·exact zU S nv e p _ c w l V m
  by_cases i:e.b=3
  ·have h:=Df S nv e wP p e.u.length c w i V (fun o=>absurd (by rw[n];rfl) o);rw[Bool.and_true]at h;exact h
  ·exact tZ S nv e p _ c w ⟨k,l,i⟩
 | succ d r =>
  intro e s w m f j;obtain⟨p,c,rfl⟩:=bg j;have hm:dQ nv (d+1) e=(cy nv e&&e.u.all (dQ nv d)):=rfl;have a:e.b≠3→(cy nv e&&e.u.all (dQ nv d))=cy nv e:=fun i=>by
   cases g:cy nv e with
   | false=>rfl
   | true =>
    have he:e.u.isEmpty=true:=by
     unfold cy at g
     split at g
     ·simp only[Ff]at g;exact g.1.2
     ·split at g
      ·simp only[Ff]at g;exact g.1.1.2
      ·split at g
       ·rename_i h;exact absurd (by simpa using h) i
       ·cases g
    rw[List.isEmpty_iff.1 he];rfl
  by_cases k:e.b=1
  ·rw[hm,a (by omega)];exact uw S nv e p _ c w k V f
  by_cases l:e.b=2
  ·rw[hm,a (by omega)];exact zU S nv e p _ c w l V m
  by_cases i:e.b=3
  ·rw[hm];exact Df S nv e _ p e.u.length c w i V (fun _ W q=>lJ S nv d (dQ nv d) r e.u _ W (m.z q) (Rd.y (fun b (h:b<w.heap.size)=>ET h q.size) (Rd.X j (fun _ h=>h) q)))
  ·rw[hm,a i];exact tZ S nv e p _ c w ⟨k,l,i⟩
structure SuW (F:Nat→Prop) (S d:Nat) (types:List ae) (rules:List an) (vT vR:wF) (nv nf:Int) (W:wD):Prop where
 h:W.heap[S]?=Y (wq #[vT,vR,I Z nv,I Z nf] 94 (0,0))
 f:∀b,F b→b<W.heap.size∧b≠S
 t:bV.K W F types vT
 r:(bX d).K W F rules vR
section
variable {F:Nat→Prop} {S d:Nat} {types:List ae} {rules:List an} {vT vR:wF} {nv nf:Int} {W W':wD}
theorem SuW.lt(h:SuW F S d types rules vT vR nv nf W):S<W.heap.size:=(EN.1 h.h).1
theorem SuW.z(h:SuW F S d types rules vT vR nv nf W)(c:FK W W'):SuW F S d types rules vT vR nv nf W':=
 ⟨aa c h.h h.lt,fun b a=>⟨ET (h.f b a).1 c.size,(h.f b a).2⟩,Rd.X h.t (fun b a=>(h.f b a).1) c,Rd.X h.r (fun b a=>(h.f b a).1) c⟩
theorem SuW.b(h:SuW F S d types rules vT vR nv nf W):ir S nv W:=by
 unfold ir;rw[FI _ _ _ _ _ _ h.h];rfl
theorem SuW.setV(h:SuW F S d types rules vT vR nv nf W)(x:Int):SuW F S d types rules vT vR x nf (W.setCell ⟨S,2,U⟩ (I Z x)):=by
 have a:∀b,F b→∀o,W.heap[b]?=Y o→(W.setCell ⟨S,2,U⟩ (I Z x)).heap[b]?=Y o:=fun b c o e=>by rw[ER _ _ _ _ (h.f b c).2];exact e
 exact⟨heap_set h.h 2 _,fun b c=>⟨by simp[World.setCell];exact (h.f b c).1,(h.f b c).2⟩,Rd.f a h.t,Rd.f a h.r⟩
theorem SuW.setF(h:SuW F S d types rules vT vR nv nf W)(x:Int):SuW F S d types rules vT vR nv x (W.setCell ⟨S,3,U⟩ (I Z x)):=by
 have a:∀b,F b→∀o,W.heap[b]?=Y o→(W.setCell ⟨S,3,U⟩ (I Z x)).heap[b]?=Y o:=fun b c o e=>by rw[ER _ _ _ _ (h.f b c).2];exact e
 exact⟨heap_set h.h 3 _,fun b c=>⟨by simp[World.setCell];exact (h.f b c).1,(h.f b c).2⟩,Rd.f a h.t,Rd.f a h.r⟩
end
theorem lG(F:Nat→Prop)(S d:Nat)(types:List ae)(rules:List an)(vT vR:wF)(nv nf k m:Int)(w:wD)(hw:SuW F S d types rules vT vR nv nf w) :
  xL xD 125 #[xV (Y ⟨S,0,U⟩),I Z k,I Z m] w (am (bH types k m) w):=by
 obtain⟨p,c,u⟩:=Rd.b hw.t;have e:=Rd.tT hw.t;obtain⟨n,g⟩:=zzy (types.length);rw[g]at u e;subst u;have v:(n:Int)≤9223372036854775807:=by unfold maxLen at e;omega
 have m0:w.cell? ⟨S,0,U⟩=Y (A p n c):=by rw[FI _ _ _ _ _ _ hw.h];rfl
 by_cases o:0≤k
 ·obtain⟨j,rfl⟩:∃j:Nat,k=j:=⟨k.toNat,by omega⟩
  by_cases x:j<n
  ·obtain⟨t,q⟩:∃t,types[j]?=Y t:=⟨_,ES (by rw[g];exact x)⟩;have a:bH types (j:Int) m=(t.b==m):=by
    unfold bH;rw[decide_eq_true o,decide_eq_true (by omega),Int.toNat_natCast,q];rfl
   rw[a];have i:=Rd.tS hw.t q;rw[g]at i;obtain⟨b,off,cap,vs,r,_,_,_,_,l,f⟩:=i;injection r with y _ z
   subst y;subst z;obtain⟨rfl,_,_⟩:=gp.1 l;have B:w.cell? ⟨b,off+j*2+1,U⟩=Y (I Z t.b):=f 1 _ V;have s:(j:Int)<n:=by omega
   clear hw l f a g e q
   go_enter Tryz.func125,Tryz.ntmps125
   go_wp2_with fail
   go_ret;exact⟨V,EP _ _⟩
  ·have a:bH types (j:Int) m=false:=by
    unfold bH;rw[decide_eq_true o,r6 (show ¬(j:Int)<types.length by omega)];rfl
   rw[a];have s:¬(j:Int)<n:=by omega
   clear hw a g e
   go_enter Tryz.func125,Tryz.ntmps125
   go_wp2_with fail
   go_ret;exact⟨V,EP _ _⟩
 ·have a:bH types k m=false:=by
   unfold bH;rw[r6 o];rfl
  rw[a];clear hw a g e
  go_enter Tryz.func125,Tryz.ntmps125
  go_wp2_with fail
  go_ret;exact⟨V,EP _ _⟩
def li(F:Nat→Prop) (S d:Nat) (types:List ae) (rules:List an) (vT vR:wF) (nf:Int) (r:Option Int) (w:wD) (e:Ending) (w':wD):Prop:=
 Chg (fun b=>b=S) w w'∧e=Ending.returned (AJ r.isSome)∧∃a,SuW F S d types rules vT vR a nf w'∧∀v,r=Y v→a=v
theorem gr{F:Nat→Prop}{S d:Nat}{types:List ae}{rules:List an}{vT vR:wF}{nv nf:Int}{res:Option Int}{b:Bool}{w w1:wD}(c:Chg (fun b=>b=S) w w1)(hw:SuW F S d types rules vT vR nv nf w1)(h:res=if b then Y nv else U):li F S d types rules vT vR nf res w (Ending.returned (AJ b)) w1:=
 ⟨c,by rw[h];cases b<;>rfl,nv,hw,fun v a=>by
  rw[h]at a
  cases b with
  | true=>injection a
  | false=>cases a⟩
theorem As(F:Nat→Prop)(S d:Nat)(types:List ae)(rules:List an)(vT vR:wF)(nv nf:Int)(l c e f:Int)(a:ByteArray)(binds:Bool)(w:wD)(hw:SuW F S d types rules vT vR nv nf w)(t:l=1):xL xD 127 #[xV (Y ⟨S,0,U⟩),xS #[I O l,I Z c,I O e,I Z f,J a],AJ binds] w (li F S d types rules vT vR nf (bZ binds nv ⟨l,c,e,f,a⟩) w):=by
 obtain⟨z,u⟩:=zzy (zeroV ⟨e,f,a⟩);have s:Hid (z=(e==0&&f==0&&xv (a.toList=[]))):=by
  show _=_
  rw[←u];unfold zeroV;rw[show xv (a.toList=[])=a.data.toList.isEmpty by rw[Fw,sy];exact gd _]
 have h:FK w (w.alloc (wq #[I O 1,I Z c,I O e,I Z f,J a] 67)):=(EP _ w).alloc (EO _) _;have m:(w.alloc (wq #[I O 1,I Z c,I O e,I Z f,J a] 67)).heap[w.heap.size]?=Y (wq #[I O 1,I Z c,I O e,I Z f,J a] 67 (0,0)):=p9 w _;obtain⟨i,n,j,B⟩:=zz4 h m (hw.z h) hw.lt;have hm:bZ binds nv ⟨l,c,e,f,a⟩=if c==0&&z then Y nv else none:=by
  unfold bZ;dsimp only;rw[t,u];rfl
 obtain⟨res,g⟩:=zzx (bZ binds nv ⟨l,c,e,f,a⟩);have x:Hid (res=if c==0&&z then Y nv else U):=g.trans hm;rw[←g,t];clear h m hw u hm g t;obtain⟨w1,k⟩:=zzx (w.alloc (wq #[I O 1,I Z c,I O e,I Z f,J a] 67));rw[←k]at i n j
 go_enter Tryz.func127,Tryz.ntmps127
 go_upto_region 1 with fail
 change AR _ _ _ _ (w.alloc (wq #[I O 1,I Z c,I O e,I Z f,J a] 67));rw[←k];clear k;obtain⟨C,D,E,G,H⟩:=cells5 n.o
 go_cut [7] from 8 to 11 (fun v W=>v=AJ z∧w1=W)
 case first =>
  by_cases p:e=0
  ·subst p
   by_cases q:f=0
   ·subst q
    by_cases r:a.toList=[]
    ·go_wp2_with fail
     go_meet
     case rel=>exact⟨by rw[s.o];simp[r],V⟩
    ·go_wp2_with fail
     go_meet
     case rel=>exact⟨by rw[s.o];simp[r],V⟩
   ·go_wp2_with fail
    go_meet
    case rel=>exact⟨by rw[s.o];simp[q],V⟩
  ·go_wp2_with fail
   go_meet
   case rel=>exact⟨by rw[s.o];simp[p],V⟩
 case rest =>
  obtain⟨rfl,rfl⟩:=hcut
  by_cases y:c=0
  ·subst y;go_wp2_with fail
   go_ret;exact gr (Chg.f i.o) j.o x.o
  ·go_wp2_with fail
   go_ret;exact gr (b:=xj) (Chg.f i.o) j.o (by rw[x.o,show (c==0)=xj by simpa using y];rfl)
theorem AE(F:Nat→Prop)(S d:Nat)(types:List ae)(rules:List an)(vT vR:wF)(nv nf:Int)(L i j k:Int)(g:ByteArray)(binds:Bool)(w:wD)(hw:SuW F S d types rules vT vR nv nf w)(hk:L=2)(af:0≤nv∧nv≤1000000):xL xD 127 #[xV (Y ⟨S,0,U⟩),xS #[I O L,I Z i,I O j,I Z k,J g],AJ binds] w (li F S d types rules vT vR nf (bZ binds nv ⟨L,i,j,k,g⟩) w):=by
 obtain⟨z,hz⟩:=zzy (zeroV ⟨j,k,g⟩);have HZ:Hid (z=(j==0&&k==0&&xv (g.toList=[]))):=by
  show _=_
  rw[←hz];unfold zeroV;rw[show xv (g.toList=[])=g.data.toList.isEmpty by rw[Fw,sy];exact gd _]
 have t:FK w (w.alloc (wq #[I O 2,I Z i,I O j,I Z k,J g] 67)):=(EP _ w).alloc (EO _) _;have M:(w.alloc (wq #[I O 2,I Z i,I O j,I Z k,J g] 67)).heap[w.heap.size]?=Y (wq #[I O 2,I Z i,I O j,I Z k,J g] 67 (0,0)):=p9 w _;obtain⟨N,u,r,ad⟩:=zz4 t M (hw.z t) hw.lt;have hm:bZ binds nv ⟨L,i,j,k,g⟩=if binds&&i==nv&&z then Y (nv+1) else none:=by
  unfold bZ;dsimp only;rw[hk,hz];rfl
 obtain⟨res,m⟩:=zzx (bZ binds nv ⟨L,i,j,k,g⟩);have HR:Hid (res=if binds&&i==nv&&z then Y (nv+1) else U):=m.trans hm;rw[←m,hk];clear t M hw hz hm m hk;obtain⟨w1,y⟩:=zzx (w.alloc (wq #[I O 2,I Z i,I O j,I Z k,J g] 67));rw[←y]at N u r
 go_enter Tryz.func127,Tryz.ntmps127
 go_upto_region 1 with fail
 change AR _ _ _ _ (w.alloc (wq #[I O 2,I Z i,I O j,I Z k,J g] 67));rw[←y];clear y;obtain⟨B,q,C,D,E⟩:=cells5 u.o
 go_cut [7] from 8 to 11 (fun v W=>v=AJ z∧w1=W)
 case first =>
  by_cases P:j=0
  ·subst P
   by_cases Q:k=0
   ·subst Q
    by_cases R:g.toList=[]
    ·go_wp2_with fail
     go_meet
     case rel=>exact⟨by rw[HZ.o];simp[R],V⟩
    ·go_wp2_with fail
     go_meet
     case rel=>exact⟨by rw[HZ.o];simp[R],V⟩
   ·go_wp2_with fail
    go_meet
    case rel=>exact⟨by rw[HZ.o];simp[Q],V⟩
  ·go_wp2_with fail
   go_meet
   case rel=>exact⟨by rw[HZ.o];simp[P],V⟩
 case rest =>
  obtain⟨rfl,rfl⟩:=hcut;have a:w1.cell? ⟨S,2,U⟩=Y (I Z nv):=r.o.b;have fz:=aE r.o.h;obtain⟨l,n⟩:=zzx (w1.setCell ⟨S,2,U⟩ (I Z (nv+1)));have s:Hid (SuW F S d types rules vT vR (nv+1) nf l):=by show SuW _ _ _ _ _ _ _ _ _ _;rw[n];exact r.o.setV _
  have G:Hid (Chg (fun b=>b=S) w l):=by show Chg _ _ _;rw[n];exact Chg.y (F:=fun b=>b=S) (Chg.f N.o) (p:=⟨S,2,U⟩) (Or.inl V) _
  have T:w.heap.size≠S:=by have:=ad.o;omega
  have X:l.heap[w.heap.size]?=Y (wq #[I O 2,I Z i,I O j,I Z k,J g] 67 (0,0)):=by rw[n,ER _ _ _ _ T];exact u.o
  have H:=Hd X;clear T X;go_upto_region 7 with fail
  change AR _ _ _ _ (w1.setCell ⟨S,2,U⟩ (I Z (nv+1)));rw[←n];clear n a fz B q C D E;have a:l.cell? ⟨S,2,U⟩=Y (I Z (nv+1)):=s.o.b
  cases binds with
  | false =>
   obtain⟨B,q,C,D,E⟩:=cells5 H.o;have V2:=fun x:Wb l=>x.b a
   have E1:=fun x:Wb l=>x.b q
   go_upto_region 7 with fail
   clear a B q C D E;refine au (by kernel_rfl) (by kernel_rfl) ?_
   repeat (go_big_quiet_step (fail))
   refine Bk ?_;intro W2 c;have e:=a7 c;have f:=Hd e;clear c e E1 V2;go_wp2_with fail
   go_ret;exact gr (b:=xj) (G.o.b (Chg.f f.o)) (s.o.z f.o) HR.o
  | true =>
   by_cases K:i=nv
   ·subst K;obtain⟨B,q,C,D,E⟩:=cells5 H.o;have V2:=fun x:Wb l=>x.b a
    have E1:=fun x:Wb l=>x.b q
    go_upto_region 7 with fail
    clear a B q C D E;refine au (by kernel_rfl) (by kernel_rfl) ?_
    repeat (go_big_quiet_step (fail))
    refine Bk ?_;intro W2 c;have e:=a7 c;have f:=Hd e;clear c e E1 V2;go_wp2_with fail
    go_ret;exact gr (G.o.b (Chg.f f.o)) (s.o.z f.o) (by rw[HR.o];simp)
   ·have al:(i==nv)=false:=by simpa using K
    obtain⟨B,q,C,D,E⟩:=cells5 H.o;have V2:=fun x:Wb l=>x.b a
    have E1:=fun x:Wb l=>x.b q
    go_upto_region 7 with fail
    clear a B q C D E;refine au (by kernel_rfl) (by kernel_rfl) ?_
    repeat (go_big_quiet_step (fail))
    refine Bk ?_;intro W2 c;have e:=a7 c;have f:=Hd e;clear c e E1 V2;go_wp2_with fail
    go_ret;exact gr (b:=xj) (G.o.b (Chg.f f.o)) (s.o.z f.o) (by rw[HR.o];simp[K])
theorem vK(F:Nat→Prop)(S d:Nat)(types:List ae)(rules:List an)(vT vR:wF)(nv nf:Int)(D a i j:Int)(g:ByteArray)(binds:Bool)(w:wD)(hw:SuW F S d types rules vT vR nv nf w)(Q:D=3):xL xD 127 #[xV (Y ⟨S,0,U⟩),xS #[I O D,I Z a,I O i,I Z j,J g],AJ binds] w (li F S d types rules vT vR nf (bZ binds nv ⟨D,a,i,j,g⟩) w):=by
 obtain⟨z,R⟩:=zzy (zeroV ⟨i,j,g⟩);have P:Hid (z=(i==0&&j==0&&xv (g.toList=[]))):=by
  show _=_
  rw[←R];unfold zeroV;rw[show xv (g.toList=[])=g.data.toList.isEmpty by rw[Fw,sy];exact gd _]
 have s:FK w (w.alloc (wq #[I O 3,I Z a,I O i,I Z j,J g] 67)):=(EP _ w).alloc (EO _) _;have E:(w.alloc (wq #[I O 3,I Z a,I O i,I Z j,J g] 67)).heap[w.heap.size]?=Y (wq #[I O 3,I Z a,I O i,I Z j,J g] 67 (0,0)):=p9 w _;obtain⟨r,k,l,ad⟩:=zz4 s E (hw.z s) hw.lt;have hm:bZ binds nv ⟨D,a,i,j,g⟩=if xv (0≤a)&&xv (a<nv)&&z then Y nv else none:=by
  unfold bZ;dsimp only;rw[Q,R];rfl
 obtain⟨res,m⟩:=zzx (bZ binds nv ⟨D,a,i,j,g⟩);have T:Hid (res=if xv (0≤a)&&xv (a<nv)&&z then Y nv else U):=m.trans hm;rw[←m,Q];clear s E hw R hm m Q;obtain⟨w1,t⟩:=zzx (w.alloc (wq #[I O 3,I Z a,I O i,I Z j,J g] 67));rw[←t]at r k l
 go_enter Tryz.func127,Tryz.ntmps127
 go_upto_region 1 with fail
 change AR _ _ _ _ (w.alloc (wq #[I O 3,I Z a,I O i,I Z j,J g] 67));rw[←t];clear t;obtain⟨u,q,y,B,C⟩:=cells5 k.o
 go_cut [7] from 8 to 11 (fun v W=>v=AJ z∧w1=W)
 case first =>
  by_cases G:i=0
  ·subst G
   by_cases H:j=0
   ·subst H
    by_cases K:g.toList=[]
    ·go_wp2_with fail
     go_meet
     case rel=>exact⟨by rw[P.o];simp[K],V⟩
    ·go_wp2_with fail
     go_meet
     case rel=>exact⟨by rw[P.o];simp[K],V⟩
   ·go_wp2_with fail
    go_meet
    case rel=>exact⟨by rw[P.o];simp[H],V⟩
  ·go_wp2_with fail
   go_meet
   case rel=>exact⟨by rw[P.o];simp[G],V⟩
 case rest =>
  obtain⟨rfl,rfl⟩:=hcut;have h:w1.cell? ⟨S,2,U⟩=Y (I Z nv):=l.o.b;clear u q y B C
  by_cases X:0≤a
  ·by_cases L:a<nv
   ·have n:xv (0≤a)=true:=decide_eq_true X;have p:xv (a<nv)=true:=decide_eq_true L;obtain⟨u,q,y,B,C⟩:=cells5 k.o;have M:=fun x:Wb w1=>x.b h
    have N:=fun x:Wb w1=>x.b q
    go_upto_region 9 with fail
    clear h u q y B C;refine au (by kernel_rfl) (by kernel_rfl) ?_
    repeat (go_big_quiet_step (fail))
    refine Bk ?_;intro W2 c;have e:=a7 c;have f:=Hd e;clear c e N M;go_wp2_with fail
    go_ret;exact gr ((Chg.f r.o).b (Chg.f f.o)) (l.o.z f.o) (by rw[T.o,n,p];rfl)
   ·have n:xv (0≤a)=true:=decide_eq_true X;have p:xv (a<nv)=false:=r6 L;obtain⟨u,q,y,B,C⟩:=cells5 k.o;have M:=fun x:Wb w1=>x.b h
    have N:=fun x:Wb w1=>x.b q
    go_upto_region 9 with fail
    clear h u q y B C;refine au (by kernel_rfl) (by kernel_rfl) ?_
    repeat (go_big_quiet_step (fail))
    refine Bk ?_;intro W2 c;have e:=a7 c;have f:=Hd e;clear c e N M;go_wp2_with fail
    go_ret;exact gr (b:=xj) ((Chg.f r.o).b (Chg.f f.o)) (l.o.z f.o) (by rw[T.o,n,p];rfl)
  ·have n:xv (0≤a)=false:=r6 X;obtain⟨u,q,y,B,C⟩:=cells5 k.o;have M:=fun x:Wb w1=>x.b h
   have N:=fun x:Wb w1=>x.b q
   go_upto_region 9 with fail
   clear h u q y B C;refine au (by kernel_rfl) (by kernel_rfl) ?_
   repeat (go_big_quiet_step (fail))
   refine Bk ?_;intro W2 c;have e:=a7 c;have f:=Hd e;clear c e N M;go_wp2_with fail
   go_ret;exact gr (b:=xj) ((Chg.f r.o).b (Chg.f f.o)) (l.o.z f.o) (by rw[T.o,n];rfl)
theorem yI(F:Nat→Prop)(S d:Nat)(types:List ae)(rules:List an)(vT vR:wF)(nv nf:Int)(m g c f:Int)(a:ByteArray)(binds:Bool)(w:wD)(hw:SuW F S d types rules vT vR nv nf w)(B:m=4)(C:a.size≤maxLen):xL xD 127 #[xV (Y ⟨S,0,U⟩),xS #[I O m,I Z g,I O c,I Z f,J a],AJ binds] w (li F S d types rules vT vR nf (bZ binds nv ⟨m,g,c,f,a⟩) w):=by
 obtain⟨z,D⟩:=zzy (zeroV ⟨c,f,a⟩);have y:Hid (z=(c==0&&f==0&&xv (a.toList=[]))):=by
  show _=_
  rw[←D];unfold zeroV;rw[show xv (a.toList=[])=a.data.toList.isEmpty by rw[Fw,sy];exact gd _]
 have i:FK w (w.alloc (wq #[I O 4,I Z g,I O c,I Z f,J a] 67)):=(EP _ w).alloc (EO _) _;have n:(w.alloc (wq #[I O 4,I Z g,I O c,I Z f,J a] 67)).heap[w.heap.size]?=Y (wq #[I O 4,I Z g,I O c,I Z f,J a] 67 (0,0)):=p9 w _;obtain⟨j,p,k,H⟩:=zz4 i n (hw.z i) hw.lt;have hm:bZ binds nv ⟨m,g,c,f,a⟩=if g==0&&gP ⟨c,f,a⟩ then Y nv else none:=by
  unfold bZ;dsimp only;rw[B,D];rfl
 obtain⟨res,h⟩:=zzx (bZ binds nv ⟨m,g,c,f,a⟩);have E:Hid (res=if g==0&&gP ⟨c,f,a⟩ then Y nv else U):=h.trans hm;rw[←h,B];clear i n hw D hm h B;obtain⟨w1,l⟩:=zzx (w.alloc (wq #[I O 4,I Z g,I O c,I Z f,J a] 67));rw[←l]at j p k
 go_enter Tryz.func127,Tryz.ntmps127
 go_upto_region 1 with fail
 change AR _ _ _ _ (w.alloc (wq #[I O 4,I Z g,I O c,I Z f,J a] 67));rw[←l];clear l;obtain⟨K,L,M,N,P⟩:=cells5 p.o
 go_cut [7] from 8 to 11 (fun v W=>v=AJ z∧w1=W)
 case first =>
  by_cases q:c=0
  ·subst q
   by_cases r:f=0
   ·subst r
    by_cases s:a.toList=[]
    ·go_wp2_with fail
     go_meet
     case rel=>exact⟨by rw[y.o];simp[s],V⟩
    ·go_wp2_with fail
     go_meet
     case rel=>exact⟨by rw[y.o];simp[s],V⟩
   ·go_wp2_with fail
    go_meet
    case rel=>exact⟨by rw[y.o];simp[r],V⟩
  ·go_wp2_with fail
   go_meet
   case rel=>exact⟨by rw[y.o];simp[q],V⟩
 case rest =>
  obtain⟨rfl,rfl⟩:=hcut
  by_cases G:g=0
  ·subst G;have t:=Hd (lY ⟨c,f,a⟩ w1 C);go_wp2_with fail
   refine t.o.mono ?_;rintro e W2 ⟨rfl,u⟩;have x:=Hd u;clear u t K L M N P;go_wp2_with fail
   go_ret;exact gr ((Chg.f j.o).b (Chg.f x.o)) (k.o.z x.o) (by rw[E.o];rfl)
  ·go_wp2_with fail
   go_ret;exact gr (b:=xj) (Chg.f j.o) k.o (by rw[E.o,show (g==0)=xj by simpa using G];rfl)
theorem vY(F:Nat→Prop)(S d:Nat)(types:List ae)(rules:List an)(vT vR:wF)(nv nf:Int)(a h e f:Int)(c:ByteArray)(binds:Bool)(w:wD)(hw:SuW F S d types rules vT vR nv nf w)(k:a≠1∧a≠2∧a≠3∧a≠4):xL xD 127 #[xV (Y ⟨S,0,U⟩),xS #[I O a,I Z h,I O e,I Z f,J c],AJ binds] w (li F S d types rules vT vR nf (bZ binds nv ⟨a,h,e,f,c⟩) w):=by
 obtain⟨z,u⟩:=zzy (zeroV ⟨e,f,c⟩);have t:Hid (z=(e==0&&f==0&&xv (c.toList=[]))):=by
  show _=_
  rw[←u];unfold zeroV;rw[show xv (c.toList=[])=c.data.toList.isEmpty by rw[Fw,sy];exact gd _]
 have i:FK w (w.alloc (wq #[I O a,I Z h,I O e,I Z f,J c] 67)):=(EP _ w).alloc (EO _) _;have l:(w.alloc (wq #[I O a,I Z h,I O e,I Z f,J c] 67)).heap[w.heap.size]?=Y (wq #[I O a,I Z h,I O e,I Z f,J c] 67 (0,0)):=p9 w _;obtain⟨m,n,p,x⟩:=zz4 i l (hw.z i) hw.lt;have hm:bZ binds nv ⟨a,h,e,f,c⟩=none:=by
  unfold bZ;dsimp only;rw[show (a==1)=xj by simpa using k.1,show (a==2)=xj by simpa using k.2.1,show (a==3)=xj by simpa using k.2.2.1,show (a==4)=xj by simpa using k.2.2.2];rfl
 obtain⟨res,g⟩:=zzx (bZ binds nv ⟨a,h,e,f,c⟩);have y:Hid (res=U):=g.trans hm;rw[←g];clear i l hw u hm g;obtain⟨w1,j⟩:=zzx (w.alloc (wq #[I O a,I Z h,I O e,I Z f,J c] 67));rw[←j]at m n p
 go_enter Tryz.func127,Tryz.ntmps127
 go_upto_region 1 with fail
 change AR _ _ _ _ (w.alloc (wq #[I O a,I Z h,I O e,I Z f,J c] 67));rw[←j];clear j;obtain⟨B,C,D,E,G⟩:=cells5 n.o
 go_cut [7] from 8 to 11 (fun v W=>v=AJ z∧w1=W)
 case first =>
  by_cases q:e=0
  ·subst q
   by_cases r:f=0
   ·subst r
    by_cases s:c.toList=[]
    ·go_wp2_with fail
     go_meet
     case rel=>exact⟨by rw[t.o];simp[s],V⟩
    ·go_wp2_with fail
     go_meet
     case rel=>exact⟨by rw[t.o];simp[s],V⟩
   ·go_wp2_with fail
    go_meet
    case rel=>exact⟨by rw[t.o];simp[r],V⟩
  ·go_wp2_with fail
   go_meet
   case rel=>exact⟨by rw[t.o];simp[q],V⟩
 case rest =>
  obtain⟨rfl,rfl⟩:=hcut;obtain⟨H,K,L,M⟩:=k;go_wp2_with fail
  go_ret;exact gr (nv:=nv) (b:=xj) (Chg.f m.o) p.o (by rw[y.o];rfl)
theorem sh(F:Nat→Prop)(S d:Nat)(types:List ae)(rules:List an)(vT vR:wF)(nv nf:Int)(a:dw)(binds:Bool)(w:wD)(hw:SuW F S d types rules vT vR nv nf w)(h:0≤nv∧nv≤1000000)(i:a.f.f.size≤maxLen) :
  xL xD 127 #[xV (Y ⟨S,0,U⟩),xS #[I O a.b,I Z a.h,I O a.f.b,I Z a.f.h,J a.f.f],AJ binds] w (li F S d types rules vT vR nf (bZ binds nv a) w):=by
 obtain⟨b,c,e,f,g⟩:=a
 by_cases j:b=1
 ·exact As F S d types rules vT vR nv nf b c e f g binds w hw j
 by_cases k:b=2
 ·exact AE F S d types rules vT vR nv nf b c e f g binds w hw k h
 by_cases l:b=3
 ·exact vK F S d types rules vT vR nv nf b c e f g binds w hw l
 by_cases m:b=4
 ·exact yI F S d types rules vT vR nv nf b c e f g binds w hw m i
 ·exact vY F S d types rules vT vR nv nf b c e f g binds w hw ⟨j,k,l,m⟩
