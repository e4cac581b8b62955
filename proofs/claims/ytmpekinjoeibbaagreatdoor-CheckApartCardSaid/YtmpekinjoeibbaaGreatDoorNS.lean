/- Parts of one proof, joined; conditions stand in each theorem. -/
import Derived.Test.YtmpekinjoeibbaaGreatDoorNR
import Derived.Test.YtmpekinjoeibbaaGreatDoorMD
open Go renaming World→p7,Calls→r9,wpQuiet_nil→vk,Value→r3
open Go.Proofs.Tryz renaming prog→r6
open Go.Value renaming pointer→tv,agg→s3,int→I,string→p9,slice→O,bool→ur
open Option renaming some→A,none→V
open Go.IntKind renaming u8→J,i64→Y
open Bool renaming true→r5,false→r7
open Go.Obj renaming cells→p8
open Decidable renaming decide→r8
open Go.Code renaming wp→wB
namespace Go.Proofs.YtmpekinjoeibbaaGreatDoor
set_option maxHeartbeats 8000000
set_option maxRecDepth 100000
open Go.RowKit
theorem uJ(S:Nat)(nv:Int)(e:aw)(p:Option Addr)(n c:Nat)(w:p7)(q:e.b=1)(u:e.u.length=n)(b:fL e) :
  r9 r6 89 #[tv (A ⟨S,0,V⟩),s3 #[I J e.b,I J e.h.b,I Y e.h.q,p9 e.h.h,I Y e.q,I J e.op,O p n c]] w (ao (cm nv e) w):=by
 have hm:cm nv e=(bj r5 r7 r7 e&&gu e.h):=by
  unfold cm bj;rw[q]
  cases (e.q==0)<;>cases (e.op==0)<;>cases e.u.isEmpty<;>cases gu e.h<;>rfl
 rw[hm];have j:FS w (w.alloc (p8 #[I J 1,I J e.h.b,I Y e.h.q,p9 e.h.h,I Y e.q,I J e.op,O p n c] 51)):=(EU _ w).alloc (ET _) _;have k:=Hd j;have l:Hid ((w.alloc (p8 #[I J 1,I J e.h.b,I Y e.h.q,p9 e.h.h,I Y e.q,I J e.op,O p n c] 51)).heap[w.heap.size]?=A (p8 #[I J 1,I J e.h.b,I Y e.h.q,p9 e.h.h,I Y e.q,I J e.op,O p n c] 51 (0,0))):=ot w _;have v:Hid (r9 r6 87 #[s3 #[I J 1,I J e.h.b,I Y e.h.q,p9 e.h.h,I Y e.q,I J e.op,O p n c],ur r5,ur r7,ur r7] (w.alloc (p8 #[I J 1,I J e.h.b,I Y e.h.q,p9 e.h.h,I Y e.q,I J e.op,O p n c] 51)) (ao (bj r5 r7 r7 e) (w.alloc (p8 #[I J 1,I J e.h.b,I Y e.h.q,p9 e.h.h,I Y e.q,I J e.op,O p n c] 51)))):=by
  have h:=zX e p n c (w.alloc (p8 #[I J 1,I J e.h.b,I Y e.h.q,p9 e.h.h,I Y e.q,I J e.op,O p n c] 51)) u;rw[q]at h;exact h
 have s:=Hd (fun W=>lF e.h W b.2.1.2.2);rw[q];clear j hm b q u
 go_enter Tryz.func89,Tryz.ntmps89
 go_wp2_with fail
 refine v.o.mono ?_;rintro x W2 ⟨rfl,f⟩;have g:=Hd (k.o.trans (f.mono k.o.size));have a:=ag f l.o (ES.1 l.o).1;have c1:W2.cell? ⟨w.heap.size,1,V⟩=A (I J e.h.b):=by rw[FR _ _ _ _ _ _ a];rfl
 have c2:W2.cell? ⟨w.heap.size,1+1,V⟩=A (I Y e.h.q):=by rw[FR _ _ _ _ _ _ a];rfl
 have y:W2.cell? ⟨w.heap.size,1+2,V⟩=A (p9 e.h.h):=by rw[FR _ _ _ _ _ _ a];rfl
 clear f a
 cases r:bj r5 r7 r7 e with
 | false =>
  have i:=Hd r;clear r;go_wp2_with fail
  go_ret;exact⟨by rw[i.o];rfl,g.o⟩
 | true =>
  have i:=Hd r;clear r;go_wp2_with fail
  refine (s.o W2).mono ?_;rintro x z ⟨rfl,m⟩;have t:=Hd (g.o.trans (m.mono g.o.size));clear m c1 c2 y;go_wp2_with fail
  go_ret;exact⟨by rw[i.o];rfl,t.o⟩
theorem ug(S:Nat)(nv:Int)(e:aw)(p:Option Addr)(n c:Nat)(w:p7)(a:e.b≠1∧e.b≠2∧e.b≠3) :
  r9 r6 89 #[tv (A ⟨S,0,V⟩),s3 #[I J e.b,I J e.h.b,I Y e.h.q,p9 e.h.h,I Y e.q,I J e.op,O p n c]] w (ao (cm nv e) w):=by
 have hm:cm nv e=false:=by
  unfold cm;rw[show (e.b==1)=r7 by simpa using a.1,show (e.b==2)=r7 by simpa using a.2.1,show (e.b==3)=r7 by simpa using a.2.2];rfl
 rw[hm];obtain⟨f,g,h⟩:=a;have b:Hid (FS w (w.alloc (p8 #[I J e.b,I J e.h.b,I Y e.h.q,p9 e.h.h,I Y e.q,I J e.op,O p n c] 51))):=(EU _ w).alloc (ET _) _;clear hm
 go_enter Tryz.func89,Tryz.ntmps89
 go_wp2_with fail
 go_ret;exact⟨Z,b.o⟩
theorem Ac(S:Nat)(nv:Int)(e:aw)(p:Option Addr)(n c:Nat)(w:p7)(s:e.b=2)(H:e.u.length=n)(hv:ii S nv w) :
  r9 r6 89 #[tv (A ⟨S,0,V⟩),s3 #[I J e.b,I J e.h.b,I Y e.h.q,p9 e.h.h,I Y e.q,I J e.op,O p n c]] w (ao (cm nv e) w):=by
 have hm:cm nv e=(bj r7 r5 r7 e&&r8 (0≤e.q)&&r8 (e.q<nv)):=by
  unfold cm bj;rw[s]
  cases zeroV e.h<;>cases (e.op==0)<;>cases e.u.isEmpty<;>rfl
 rw[hm];obtain⟨w1,j⟩:=zzx (w.alloc (p8 #[I J 2,I J e.h.b,I Y e.h.q,p9 e.h.h,I Y e.q,I J e.op,O p n c] 51));have m:FS w w1:=by rw[j];exact (EU _ w).alloc (ET _) _
 have a:w1.heap[w.heap.size]?=A (p8 #[I J 2,I J e.h.b,I Y e.h.q,p9 e.h.h,I Y e.q,I J e.op,O p n c] 51 (0,0)):=by rw[j];exact ot w _
 have g:=Hd m
 have l:=Hd (fun (x:Wb w1)=>(show r9 r6 87 #[s3 #[I J 2,I J e.h.b,I Y e.h.q,p9 e.h.h,I Y e.q,I J e.op,O p n c],ur r7,ur r5,ur r7] x.1 (ao (bj r7 r5 r7 e) x.1) by
  have h:=BC e p n c x.1 H;rw[s]at h
  exact h))
 have r:w1.cell? ⟨S,2,V⟩=A (I Y nv):=hv.C m;have K:w1.cell? ⟨w.heap.size,0,V⟩=A (I J 2):=by rw[FR _ _ _ _ _ _ a];rfl
 have L:w1.cell? ⟨w.heap.size,1,V⟩=A (I J e.h.b):=by rw[FR _ _ _ _ _ _ a];rfl
 have M:w1.cell? ⟨w.heap.size,2,V⟩=A (I Y e.h.q):=by rw[FR _ _ _ _ _ _ a];rfl
 have N:w1.cell? ⟨w.heap.size,3,V⟩=A (p9 e.h.h):=by rw[FR _ _ _ _ _ _ a];rfl
 have P:w1.cell? ⟨w.heap.size,4,V⟩=A (I Y e.q):=by rw[FR _ _ _ _ _ _ a];rfl
 have Q:w1.cell? ⟨w.heap.size,5,V⟩=A (I J e.op):=by rw[FR _ _ _ _ _ _ a];rfl
 have R:w1.cell? ⟨w.heap.size,6,V⟩=A (O p n c):=by rw[FR _ _ _ _ _ _ a];rfl
 have u:=fun x:Wb w1=>x.b K
 have v:=fun x:Wb w1=>x.b L
 have y:=fun x:Wb w1=>x.b M
 have z:=fun x:Wb w1=>x.b N
 have B:=fun x:Wb w1=>x.b P
 have C:=fun x:Wb w1=>x.b Q
 have D:=fun x:Wb w1=>x.b R
 have E:=fun x:Wb w1=>x.b r
 rw[s];clear m a hm s H hv
 go_enter Tryz.func89,Tryz.ntmps89
 go_upto_region 1 with fail
 change wB _ _ _ _ (w.alloc (p8 #[I J 2,I J e.h.b,I Y e.h.q,p9 e.h.h,I Y e.q,I J e.op,O p n c] 51));rw[←j];clear j;go_upto_region 5 with fail
 clear K L M N P Q R r
 cases q:bj r7 r5 r7 e with
 | false =>
  rw[q]at l;have k:=Hd q;clear q;refine aj (by kernel_rfl) (by kernel_rfl) ?_
  repeat (go_big_quiet_step ((go_at_call 87;exact Calls.b (l.o _))))
  refine vk ?_;intro W2 b;have f:=aE b;have i:=Hd (g.o.trans (f.mono g.o.size));clear b f u v y z B C D E l;go_wp2_with fail
  go_ret;exact⟨by rw[k.o];rfl,i.o⟩
 | true =>
  rw[q]at l;have k:=Hd q;clear q
  by_cases t:0≤e.q
  ·have G:r8 (0≤e.q)=true:=decide_eq_true t;refine aj (by kernel_rfl) (by kernel_rfl) ?_
   repeat (go_big_quiet_step ((go_at_call 87;exact Calls.b (l.o _))))
   refine vk ?_;intro W2 b;have f:=aE b;have i:=Hd (g.o.trans (f.mono g.o.size));clear b f u v y z B C D E l;go_wp2_with fail
   go_ret;exact⟨by rw[k.o,decide_eq_true t];rfl,i.o⟩
  ·have G:r8 (0≤e.q)=false:=oB t;have T:Hid (¬0≤e.q):=t;refine aj (by kernel_rfl) (by kernel_rfl) ?_
   repeat (go_big_quiet_step ((go_at_call 87;exact Calls.b (l.o _))))
   refine vk ?_;intro W2 b;have f:=aE b;have i:=Hd (g.o.trans (f.mono g.o.size));clear b f u v y z B C D E l;go_wp2_with fail
   go_ret;exact⟨by first|(rw[k.o,oB T.o];rfl)|rfl|simp_all,i.o⟩
theorem Dj(S:Nat)(nv:Int)(e:aw)(all:Bool)(p:Option Addr)(n c:Nat)(w:p7)(u:e.b=3)(z:e.u.length=n)
  (hex:n≠0→∀W,FS w W→r9 r6 91 #[tv (A ⟨S,0,V⟩),O p n c] W (ao all W)) :
  r9 r6 89 #[tv (A ⟨S,0,V⟩),s3 #[I J e.b,I J e.h.b,I Y e.h.q,p9 e.h.h,I Y e.q,I J e.op,O p n c]] w (ao (cm nv e&&all) w):=by
 by_cases t:e.op=4
 ·have hm:(cm nv e&&all)=(bj r7 r7 r5 e&&(n==1)&&all):=by
   have hw:(if e.op==4||e.op==11 then 1 else 2)=(1:Nat):=by rw[t];rfl
   unfold cm bj;rw[hw,u,t,z]
   cases zeroV e.h<;>cases (e.q==0)<;>cases (n==1)<;>cases all<;>rfl
  rw[hm];have k:FS w (w.alloc (p8 #[I J 3,I J e.h.b,I Y e.h.q,p9 e.h.h,I Y e.q,I J 4,O p n c] 51)):=(EU _ w).alloc (ET _) _;have l:=Hd k;have f:Hid ((w.alloc (p8 #[I J 3,I J e.h.b,I Y e.h.q,p9 e.h.h,I Y e.q,I J 4,O p n c] 51)).heap[w.heap.size]?=A (p8 #[I J 3,I J e.h.b,I Y e.h.q,p9 e.h.h,I Y e.q,I J 4,O p n c] 51 (0,0))):=ot w _;have B:Hid (r9 r6 87 #[s3 #[I J 3,I J e.h.b,I Y e.h.q,p9 e.h.h,I Y e.q,I J 4,O p n c],ur r7,ur r7,ur r5] (w.alloc (p8 #[I J 3,I J e.h.b,I Y e.h.q,p9 e.h.h,I Y e.q,I J 4,O p n c] 51)) (ao (bj r7 r7 r5 e) (w.alloc (p8 #[I J 3,I J e.h.b,I Y e.h.q,p9 e.h.h,I Y e.q,I J 4,O p n c] 51)))):=by
   have h:=mN e p n c (w.alloc (p8 #[I J 3,I J e.h.b,I Y e.h.q,p9 e.h.h,I Y e.q,I J 4,O p n c] 51)) z;rw[u,t]at h;exact h
  have v:=Hd hex;rw[u,t];clear k hm u z hex
  go_enter Tryz.func89,Tryz.ntmps89
  go_wp2_with fail
  refine B.o.mono ?_;rintro D W2 ⟨rfl,g⟩;have a:=Hd (l.o.trans (g.mono l.o.size));have m:Hid (FS w W2):=a.o;have i:=ag g f.o (ES.1 f.o).1;have K:W2.cell? ⟨w.heap.size,5,V⟩=A (I J 4):=by rw[FR _ _ _ _ _ _ i];rfl
  have L:W2.cell? ⟨w.heap.size,6,V⟩=A (O p n c):=by rw[FR _ _ _ _ _ _ i];rfl
  clear g i B f
  cases s:bj r7 r7 r5 e with
  | false =>
   have b:=Hd s;clear s;go_wp2_with fail
   go_ret;exact⟨by rw[b.o];rfl,a.o⟩
  | true =>
   have b:=Hd s;clear s
   by_cases hlen:n=1
   ·subst hlen;have C:=Hd (v.o (by omega) W2 m.o);go_wp2_with fail
    refine C.o.mono ?_;rintro D M ⟨rfl,q⟩;have x:=Hd (a.o.trans (q.mono a.o.size));clear q C;go_wp2_with fail
    go_ret;exact⟨by rw[b.o];simp,x.o⟩
   ·have y:¬((n:Int)=1):=by omega
    have E:((n:Int)==1)=false:=by simpa using y
    have r:(n==1)=false:=by simpa using hlen
    go_wp2_with fail
    go_ret;exact⟨by rw[b.o];simp[r],a.o⟩
 by_cases j:e.op=11
 ·have hm:(cm nv e&&all)=(bj r7 r7 r5 e&&(n==1)&&all):=by
   have hw:(if e.op==4||e.op==11 then 1 else 2)=(1:Nat):=by rw[j];rfl
   unfold cm bj;rw[hw,u,j,z]
   cases zeroV e.h<;>cases (e.q==0)<;>cases (n==1)<;>cases all<;>rfl
  rw[hm];have k:FS w (w.alloc (p8 #[I J 3,I J e.h.b,I Y e.h.q,p9 e.h.h,I Y e.q,I J 11,O p n c] 51)):=(EU _ w).alloc (ET _) _;have l:=Hd k;have f:Hid ((w.alloc (p8 #[I J 3,I J e.h.b,I Y e.h.q,p9 e.h.h,I Y e.q,I J 11,O p n c] 51)).heap[w.heap.size]?=A (p8 #[I J 3,I J e.h.b,I Y e.h.q,p9 e.h.h,I Y e.q,I J 11,O p n c] 51 (0,0))):=ot w _;have B:Hid (r9 r6 87 #[s3 #[I J 3,I J e.h.b,I Y e.h.q,p9 e.h.h,I Y e.q,I J 11,O p n c],ur r7,ur r7,ur r5] (w.alloc (p8 #[I J 3,I J e.h.b,I Y e.h.q,p9 e.h.h,I Y e.q,I J 11,O p n c] 51)) (ao (bj r7 r7 r5 e) (w.alloc (p8 #[I J 3,I J e.h.b,I Y e.h.q,p9 e.h.h,I Y e.q,I J 11,O p n c] 51)))):=by
   have h:=mN e p n c (w.alloc (p8 #[I J 3,I J e.h.b,I Y e.h.q,p9 e.h.h,I Y e.q,I J 11,O p n c] 51)) z;rw[u,j]at h;exact h
  have v:=Hd hex;rw[u,j];clear k hm u z hex
  go_enter Tryz.func89,Tryz.ntmps89
  go_wp2_with fail
  refine B.o.mono ?_;rintro D W2 ⟨rfl,g⟩;have a:=Hd (l.o.trans (g.mono l.o.size));have m:Hid (FS w W2):=a.o;have i:=ag g f.o (ES.1 f.o).1;have K:W2.cell? ⟨w.heap.size,5,V⟩=A (I J 11):=by rw[FR _ _ _ _ _ _ i];rfl
  have L:W2.cell? ⟨w.heap.size,6,V⟩=A (O p n c):=by rw[FR _ _ _ _ _ _ i];rfl
  clear g i B f
  cases s:bj r7 r7 r5 e with
  | false =>
   have b:=Hd s;clear s;go_wp2_with fail
   go_ret;exact⟨by rw[b.o];rfl,a.o⟩
  | true =>
   have b:=Hd s;clear s
   by_cases hlen:n=1
   ·subst hlen;have C:=Hd (v.o (by omega) W2 m.o);go_wp2_with fail
    refine C.o.mono ?_;rintro D M ⟨rfl,q⟩;have x:=Hd (a.o.trans (q.mono a.o.size));clear q C;go_wp2_with fail
    go_ret;exact⟨by rw[b.o];simp,x.o⟩
   ·have y:¬((n:Int)=1):=by omega
    have E:((n:Int)==1)=false:=by simpa using y
    have r:(n==1)=false:=by simpa using hlen
    go_wp2_with fail
    go_ret;exact⟨by rw[b.o];simp[r],a.o⟩
 have hm:(cm nv e&&all)=(bj r7 r7 r5 e&&r8 (1≤e.op)&&r8 (e.op≤11)&&(n==2)&&all):=by
  have hw:(if e.op==4||e.op==11 then 1 else 2)=(2:Nat):=by rw[show (e.op==4)=r7 by simpa using t,show (e.op==11)=r7 by simpa using j];rfl
  unfold cm bj;rw[hw,u,z]
  cases zeroV e.h<;>cases (e.q==0)<;>cases r8 (1≤e.op)<;>cases r8 (e.op≤11)<;>cases (n==2)<;>cases all<;>rfl
 rw[hm];have k:FS w (w.alloc (p8 #[I J 3,I J e.h.b,I Y e.h.q,p9 e.h.h,I Y e.q,I J e.op,O p n c] 51)):=(EU _ w).alloc (ET _) _;have l:=Hd k;have f:Hid ((w.alloc (p8 #[I J 3,I J e.h.b,I Y e.h.q,p9 e.h.h,I Y e.q,I J e.op,O p n c] 51)).heap[w.heap.size]?=A (p8 #[I J 3,I J e.h.b,I Y e.h.q,p9 e.h.h,I Y e.q,I J e.op,O p n c] 51 (0,0))):=ot w _;have B:Hid (r9 r6 87 #[s3 #[I J 3,I J e.h.b,I Y e.h.q,p9 e.h.h,I Y e.q,I J e.op,O p n c],ur r7,ur r7,ur r5] (w.alloc (p8 #[I J 3,I J e.h.b,I Y e.h.q,p9 e.h.h,I Y e.q,I J e.op,O p n c] 51)) (ao (bj r7 r7 r5 e) (w.alloc (p8 #[I J 3,I J e.h.b,I Y e.h.q,p9 e.h.h,I Y e.q,I J e.op,O p n c] 51)))):=by
  have h:=mN e p n c (w.alloc (p8 #[I J 3,I J e.h.b,I Y e.h.q,p9 e.h.h,I Y e.q,I J e.op,O p n c] 51)) z;rw[u]at h;exact h
 have v:=Hd hex;have N:(e.op==4)=false:=by simpa using t
 have H:(e.op==11)=false:=by simpa using j
 rw[u];clear k hm u z hex
 go_enter Tryz.func89,Tryz.ntmps89
 go_wp2_with fail
 refine B.o.mono ?_;rintro D W2 ⟨rfl,g⟩;have a:=Hd (l.o.trans (g.mono l.o.size));have m:Hid (FS w W2):=a.o;have i:=ag g f.o (ES.1 f.o).1;have K:W2.cell? ⟨w.heap.size,5,V⟩=A (I J e.op):=by rw[FR _ _ _ _ _ _ i];rfl
 have L:W2.cell? ⟨w.heap.size,6,V⟩=A (O p n c):=by rw[FR _ _ _ _ _ _ i];rfl
 clear g i B f
 cases s:bj r7 r7 r5 e with
 | false =>
  have b:=Hd s;clear s;go_wp2_with fail
  go_ret;exact⟨by rw[b.o];rfl,a.o⟩
 | true =>
  have b:=Hd s;clear s
  by_cases P:1≤e.op
  ·by_cases G:e.op≤11
   ·by_cases hlen:n=2
    ·subst hlen;have C:=Hd (v.o (by omega) W2 m.o);go_wp2_with fail
     refine C.o.mono ?_;rintro D M ⟨rfl,q⟩;have x:=Hd (a.o.trans (q.mono a.o.size));clear q C;go_wp2_with fail
     go_ret;exact⟨by rw[b.o];simp[P,G],x.o⟩
    ·have y:¬((n:Int)=2):=by omega
     have E:((n:Int)==2)=false:=by simpa using y
     have r:(n==2)=false:=by simpa using hlen
     go_wp2_with fail
     go_ret;exact⟨by rw[b.o];simp[r],a.o⟩
   ·have Q:r8 (e.op≤11)=false:=oB G;go_wp2_with fail
    go_ret;exact⟨by rw[b.o];simp;omega,a.o⟩
  ·have R:r8 (1≤e.op)=false:=oB P;go_wp2_with fail
   go_ret;exact⟨by rw[b.o];simp;omega,a.o⟩
theorem l6(S:Nat)(nv:Int):∀d,kw S nv d (dL nv d):=by
 intro d
 induction d with
 | zero =>
  intro e s w hv f j;obtain⟨p,c,rfl⟩:=bY j;have m:e.u=[]:=j.1
  by_cases k:e.b=1
  ·exact uJ S nv e p _ c w k Z f
  by_cases l:e.b=2
  ·exact Ac S nv e p _ c w l Z hv
  by_cases i:e.b=3
  ·have h:=Dj S nv e r5 p e.u.length c w i Z (fun n=>absurd (by rw[m];rfl) n);rw[Bool.and_true]at h;exact h
  ·exact ug S nv e p _ c w ⟨k,l,i⟩
 | succ d q =>
  intro e s w hv f j;obtain⟨p,c,rfl⟩:=bY j;have hm:dL nv (d+1) e=(cm nv e&&e.u.all (dL nv d)):=rfl;have a:e.b≠3→(cm nv e&&e.u.all (dL nv d))=cm nv e:=fun i=>by
   cases g:cm nv e with
   | false=>rfl
   | true =>
    have he:e.u.isEmpty=true:=by
     unfold cm at g
     split at g
     ·simp only[Fp]at g;exact g.1.2
     ·split at g
      ·simp only[Fp]at g;exact g.1.1.2
      ·split at g
       ·rename_i h;exact absurd (by simpa using h) i
       ·cases g
    rw[List.isEmpty_iff.1 he];rfl
  by_cases k:e.b=1
  ·rw[hm,a (by omega)];exact uJ S nv e p _ c w k Z f
  by_cases l:e.b=2
  ·rw[hm,a (by omega)];exact Ac S nv e p _ c w l Z hv
  by_cases i:e.b=3
  ·rw[hm];exact Dj S nv e _ p e.u.length c w i Z (fun _ W o=>ll S nv d (dL nv d) q e.u _ W (hv.C o) (Rd.sb (fun b (h:b<w.heap.size)=>EY h o.size) (Rd.u j (fun _ h=>h) o)))
  ·rw[hm,a i];exact ug S nv e p _ c w ⟨k,l,i⟩
structure SuW (F:Nat→Prop) (S d:Nat) (types:List ap) (rules:List au) (vT vR:r3) (nv nf:Int) (W:p7):Prop where
 h:W.heap[S]?=A (p8 #[vT,vR,I Y nv,I Y nf] 76 (0,0))
 f:∀b,F b→b<W.heap.size∧b≠S
 t:cN.y W F types vT
 r:(dP d).y W F rules vR
section
variable {F:Nat→Prop} {S d:Nat} {types:List ap} {rules:List au} {vT vR:r3} {nv nf:Int} {W W':p7}
theorem SuW.lt(h:SuW F S d types rules vT vR nv nf W):S<W.heap.size:=(ES.1 h.h).1
theorem SuW.C(h:SuW F S d types rules vT vR nv nf W)(c:FS W W'):SuW F S d types rules vT vR nv nf W':=
 ⟨ag c h.h h.lt,fun b a=>⟨EY (h.f b a).1 c.size,(h.f b a).2⟩,Rd.u h.t (fun b a=>(h.f b a).1) c,Rd.u h.r (fun b a=>(h.f b a).1) c⟩
theorem SuW.b(h:SuW F S d types rules vT vR nv nf W):ii S nv W:=by
 unfold ii;rw[FR _ _ _ _ _ _ h.h];rfl
theorem SuW.setV(h:SuW F S d types rules vT vR nv nf W)(x:Int):SuW F S d types rules vT vR x nf (W.setCell ⟨S,2,V⟩ (I Y x)):=by
 have a:∀b,F b→∀o,W.heap[b]?=A o→(W.setCell ⟨S,2,V⟩ (I Y x)).heap[b]?=A o:=fun b c o e=>by rw[EW _ _ _ _ (h.f b c).2];exact e
 exact⟨heap_set h.h 2 _,fun b c=>⟨by simp[World.setCell];exact (h.f b c).1,(h.f b c).2⟩,Rd.qv a h.t,Rd.qv a h.r⟩
theorem SuW.setF(h:SuW F S d types rules vT vR nv nf W)(x:Int):SuW F S d types rules vT vR nv x (W.setCell ⟨S,3,V⟩ (I Y x)):=by
 have a:∀b,F b→∀o,W.heap[b]?=A o→(W.setCell ⟨S,3,V⟩ (I Y x)).heap[b]?=A o:=fun b c o e=>by rw[EW _ _ _ _ (h.f b c).2];exact e
 exact⟨heap_set h.h 3 _,fun b c=>⟨by simp[World.setCell];exact (h.f b c).1,(h.f b c).2⟩,Rd.qv a h.t,Rd.qv a h.r⟩
end
theorem li(F:Nat→Prop)(S d:Nat)(types:List ap)(rules:List au)(vT vR:r3)(nv nf k m:Int)(w:p7)(hw:SuW F S d types rules vT vR nv nf w) :
  r9 r6 86 #[tv (A ⟨S,0,V⟩),I Y k,I Y m] w (ao (bz types k m) w):=by
 obtain⟨p,c,hv⟩:=Rd.b hw.t;have e:=Rd.ss hw.t;obtain⟨n,g⟩:=zzy (types.length);rw[g]at hv e;subst hv;have u:(n:Int)≤9223372036854775807:=by unfold maxLen at e;omega
 have m0:w.cell? ⟨S,0,V⟩=A (O p n c):=by rw[FR _ _ _ _ _ _ hw.h];rfl
 by_cases o:0≤k
 ·obtain⟨j,rfl⟩:∃j:Nat,k=j:=⟨k.toNat,by omega⟩
  by_cases v:j<n
  ·obtain⟨t,q⟩:∃t,types[j]?=A t:=⟨_,EX (by rw[g];exact v)⟩;have a:bz types (j:Int) m=(t.b==m):=by
    unfold bz;rw[decide_eq_true o,decide_eq_true (by omega),Int.toNat_natCast,q];rfl
   rw[a];have i:=Rd.T hw.t q;rw[g]at i;obtain⟨b,off,cap,vs,r,_,_,_,_,l,f⟩:=i;injection r with x _ y
   subst x;subst y;obtain⟨rfl,_,_⟩:=fW.1 l;have c1:w.cell? ⟨b,off+j*2+1,V⟩=A (I Y t.b):=f 1 _ Z;have s:(j:Int)<n:=by omega
   clear hw l f a g e q
   go_enter Tryz.func86,Tryz.ntmps86
   go_wp2_with fail
   go_ret;exact⟨Z,EU _ _⟩
  ·have a:bz types (j:Int) m=false:=by
    unfold bz;rw[decide_eq_true o,oB (show ¬(j:Int)<types.length by omega)];rfl
   rw[a];have s:¬(j:Int)<n:=by omega
   clear hw a g e
   go_enter Tryz.func86,Tryz.ntmps86
   go_wp2_with fail
   go_ret;exact⟨Z,EU _ _⟩
 ·have a:bz types k m=false:=by
   unfold bz;rw[oB o];rfl
  rw[a];clear hw a g e
  go_enter Tryz.func86,Tryz.ntmps86
  go_wp2_with fail
  go_ret;exact⟨Z,EU _ _⟩
def kJ(F:Nat→Prop) (S d:Nat) (types:List ap) (rules:List au) (vT vR:r3) (nf:Int) (r:Option Int) (w:p7) (e:Ending) (w':p7):Prop:=
 Chg (fun b=>b=S) w w'∧e=Ending.returned (ur r.isSome)∧∃a,SuW F S d types rules vT vR a nf w'∧∀v,r=A v→a=v
theorem fY{F:Nat→Prop}{S d:Nat}{types:List ap}{rules:List au}{vT vR:r3}{nv nf:Int}{res:Option Int}{b:Bool}{w w1:p7}(a:Chg (fun b=>b=S) w w1)(hw:SuW F S d types rules vT vR nv nf w1)(h:res=if b then A nv else V):kJ F S d types rules vT vR nf res w (Ending.returned (ur b)) w1:=
 ⟨a,by rw[h];cases b<;>rfl,nv,hw,fun v hv=>by
  rw[h]at hv
  cases b with
  | true=>injection hv
  | false=>cases hv⟩
theorem Aw(F:Nat→Prop)(S d:Nat)(types:List ap)(rules:List au)(vT vR:r3)(nv nf:Int)(l c e f:Int)(a:ByteArray)(binds:Bool)(w:p7)(hw:SuW F S d types rules vT vR nv nf w)(t:l=1):r9 r6 88 #[tv (A ⟨S,0,V⟩),s3 #[I J l,I Y c,I J e,I Y f,p9 a],ur binds] w (kJ F S d types rules vT vR nf (bT binds nv ⟨l,c,e,f,a⟩) w):=by
 obtain⟨z,u⟩:=zzy (zeroV ⟨e,f,a⟩);have s:Hid (z=(e==0&&f==0&&r8 (a.toList=[]))):=by
  show _=_
  rw[←u];unfold zeroV;rw[show r8 (a.toList=[])=a.data.toList.isEmpty by rw[FD,o3];exact fM _]
 have h:FS w (w.alloc (p8 #[I J 1,I Y c,I J e,I Y f,p9 a] 56)):=(EU _ w).alloc (ET _) _;have m:(w.alloc (p8 #[I J 1,I Y c,I J e,I Y f,p9 a] 56)).heap[w.heap.size]?=A (p8 #[I J 1,I Y c,I J e,I Y f,p9 a] 56 (0,0)):=ot w _;obtain⟨i,n,j,B⟩:=zz4 h m (hw.C h) hw.lt;have hm:bT binds nv ⟨l,c,e,f,a⟩=if c==0&&z then A nv else none:=by
  unfold bT;dsimp only;rw[t,u];rfl
 obtain⟨res,g⟩:=zzx (bT binds nv ⟨l,c,e,f,a⟩);have x:Hid (res=if c==0&&z then A nv else V):=g.trans hm;rw[←g,t];clear h m hw u hm g t;obtain⟨w1,k⟩:=zzx (w.alloc (p8 #[I J 1,I Y c,I J e,I Y f,p9 a] 56));rw[←k]at i n j
 go_enter Tryz.func88,Tryz.ntmps88
 go_upto_region 1 with fail
 change wB _ _ _ _ (w.alloc (p8 #[I J 1,I Y c,I J e,I Y f,p9 a] 56));rw[←k];clear k;obtain⟨C,D,E,G,H⟩:=cells5 n.o
 go_cut [7] from 8 to 11 (fun v W=>v=ur z∧w1=W)
 case first =>
  by_cases p:e=0
  ·subst p
   by_cases q:f=0
   ·subst q
    by_cases r:a.toList=[]
    ·go_wp2_with fail
     go_meet
     case rel=>exact⟨by rw[s.o];simp[r],Z⟩
    ·go_wp2_with fail
     go_meet
     case rel=>exact⟨by rw[s.o];simp[r],Z⟩
   ·go_wp2_with fail
    go_meet
    case rel=>exact⟨by rw[s.o];simp[q],Z⟩
  ·go_wp2_with fail
   go_meet
   case rel=>exact⟨by rw[s.o];simp[p],Z⟩
 case rest =>
  obtain⟨rfl,rfl⟩:=hcut
  by_cases y:c=0
  ·subst y;go_wp2_with fail
   go_ret;exact fY (Chg.b i.o) j.o x.o
  ·go_wp2_with fail
   go_ret;exact fY (b:=r7) (Chg.b i.o) j.o (by rw[x.o,show (c==0)=r7 by simpa using y];rfl)
theorem AK(F:Nat→Prop)(S d:Nat)(types:List ap)(rules:List au)(vT vR:r3)(nv nf:Int)(L i j k:Int)(g:ByteArray)(binds:Bool)(w:p7)(hw:SuW F S d types rules vT vR nv nf w)(hk:L=2)(af:0≤nv∧nv≤1000000):r9 r6 88 #[tv (A ⟨S,0,V⟩),s3 #[I J L,I Y i,I J j,I Y k,p9 g],ur binds] w (kJ F S d types rules vT vR nf (bT binds nv ⟨L,i,j,k,g⟩) w):=by
 obtain⟨z,hz⟩:=zzy (zeroV ⟨j,k,g⟩);have HZ:Hid (z=(j==0&&k==0&&r8 (g.toList=[]))):=by
  show _=_
  rw[←hz];unfold zeroV;rw[show r8 (g.toList=[])=g.data.toList.isEmpty by rw[FD,o3];exact fM _]
 have t:FS w (w.alloc (p8 #[I J 2,I Y i,I J j,I Y k,p9 g] 56)):=(EU _ w).alloc (ET _) _;have M:(w.alloc (p8 #[I J 2,I Y i,I J j,I Y k,p9 g] 56)).heap[w.heap.size]?=A (p8 #[I J 2,I Y i,I J j,I Y k,p9 g] 56 (0,0)):=ot w _;obtain⟨N,u,r,ad⟩:=zz4 t M (hw.C t) hw.lt;have hm:bT binds nv ⟨L,i,j,k,g⟩=if binds&&i==nv&&z then A (nv+1) else none:=by
  unfold bT;dsimp only;rw[hk,hz];rfl
 obtain⟨res,m⟩:=zzx (bT binds nv ⟨L,i,j,k,g⟩);have HR:Hid (res=if binds&&i==nv&&z then A (nv+1) else V):=m.trans hm;rw[←m,hk];clear t M hw hz hm m hk;obtain⟨w1,y⟩:=zzx (w.alloc (p8 #[I J 2,I Y i,I J j,I Y k,p9 g] 56));rw[←y]at N u r
 go_enter Tryz.func88,Tryz.ntmps88
 go_upto_region 1 with fail
 change wB _ _ _ _ (w.alloc (p8 #[I J 2,I Y i,I J j,I Y k,p9 g] 56));rw[←y];clear y;obtain⟨B,q,C,D,E⟩:=cells5 u.o
 go_cut [7] from 8 to 11 (fun v W=>v=ur z∧w1=W)
 case first =>
  by_cases P:j=0
  ·subst P
   by_cases Q:k=0
   ·subst Q
    by_cases R:g.toList=[]
    ·go_wp2_with fail
     go_meet
     case rel=>exact⟨by rw[HZ.o];simp[R],Z⟩
    ·go_wp2_with fail
     go_meet
     case rel=>exact⟨by rw[HZ.o];simp[R],Z⟩
   ·go_wp2_with fail
    go_meet
    case rel=>exact⟨by rw[HZ.o];simp[Q],Z⟩
  ·go_wp2_with fail
   go_meet
   case rel=>exact⟨by rw[HZ.o];simp[P],Z⟩
 case rest =>
  obtain⟨rfl,rfl⟩:=hcut;have a:w1.cell? ⟨S,2,V⟩=A (I Y nv):=r.o.b;have fz:=cH r.o.h;obtain⟨l,n⟩:=zzx (w1.setCell ⟨S,2,V⟩ (I Y (nv+1)));have s:Hid (SuW F S d types rules vT vR (nv+1) nf l):=by show SuW _ _ _ _ _ _ _ _ _ _;rw[n];exact r.o.setV _
  have G:Hid (Chg (fun b=>b=S) w l):=by show Chg _ _ _;rw[n];exact Chg.t (F:=fun b=>b=S) (Chg.b N.o) (p:=⟨S,2,V⟩) (Or.inl Z) _
  have T:w.heap.size≠S:=by have:=ad.o;omega
  have U:l.heap[w.heap.size]?=A (p8 #[I J 2,I Y i,I J j,I Y k,p9 g] 56 (0,0)):=by rw[n,EW _ _ _ _ T];exact u.o
  have H:=Hd U;clear T U;go_upto_region 7 with fail
  change wB _ _ _ _ (w1.setCell ⟨S,2,V⟩ (I Y (nv+1)));rw[←n];clear n a fz B q C D E;have a:l.cell? ⟨S,2,V⟩=A (I Y (nv+1)):=s.o.b
  cases binds with
  | false =>
   obtain⟨B,q,C,D,E⟩:=cells5 H.o;have X:=fun x:Wb l=>x.b a
   have E1:=fun x:Wb l=>x.b q
   go_upto_region 7 with fail
   clear a B q C D E;refine aj (by kernel_rfl) (by kernel_rfl) ?_
   repeat (go_big_quiet_step (fail))
   refine vk ?_;intro W2 c;have e:=aE c;have f:=Hd e;clear c e E1 X;go_wp2_with fail
   go_ret;exact fY (b:=r7) (G.o.h (Chg.b f.o)) (s.o.C f.o) HR.o
  | true =>
   by_cases K:i=nv
   ·subst K;obtain⟨B,q,C,D,E⟩:=cells5 H.o;have X:=fun x:Wb l=>x.b a
    have E1:=fun x:Wb l=>x.b q
    go_upto_region 7 with fail
    clear a B q C D E;refine aj (by kernel_rfl) (by kernel_rfl) ?_
    repeat (go_big_quiet_step (fail))
    refine vk ?_;intro W2 c;have e:=aE c;have f:=Hd e;clear c e E1 X;go_wp2_with fail
    go_ret;exact fY (G.o.h (Chg.b f.o)) (s.o.C f.o) (by rw[HR.o];simp)
   ·have aq:(i==nv)=false:=by simpa using K
    obtain⟨B,q,C,D,E⟩:=cells5 H.o;have X:=fun x:Wb l=>x.b a
    have E1:=fun x:Wb l=>x.b q
    go_upto_region 7 with fail
    clear a B q C D E;refine aj (by kernel_rfl) (by kernel_rfl) ?_
    repeat (go_big_quiet_step (fail))
    refine vk ?_;intro W2 c;have e:=aE c;have f:=Hd e;clear c e E1 X;go_wp2_with fail
    go_ret;exact fY (b:=r7) (G.o.h (Chg.b f.o)) (s.o.C f.o) (by rw[HR.o];simp[K])
theorem v5(F:Nat→Prop)(S d:Nat)(types:List ap)(rules:List au)(vT vR:r3)(nv nf:Int)(D a i j:Int)(g:ByteArray)(binds:Bool)(w:p7)(hw:SuW F S d types rules vT vR nv nf w)(Q:D=3):r9 r6 88 #[tv (A ⟨S,0,V⟩),s3 #[I J D,I Y a,I J i,I Y j,p9 g],ur binds] w (kJ F S d types rules vT vR nf (bT binds nv ⟨D,a,i,j,g⟩) w):=by
 obtain⟨z,R⟩:=zzy (zeroV ⟨i,j,g⟩);have P:Hid (z=(i==0&&j==0&&r8 (g.toList=[]))):=by
  show _=_
  rw[←R];unfold zeroV;rw[show r8 (g.toList=[])=g.data.toList.isEmpty by rw[FD,o3];exact fM _]
 have s:FS w (w.alloc (p8 #[I J 3,I Y a,I J i,I Y j,p9 g] 56)):=(EU _ w).alloc (ET _) _;have E:(w.alloc (p8 #[I J 3,I Y a,I J i,I Y j,p9 g] 56)).heap[w.heap.size]?=A (p8 #[I J 3,I Y a,I J i,I Y j,p9 g] 56 (0,0)):=ot w _;obtain⟨r,k,l,X⟩:=zz4 s E (hw.C s) hw.lt;have hm:bT binds nv ⟨D,a,i,j,g⟩=if r8 (0≤a)&&r8 (a<nv)&&z then A nv else none:=by
  unfold bT;dsimp only;rw[Q,R];rfl
 obtain⟨res,m⟩:=zzx (bT binds nv ⟨D,a,i,j,g⟩);have T:Hid (res=if r8 (0≤a)&&r8 (a<nv)&&z then A nv else V):=m.trans hm;rw[←m,Q];clear s E hw R hm m Q;obtain⟨w1,t⟩:=zzx (w.alloc (p8 #[I J 3,I Y a,I J i,I Y j,p9 g] 56));rw[←t]at r k l
 go_enter Tryz.func88,Tryz.ntmps88
 go_upto_region 1 with fail
 change wB _ _ _ _ (w.alloc (p8 #[I J 3,I Y a,I J i,I Y j,p9 g] 56));rw[←t];clear t;obtain⟨u,q,y,B,C⟩:=cells5 k.o
 go_cut [7] from 8 to 11 (fun v W=>v=ur z∧w1=W)
 case first =>
  by_cases G:i=0
  ·subst G
   by_cases H:j=0
   ·subst H
    by_cases K:g.toList=[]
    ·go_wp2_with fail
     go_meet
     case rel=>exact⟨by rw[P.o];simp[K],Z⟩
    ·go_wp2_with fail
     go_meet
     case rel=>exact⟨by rw[P.o];simp[K],Z⟩
   ·go_wp2_with fail
    go_meet
    case rel=>exact⟨by rw[P.o];simp[H],Z⟩
  ·go_wp2_with fail
   go_meet
   case rel=>exact⟨by rw[P.o];simp[G],Z⟩
 case rest =>
  obtain⟨rfl,rfl⟩:=hcut;have h:w1.cell? ⟨S,2,V⟩=A (I Y nv):=l.o.b;clear u q y B C
  by_cases U:0≤a
  ·by_cases L:a<nv
   ·have n:r8 (0≤a)=true:=decide_eq_true U;have p:r8 (a<nv)=true:=decide_eq_true L;obtain⟨u,q,y,B,C⟩:=cells5 k.o;have M:=fun x:Wb w1=>x.b h
    have N:=fun x:Wb w1=>x.b q
    go_upto_region 9 with fail
    clear h u q y B C;refine aj (by kernel_rfl) (by kernel_rfl) ?_
    repeat (go_big_quiet_step (fail))
    refine vk ?_;intro W2 c;have e:=aE c;have f:=Hd e;clear c e N M;go_wp2_with fail
    go_ret;exact fY ((Chg.b r.o).h (Chg.b f.o)) (l.o.C f.o) (by rw[T.o,n,p];rfl)
   ·have n:r8 (0≤a)=true:=decide_eq_true U;have p:r8 (a<nv)=false:=oB L;obtain⟨u,q,y,B,C⟩:=cells5 k.o;have M:=fun x:Wb w1=>x.b h
    have N:=fun x:Wb w1=>x.b q
    go_upto_region 9 with fail
    clear h u q y B C;refine aj (by kernel_rfl) (by kernel_rfl) ?_
    repeat (go_big_quiet_step (fail))
    refine vk ?_;intro W2 c;have e:=aE c;have f:=Hd e;clear c e N M;go_wp2_with fail
    go_ret;exact fY (b:=r7) ((Chg.b r.o).h (Chg.b f.o)) (l.o.C f.o) (by rw[T.o,n,p];rfl)
  ·have n:r8 (0≤a)=false:=oB U;obtain⟨u,q,y,B,C⟩:=cells5 k.o;have M:=fun x:Wb w1=>x.b h
   have N:=fun x:Wb w1=>x.b q
   go_upto_region 9 with fail
   clear h u q y B C;refine aj (by kernel_rfl) (by kernel_rfl) ?_
   repeat (go_big_quiet_step (fail))
   refine vk ?_;intro W2 c;have e:=aE c;have f:=Hd e;clear c e N M;go_wp2_with fail
   go_ret;exact fY (b:=r7) ((Chg.b r.o).h (Chg.b f.o)) (l.o.C f.o) (by rw[T.o,n];rfl)
theorem zd(F:Nat→Prop)(S d:Nat)(types:List ap)(rules:List au)(vT vR:r3)(nv nf:Int)(m g c f:Int)(a:ByteArray)(binds:Bool)(w:p7)(hw:SuW F S d types rules vT vR nv nf w)(B:m=4)(C:a.size≤maxLen):r9 r6 88 #[tv (A ⟨S,0,V⟩),s3 #[I J m,I Y g,I J c,I Y f,p9 a],ur binds] w (kJ F S d types rules vT vR nf (bT binds nv ⟨m,g,c,f,a⟩) w):=by
 obtain⟨z,D⟩:=zzy (zeroV ⟨c,f,a⟩);have y:Hid (z=(c==0&&f==0&&r8 (a.toList=[]))):=by
  show _=_
  rw[←D];unfold zeroV;rw[show r8 (a.toList=[])=a.data.toList.isEmpty by rw[FD,o3];exact fM _]
 have i:FS w (w.alloc (p8 #[I J 4,I Y g,I J c,I Y f,p9 a] 56)):=(EU _ w).alloc (ET _) _;have n:(w.alloc (p8 #[I J 4,I Y g,I J c,I Y f,p9 a] 56)).heap[w.heap.size]?=A (p8 #[I J 4,I Y g,I J c,I Y f,p9 a] 56 (0,0)):=ot w _;obtain⟨j,p,k,H⟩:=zz4 i n (hw.C i) hw.lt;have hm:bT binds nv ⟨m,g,c,f,a⟩=if g==0&&gu ⟨c,f,a⟩ then A nv else none:=by
  unfold bT;dsimp only;rw[B,D];rfl
 obtain⟨res,h⟩:=zzx (bT binds nv ⟨m,g,c,f,a⟩);have E:Hid (res=if g==0&&gu ⟨c,f,a⟩ then A nv else V):=h.trans hm;rw[←h,B];clear i n hw D hm h B;obtain⟨w1,l⟩:=zzx (w.alloc (p8 #[I J 4,I Y g,I J c,I Y f,p9 a] 56));rw[←l]at j p k
 go_enter Tryz.func88,Tryz.ntmps88
 go_upto_region 1 with fail
 change wB _ _ _ _ (w.alloc (p8 #[I J 4,I Y g,I J c,I Y f,p9 a] 56));rw[←l];clear l;obtain⟨K,L,M,N,P⟩:=cells5 p.o
 go_cut [7] from 8 to 11 (fun v W=>v=ur z∧w1=W)
 case first =>
  by_cases q:c=0
  ·subst q
   by_cases r:f=0
   ·subst r
    by_cases s:a.toList=[]
    ·go_wp2_with fail
     go_meet
     case rel=>exact⟨by rw[y.o];simp[s],Z⟩
    ·go_wp2_with fail
     go_meet
     case rel=>exact⟨by rw[y.o];simp[s],Z⟩
   ·go_wp2_with fail
    go_meet
    case rel=>exact⟨by rw[y.o];simp[r],Z⟩
  ·go_wp2_with fail
   go_meet
   case rel=>exact⟨by rw[y.o];simp[q],Z⟩
 case rest =>
  obtain⟨rfl,rfl⟩:=hcut
  by_cases G:g=0
  ·subst G;have t:=Hd (lF ⟨c,f,a⟩ w1 C);go_wp2_with fail
   refine t.o.mono ?_;rintro e W2 ⟨rfl,u⟩;have x:=Hd u;clear u t K L M N P;go_wp2_with fail
   go_ret;exact fY ((Chg.b j.o).h (Chg.b x.o)) (k.o.C x.o) (by rw[E.o];rfl)
  ·go_wp2_with fail
   go_ret;exact fY (b:=r7) (Chg.b j.o) k.o (by rw[E.o,show (g==0)=r7 by simpa using G];rfl)
theorem wG(F:Nat→Prop)(S d:Nat)(types:List ap)(rules:List au)(vT vR:r3)(nv nf:Int)(a h e f:Int)(c:ByteArray)(binds:Bool)(w:p7)(hw:SuW F S d types rules vT vR nv nf w)(k:a≠1∧a≠2∧a≠3∧a≠4):r9 r6 88 #[tv (A ⟨S,0,V⟩),s3 #[I J a,I Y h,I J e,I Y f,p9 c],ur binds] w (kJ F S d types rules vT vR nf (bT binds nv ⟨a,h,e,f,c⟩) w):=by
 obtain⟨z,u⟩:=zzy (zeroV ⟨e,f,c⟩);have t:Hid (z=(e==0&&f==0&&r8 (c.toList=[]))):=by
  show _=_
  rw[←u];unfold zeroV;rw[show r8 (c.toList=[])=c.data.toList.isEmpty by rw[FD,o3];exact fM _]
 have i:FS w (w.alloc (p8 #[I J a,I Y h,I J e,I Y f,p9 c] 56)):=(EU _ w).alloc (ET _) _;have l:(w.alloc (p8 #[I J a,I Y h,I J e,I Y f,p9 c] 56)).heap[w.heap.size]?=A (p8 #[I J a,I Y h,I J e,I Y f,p9 c] 56 (0,0)):=ot w _;obtain⟨m,n,p,x⟩:=zz4 i l (hw.C i) hw.lt;have hm:bT binds nv ⟨a,h,e,f,c⟩=none:=by
  unfold bT;dsimp only;rw[show (a==1)=r7 by simpa using k.1,show (a==2)=r7 by simpa using k.2.1,show (a==3)=r7 by simpa using k.2.2.1,show (a==4)=r7 by simpa using k.2.2.2];rfl
 obtain⟨res,g⟩:=zzx (bT binds nv ⟨a,h,e,f,c⟩);have y:Hid (res=V):=g.trans hm;rw[←g];clear i l hw u hm g;obtain⟨w1,j⟩:=zzx (w.alloc (p8 #[I J a,I Y h,I J e,I Y f,p9 c] 56));rw[←j]at m n p
 go_enter Tryz.func88,Tryz.ntmps88
 go_upto_region 1 with fail
 change wB _ _ _ _ (w.alloc (p8 #[I J a,I Y h,I J e,I Y f,p9 c] 56));rw[←j];clear j;obtain⟨B,C,D,E,G⟩:=cells5 n.o
 go_cut [7] from 8 to 11 (fun v W=>v=ur z∧w1=W)
 case first =>
  by_cases q:e=0
  ·subst q
   by_cases r:f=0
   ·subst r
    by_cases s:c.toList=[]
    ·go_wp2_with fail
     go_meet
     case rel=>exact⟨by rw[t.o];simp[s],Z⟩
    ·go_wp2_with fail
     go_meet
     case rel=>exact⟨by rw[t.o];simp[s],Z⟩
   ·go_wp2_with fail
    go_meet
    case rel=>exact⟨by rw[t.o];simp[r],Z⟩
  ·go_wp2_with fail
   go_meet
   case rel=>exact⟨by rw[t.o];simp[q],Z⟩
 case rest =>
  obtain⟨rfl,rfl⟩:=hcut;obtain⟨H,K,L,M⟩:=k;go_wp2_with fail
  go_ret;exact fY (nv:=nv) (b:=r7) (Chg.b m.o) p.o (by rw[y.o];rfl)
theorem rT(F:Nat→Prop)(S d:Nat)(types:List ap)(rules:List au)(vT vR:r3)(nv nf:Int)(a:dF)(binds:Bool)(w:p7)(hw:SuW F S d types rules vT vR nv nf w)(h:0≤nv∧nv≤1000000)(i:a.h.h.size≤maxLen) :
  r9 r6 88 #[tv (A ⟨S,0,V⟩),s3 #[I J a.b,I Y a.q,I J a.h.b,I Y a.h.q,p9 a.h.h],ur binds] w (kJ F S d types rules vT vR nf (bT binds nv a) w):=by
 obtain⟨b,c,e,f,g⟩:=a
 by_cases j:b=1
 ·exact Aw F S d types rules vT vR nv nf b c e f g binds w hw j
 by_cases k:b=2
 ·exact AK F S d types rules vT vR nv nf b c e f g binds w hw k h
 by_cases l:b=3
 ·exact v5 F S d types rules vT vR nv nf b c e f g binds w hw l
 by_cases m:b=4
 ·exact zd F S d types rules vT vR nv nf b c e f g binds w hw m i
 ·exact wG F S d types rules vT vR nv nf b c e f g binds w hw ⟨j,k,l,m⟩
