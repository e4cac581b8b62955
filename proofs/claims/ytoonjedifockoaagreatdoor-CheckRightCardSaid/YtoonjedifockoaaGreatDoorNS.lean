/- Parts of one proof, joined; conditions stand in each theorem. -/
import Derived.Test.YtoonjedifockoaaGreatDoorNR
import Derived.Test.YtoonjedifockoaaGreatDoorMD
namespace Go.Proofs.YtoonjedifockoaaGreatDoor
open Go.IntKind(i64)
open Go.Value(int string slice)
set_option maxHeartbeats 8000000
set_option maxRecDepth 100000
open Go.RowKit
theorem tX(S:Nat)(nv:Int)(e:ag)(p:Option Addr)(n c:Nat)(w:World)(q:e.kind=1)(u:e.kids.length=n)(b:ep e) :
  Calls Tryz.prog 61 #[.pointer (some ⟨S,0,none⟩),.agg #[int .u8 e.kind,int .u8 e.val.kind,int i64 e.val.num,.string e.val.text,int i64 e.var,int .u8 e.op,.slice p n c]] w (ap (aS nv e) w):=by
 have hm:aS nv e=(bm true false false e&&cJ e.val):=by
  unfold aS bm;rw[q]
  cases (e.var==0)<;>cases (e.op==0)<;>cases e.kids.isEmpty<;>cases cJ e.val<;>rfl
 rw[hm];have j:Ft w (w.alloc (.cells #[int .u8 1,int .u8 e.val.kind,int i64 e.val.num,.string e.val.text,int i64 e.var,int .u8 e.op,.slice p n c] 50)):=(EB _ w).alloc (EA _) _;have k:=Hd j;have l:Hid ((w.alloc (.cells #[int .u8 1,int .u8 e.val.kind,int i64 e.val.num,.string e.val.text,int i64 e.var,int .u8 e.op,.slice p n c] 50)).heap[w.heap.size]?=some (.cells #[int .u8 1,int .u8 e.val.kind,int i64 e.val.num,.string e.val.text,int i64 e.var,int .u8 e.op,.slice p n c] 50 (0,0))):=n7 w _;have v:Hid (Calls Tryz.prog 59 #[.agg #[int .u8 1,int .u8 e.val.kind,int i64 e.val.num,.string e.val.text,int i64 e.var,int .u8 e.op,.slice p n c],.bool true,.bool false,.bool false] (w.alloc (.cells #[int .u8 1,int .u8 e.val.kind,int i64 e.val.num,.string e.val.text,int i64 e.var,int .u8 e.op,.slice p n c] 50)) (ap (bm true false false e) (w.alloc (.cells #[int .u8 1,int .u8 e.val.kind,int i64 e.val.num,.string e.val.text,int i64 e.var,int .u8 e.op,.slice p n c] 50)))):=by
  have h:=zH e p n c (w.alloc (.cells #[int .u8 1,int .u8 e.val.kind,int i64 e.val.num,.string e.val.text,int i64 e.var,int .u8 e.op,.slice p n c] 50)) u;rw[q]at h;exact h
 have s:=Hd (fun W=>lk e.val W b.2.1.2.2);rw[q];clear j hm b q u
 go_enter Tryz.func61,Tryz.ntmps61
 go_wp2_with fail
 refine v.o.mono ?_;rintro x W2 ⟨rfl,f⟩;have g:=Hd (k.o.trans (f.mono k.o.size));have a:=aa f l.o (Ez.1 l.o).1;have y:W2.cell? ⟨w.heap.size,1,none⟩=some (int .u8 e.val.kind):=by rw[Fq _ _ _ _ _ _ a];rfl
 have c2:W2.cell? ⟨w.heap.size,1+1,none⟩=some (int i64 e.val.num):=by rw[Fq _ _ _ _ _ _ a];rfl
 have z:W2.cell? ⟨w.heap.size,1+2,none⟩=some (.string e.val.text):=by rw[Fq _ _ _ _ _ _ a];rfl
 clear f a
 cases r:bm true false false e with
 | false =>
  have i:=Hd r;clear r;go_wp2_with fail
  go_ret;exact⟨by rw[i.o];rfl,g.o⟩
 | true =>
  have i:=Hd r;clear r;go_wp2_with fail
  refine (s.o W2).mono ?_;rintro x A ⟨rfl,m⟩;have t:=Hd (g.o.trans (m.mono g.o.size));clear m y c2 z;go_wp2_with fail
  go_ret;exact⟨by rw[i.o];rfl,t.o⟩
theorem tj(S:Nat)(nv:Int)(e:ag)(p:Option Addr)(n c:Nat)(w:World)(a:e.kind≠1∧e.kind≠2∧e.kind≠3) :
  Calls Tryz.prog 61 #[.pointer (some ⟨S,0,none⟩),.agg #[int .u8 e.kind,int .u8 e.val.kind,int i64 e.val.num,.string e.val.text,int i64 e.var,int .u8 e.op,.slice p n c]] w (ap (aS nv e) w):=by
 have hm:aS nv e=false:=by
  unfold aS;rw[show (e.kind==1)=false by simpa using a.1,show (e.kind==2)=false by simpa using a.2.1,show (e.kind==3)=false by simpa using a.2.2];rfl
 rw[hm];obtain⟨f,g,h⟩:=a;have b:Hid (Ft w (w.alloc (.cells #[int .u8 e.kind,int .u8 e.val.kind,int i64 e.val.num,.string e.val.text,int i64 e.var,int .u8 e.op,.slice p n c] 50))):=(EB _ w).alloc (EA _) _;clear hm
 go_enter Tryz.func61,Tryz.ntmps61
 go_wp2_with fail
 go_ret;exact⟨rfl,b.o⟩
theorem zM(S:Nat)(nv:Int)(e:ag)(p:Option Addr)(n c:Nat)(w:World)(s:e.kind=2)(G:e.kids.length=n)(H:gu S nv w) :
  Calls Tryz.prog 61 #[.pointer (some ⟨S,0,none⟩),.agg #[int .u8 e.kind,int .u8 e.val.kind,int i64 e.val.num,.string e.val.text,int i64 e.var,int .u8 e.op,.slice p n c]] w (ap (aS nv e) w):=by
 have hm:aS nv e=(bm false true false e&&decide (0≤e.var)&&decide (e.var<nv)):=by
  unfold aS bm;rw[s]
  cases zeroV e.val<;>cases (e.op==0)<;>cases e.kids.isEmpty<;>rfl
 rw[hm];obtain⟨w1,j⟩:=zzx (w.alloc (.cells #[int .u8 2,int .u8 e.val.kind,int i64 e.val.num,.string e.val.text,int i64 e.var,int .u8 e.op,.slice p n c] 50));have m:Ft w w1:=by rw[j];exact (EB _ w).alloc (EA _) _
 have a:w1.heap[w.heap.size]?=some (.cells #[int .u8 2,int .u8 e.val.kind,int i64 e.val.num,.string e.val.text,int i64 e.var,int .u8 e.op,.slice p n c] 50 (0,0)):=by rw[j];exact n7 w _
 have g:=Hd m
 have l:=Hd (fun (x:Wb w1)=>(show Calls Tryz.prog 59 #[.agg #[int .u8 2,int .u8 e.val.kind,int i64 e.val.num,.string e.val.text,int i64 e.var,int .u8 e.op,.slice p n c],.bool false,.bool true,.bool false] x.1 (ap (bm false true false e) x.1) by
  have h:=Bf e p n c x.1 G;rw[s]at h
  exact h))
 have r:w1.cell? ⟨S,2,none⟩=some (int i64 nv):=H.below m;have I:w1.cell? ⟨w.heap.size,0,none⟩=some (int .u8 2):=by rw[Fq _ _ _ _ _ _ a];rfl
 have J:w1.cell? ⟨w.heap.size,1,none⟩=some (int .u8 e.val.kind):=by rw[Fq _ _ _ _ _ _ a];rfl
 have K:w1.cell? ⟨w.heap.size,2,none⟩=some (int i64 e.val.num):=by rw[Fq _ _ _ _ _ _ a];rfl
 have L:w1.cell? ⟨w.heap.size,3,none⟩=some (.string e.val.text):=by rw[Fq _ _ _ _ _ _ a];rfl
 have M:w1.cell? ⟨w.heap.size,4,none⟩=some (int i64 e.var):=by rw[Fq _ _ _ _ _ _ a];rfl
 have N:w1.cell? ⟨w.heap.size,5,none⟩=some (int .u8 e.op):=by rw[Fq _ _ _ _ _ _ a];rfl
 have O:w1.cell? ⟨w.heap.size,6,none⟩=some (.slice p n c):=by rw[Fq _ _ _ _ _ _ a];rfl
 have u:=fun x:Wb w1=>x.cell I
 have v:=fun x:Wb w1=>x.cell J
 have y:=fun x:Wb w1=>x.cell K
 have z:=fun x:Wb w1=>x.cell L
 have A:=fun x:Wb w1=>x.cell M
 have B:=fun x:Wb w1=>x.cell N
 have C:=fun x:Wb w1=>x.cell O
 have D:=fun x:Wb w1=>x.cell r
 rw[s];clear m a hm s G H
 go_enter Tryz.func61,Tryz.ntmps61
 go_upto_region 1 with fail
 change Code.wp _ _ _ _ (w.alloc (.cells #[int .u8 2,int .u8 e.val.kind,int i64 e.val.num,.string e.val.text,int i64 e.var,int .u8 e.op,.slice p n c] 50));rw[←j];clear j;go_upto_region 5 with fail
 clear I J K L M N O r
 cases q:bm false true false e with
 | false =>
  rw[q]at l;have k:=Hd q;clear q;refine ae (by kernel_rfl) (by kernel_rfl) ?_
  repeat (go_big_quiet_step ((go_at_call 59;exact Calls.below_of (l.o _))))
  refine wpQuiet_nil ?_;intro W2 b;have f:=az b;have i:=Hd (g.o.trans (f.mono g.o.size));clear b f u v y z A B C D l;go_wp2_with fail
  go_ret;exact⟨by rw[k.o];rfl,i.o⟩
 | true =>
  rw[q]at l;have k:=Hd q;clear q
  by_cases t:0≤e.var
  ·have E:decide (0≤e.var)=true:=decide_eq_true t;refine ae (by kernel_rfl) (by kernel_rfl) ?_
   repeat (go_big_quiet_step ((go_at_call 59;exact Calls.below_of (l.o _))))
   refine wpQuiet_nil ?_;intro W2 b;have f:=az b;have i:=Hd (g.o.trans (f.mono g.o.size));clear b f u v y z A B C D l;go_wp2_with fail
   go_ret;exact⟨by rw[k.o,decide_eq_true t];rfl,i.o⟩
  ·have E:decide (0≤e.var)=false:=oc t;have P:Hid (¬0≤e.var):=t;refine ae (by kernel_rfl) (by kernel_rfl) ?_
   repeat (go_big_quiet_step ((go_at_call 59;exact Calls.below_of (l.o _))))
   refine wpQuiet_nil ?_;intro W2 b;have f:=az b;have i:=Hd (g.o.trans (f.mono g.o.size));clear b f u v y z A B C D l;go_wp2_with fail
   go_ret;exact⟨by first|(rw[k.o,oc P.o];rfl)|rfl|simp_all,i.o⟩
theorem CP(S:Nat)(nv:Int)(e:ag)(all:Bool)(p:Option Addr)(n c:Nat)(w:World)(u:e.kind=3)(z:e.kids.length=n)
  (hex:n≠0→∀W,Ft w W→Calls Tryz.prog 63 #[.pointer (some ⟨S,0,none⟩),.slice p n c] W (ap all W)) :
  Calls Tryz.prog 61 #[.pointer (some ⟨S,0,none⟩),.agg #[int .u8 e.kind,int .u8 e.val.kind,int i64 e.val.num,.string e.val.text,int i64 e.var,int .u8 e.op,.slice p n c]] w (ap (aS nv e&&all) w):=by
 by_cases t:e.op=4
 ·have hm:(aS nv e&&all)=(bm false false true e&&(n==1)&&all):=by
   have hw:(if e.op==4||e.op==11 then 1 else 2)=(1:Nat):=by rw[t];rfl
   unfold aS bm;rw[hw,u,t,z]
   cases zeroV e.val<;>cases (e.var==0)<;>cases (n==1)<;>cases all<;>rfl
  rw[hm];have k:Ft w (w.alloc (.cells #[int .u8 3,int .u8 e.val.kind,int i64 e.val.num,.string e.val.text,int i64 e.var,int .u8 4,.slice p n c] 50)):=(EB _ w).alloc (EA _) _;have l:=Hd k;have f:Hid ((w.alloc (.cells #[int .u8 3,int .u8 e.val.kind,int i64 e.val.num,.string e.val.text,int i64 e.var,int .u8 4,.slice p n c] 50)).heap[w.heap.size]?=some (.cells #[int .u8 3,int .u8 e.val.kind,int i64 e.val.num,.string e.val.text,int i64 e.var,int .u8 4,.slice p n c] 50 (0,0))):=n7 w _;have A:Hid (Calls Tryz.prog 59 #[.agg #[int .u8 3,int .u8 e.val.kind,int i64 e.val.num,.string e.val.text,int i64 e.var,int .u8 4,.slice p n c],.bool false,.bool false,.bool true] (w.alloc (.cells #[int .u8 3,int .u8 e.val.kind,int i64 e.val.num,.string e.val.text,int i64 e.var,int .u8 4,.slice p n c] 50)) (ap (bm false false true e) (w.alloc (.cells #[int .u8 3,int .u8 e.val.kind,int i64 e.val.num,.string e.val.text,int i64 e.var,int .u8 4,.slice p n c] 50)))):=by
   have h:=mE e p n c (w.alloc (.cells #[int .u8 3,int .u8 e.val.kind,int i64 e.val.num,.string e.val.text,int i64 e.var,int .u8 4,.slice p n c] 50)) z;rw[u,t]at h;exact h
  have v:=Hd hex;rw[u,t];clear k hm u z hex
  go_enter Tryz.func61,Tryz.ntmps61
  go_wp2_with fail
  refine A.o.mono ?_;rintro C W2 ⟨rfl,g⟩;have a:=Hd (l.o.trans (g.mono l.o.size));have m:Hid (Ft w W2):=a.o;have i:=aa g f.o (Ez.1 f.o).1;have H:W2.cell? ⟨w.heap.size,5,none⟩=some (int .u8 4):=by rw[Fq _ _ _ _ _ _ i];rfl
  have I:W2.cell? ⟨w.heap.size,6,none⟩=some (.slice p n c):=by rw[Fq _ _ _ _ _ _ i];rfl
  clear g i A f
  cases s:bm false false true e with
  | false =>
   have b:=Hd s;clear s;go_wp2_with fail
   go_ret;exact⟨by rw[b.o];rfl,a.o⟩
  | true =>
   have b:=Hd s;clear s
   by_cases hlen:n=1
   ·subst hlen;have B:=Hd (v.o (by omega) W2 m.o);go_wp2_with fail
    refine B.o.mono ?_;rintro C J ⟨rfl,q⟩;have x:=Hd (a.o.trans (q.mono a.o.size));clear q B;go_wp2_with fail
    go_ret;exact⟨by rw[b.o];simp,x.o⟩
   ·have y:¬((n:Int)=1):=by omega
    have D:((n:Int)==1)=false:=by simpa using y
    have r:(n==1)=false:=by simpa using hlen
    go_wp2_with fail
    go_ret;exact⟨by rw[b.o];simp[r],a.o⟩
 by_cases j:e.op=11
 ·have hm:(aS nv e&&all)=(bm false false true e&&(n==1)&&all):=by
   have hw:(if e.op==4||e.op==11 then 1 else 2)=(1:Nat):=by rw[j];rfl
   unfold aS bm;rw[hw,u,j,z]
   cases zeroV e.val<;>cases (e.var==0)<;>cases (n==1)<;>cases all<;>rfl
  rw[hm];have k:Ft w (w.alloc (.cells #[int .u8 3,int .u8 e.val.kind,int i64 e.val.num,.string e.val.text,int i64 e.var,int .u8 11,.slice p n c] 50)):=(EB _ w).alloc (EA _) _;have l:=Hd k;have f:Hid ((w.alloc (.cells #[int .u8 3,int .u8 e.val.kind,int i64 e.val.num,.string e.val.text,int i64 e.var,int .u8 11,.slice p n c] 50)).heap[w.heap.size]?=some (.cells #[int .u8 3,int .u8 e.val.kind,int i64 e.val.num,.string e.val.text,int i64 e.var,int .u8 11,.slice p n c] 50 (0,0))):=n7 w _;have A:Hid (Calls Tryz.prog 59 #[.agg #[int .u8 3,int .u8 e.val.kind,int i64 e.val.num,.string e.val.text,int i64 e.var,int .u8 11,.slice p n c],.bool false,.bool false,.bool true] (w.alloc (.cells #[int .u8 3,int .u8 e.val.kind,int i64 e.val.num,.string e.val.text,int i64 e.var,int .u8 11,.slice p n c] 50)) (ap (bm false false true e) (w.alloc (.cells #[int .u8 3,int .u8 e.val.kind,int i64 e.val.num,.string e.val.text,int i64 e.var,int .u8 11,.slice p n c] 50)))):=by
   have h:=mE e p n c (w.alloc (.cells #[int .u8 3,int .u8 e.val.kind,int i64 e.val.num,.string e.val.text,int i64 e.var,int .u8 11,.slice p n c] 50)) z;rw[u,j]at h;exact h
  have v:=Hd hex;rw[u,j];clear k hm u z hex
  go_enter Tryz.func61,Tryz.ntmps61
  go_wp2_with fail
  refine A.o.mono ?_;rintro C W2 ⟨rfl,g⟩;have a:=Hd (l.o.trans (g.mono l.o.size));have m:Hid (Ft w W2):=a.o;have i:=aa g f.o (Ez.1 f.o).1;have H:W2.cell? ⟨w.heap.size,5,none⟩=some (int .u8 11):=by rw[Fq _ _ _ _ _ _ i];rfl
  have I:W2.cell? ⟨w.heap.size,6,none⟩=some (.slice p n c):=by rw[Fq _ _ _ _ _ _ i];rfl
  clear g i A f
  cases s:bm false false true e with
  | false =>
   have b:=Hd s;clear s;go_wp2_with fail
   go_ret;exact⟨by rw[b.o];rfl,a.o⟩
  | true =>
   have b:=Hd s;clear s
   by_cases hlen:n=1
   ·subst hlen;have B:=Hd (v.o (by omega) W2 m.o);go_wp2_with fail
    refine B.o.mono ?_;rintro C J ⟨rfl,q⟩;have x:=Hd (a.o.trans (q.mono a.o.size));clear q B;go_wp2_with fail
    go_ret;exact⟨by rw[b.o];simp,x.o⟩
   ·have y:¬((n:Int)=1):=by omega
    have D:((n:Int)==1)=false:=by simpa using y
    have r:(n==1)=false:=by simpa using hlen
    go_wp2_with fail
    go_ret;exact⟨by rw[b.o];simp[r],a.o⟩
 have hm:(aS nv e&&all)=(bm false false true e&&decide (1≤e.op)&&decide (e.op≤11)&&(n==2)&&all):=by
  have hw:(if e.op==4||e.op==11 then 1 else 2)=(2:Nat):=by rw[show (e.op==4)=false by simpa using t,show (e.op==11)=false by simpa using j];rfl
  unfold aS bm;rw[hw,u,z]
  cases zeroV e.val<;>cases (e.var==0)<;>cases decide (1≤e.op)<;>cases decide (e.op≤11)<;>cases (n==2)<;>cases all<;>rfl
 rw[hm];have k:Ft w (w.alloc (.cells #[int .u8 3,int .u8 e.val.kind,int i64 e.val.num,.string e.val.text,int i64 e.var,int .u8 e.op,.slice p n c] 50)):=(EB _ w).alloc (EA _) _;have l:=Hd k;have f:Hid ((w.alloc (.cells #[int .u8 3,int .u8 e.val.kind,int i64 e.val.num,.string e.val.text,int i64 e.var,int .u8 e.op,.slice p n c] 50)).heap[w.heap.size]?=some (.cells #[int .u8 3,int .u8 e.val.kind,int i64 e.val.num,.string e.val.text,int i64 e.var,int .u8 e.op,.slice p n c] 50 (0,0))):=n7 w _;have A:Hid (Calls Tryz.prog 59 #[.agg #[int .u8 3,int .u8 e.val.kind,int i64 e.val.num,.string e.val.text,int i64 e.var,int .u8 e.op,.slice p n c],.bool false,.bool false,.bool true] (w.alloc (.cells #[int .u8 3,int .u8 e.val.kind,int i64 e.val.num,.string e.val.text,int i64 e.var,int .u8 e.op,.slice p n c] 50)) (ap (bm false false true e) (w.alloc (.cells #[int .u8 3,int .u8 e.val.kind,int i64 e.val.num,.string e.val.text,int i64 e.var,int .u8 e.op,.slice p n c] 50)))):=by
  have h:=mE e p n c (w.alloc (.cells #[int .u8 3,int .u8 e.val.kind,int i64 e.val.num,.string e.val.text,int i64 e.var,int .u8 e.op,.slice p n c] 50)) z;rw[u]at h;exact h
 have v:=Hd hex;have K:(e.op==4)=false:=by simpa using t
 have G:(e.op==11)=false:=by simpa using j
 rw[u];clear k hm u z hex
 go_enter Tryz.func61,Tryz.ntmps61
 go_wp2_with fail
 refine A.o.mono ?_;rintro C W2 ⟨rfl,g⟩;have a:=Hd (l.o.trans (g.mono l.o.size));have m:Hid (Ft w W2):=a.o;have i:=aa g f.o (Ez.1 f.o).1;have H:W2.cell? ⟨w.heap.size,5,none⟩=some (int .u8 e.op):=by rw[Fq _ _ _ _ _ _ i];rfl
 have I:W2.cell? ⟨w.heap.size,6,none⟩=some (.slice p n c):=by rw[Fq _ _ _ _ _ _ i];rfl
 clear g i A f
 cases s:bm false false true e with
 | false =>
  have b:=Hd s;clear s;go_wp2_with fail
  go_ret;exact⟨by rw[b.o];rfl,a.o⟩
 | true =>
  have b:=Hd s;clear s
  by_cases L:1≤e.op
  ·by_cases E:e.op≤11
   ·by_cases hlen:n=2
    ·subst hlen;have B:=Hd (v.o (by omega) W2 m.o);go_wp2_with fail
     refine B.o.mono ?_;rintro C J ⟨rfl,q⟩;have x:=Hd (a.o.trans (q.mono a.o.size));clear q B;go_wp2_with fail
     go_ret;exact⟨by rw[b.o];simp[L,E],x.o⟩
    ·have y:¬((n:Int)=2):=by omega
     have D:((n:Int)==2)=false:=by simpa using y
     have r:(n==2)=false:=by simpa using hlen
     go_wp2_with fail
     go_ret;exact⟨by rw[b.o];simp[r],a.o⟩
   ·have M:decide (e.op≤11)=false:=oc E;go_wp2_with fail
    go_ret;exact⟨by rw[b.o];simp;omega,a.o⟩
  ·have N:decide (1≤e.op)=false:=oc L;go_wp2_with fail
   go_ret;exact⟨by rw[b.o];simp;omega,a.o⟩
theorem lG(S:Nat)(nv:Int):∀d,jZ S nv d (bK nv d):=by
 intro d
 induction d with
 | zero =>
  intro e s w m f j;obtain⟨p,c,rfl⟩:=aI j;have n:e.kids=[]:=j.1
  by_cases k:e.kind=1
  ·exact tX S nv e p _ c w k rfl f
  by_cases l:e.kind=2
  ·exact zM S nv e p _ c w l rfl m
  by_cases i:e.kind=3
  ·have h:=CP S nv e true p e.kids.length c w i rfl (fun o=>absurd (by rw[n];rfl) o);rw[Bool.and_true]at h;exact h
  ·exact tj S nv e p _ c w ⟨k,l,i⟩
 | succ d r =>
  intro e s w m f j;obtain⟨p,c,rfl⟩:=aI j;have hm:bK nv (d+1) e=(aS nv e&&e.kids.all (bK nv d)):=rfl;have a:e.kind≠3→(aS nv e&&e.kids.all (bK nv d))=aS nv e:=fun i=>by
   cases g:aS nv e with
   | false=>rfl
   | true =>
    have he:e.kids.isEmpty=true:=by
     unfold aS at g
     split at g
     ·simp only[EQ]at g;exact g.1.2
     ·split at g
      ·simp only[EQ]at g;exact g.1.1.2
      ·split at g
       ·rename_i h;exact absurd (by simpa using h) i
       ·cases g
    rw[List.isEmpty_iff.1 he];rfl
  by_cases k:e.kind=1
  ·rw[hm,a (by omega)];exact tX S nv e p _ c w k rfl f
  by_cases l:e.kind=2
  ·rw[hm,a (by omega)];exact zM S nv e p _ c w l rfl m
  by_cases i:e.kind=3
  ·rw[hm];exact CP S nv e _ p e.kids.length c w i rfl (fun _ W q=>kN S nv d (bK nv d) r e.kids _ W (m.below q) (Rd.row_sub (fun b (h:b<w.heap.size)=>EF h q.size) (Rd.row_below j (fun _ h=>h) q)))
  ·rw[hm,a i];exact tj S nv e p _ c w ⟨k,l,i⟩
structure SuW (F:Nat→Prop) (S d:Nat) (types:List ai) (rules:List aj) (vT vR:Value) (nv nf:Int) (W:World):Prop where
 h:W.heap[S]?=some (.cells #[vT,vR,int i64 nv,int i64 nf] 66 (0,0))
 f:∀b,F b→b<W.heap.size∧b≠S
 t:bo.row W F types vT
 r:(bh d).row W F rules vR
section
variable {F:Nat→Prop} {S d:Nat} {types:List ai} {rules:List aj} {vT vR:Value} {nv nf:Int} {W W':World}
theorem SuW.lt(h:SuW F S d types rules vT vR nv nf W):S<W.heap.size:=(Ez.1 h.h).1
theorem SuW.below(h:SuW F S d types rules vT vR nv nf W)(c:Ft W W'):SuW F S d types rules vT vR nv nf W':=
 ⟨aa c h.h h.lt,fun b a=>⟨EF (h.f b a).1 c.size,(h.f b a).2⟩,Rd.row_below h.t (fun b a=>(h.f b a).1) c,Rd.row_below h.r (fun b a=>(h.f b a).1) c⟩
theorem SuW.vars(h:SuW F S d types rules vT vR nv nf W):gu S nv W:=by
 unfold gu;rw[Fq _ _ _ _ _ _ h.h];rfl
theorem SuW.setV(h:SuW F S d types rules vT vR nv nf W)(x:Int):SuW F S d types rules vT vR x nf (W.setCell ⟨S,2,none⟩ (int i64 x)):=by
 have a:∀b,F b→∀o,W.heap[b]?=some o→(W.setCell ⟨S,2,none⟩ (int i64 x)).heap[b]?=some o:=fun b c o e=>by rw[ED _ _ _ _ (h.f b c).2];exact e
 exact⟨heap_set h.h 2 _,fun b c=>⟨by simp[World.setCell];exact (h.f b c).1,(h.f b c).2⟩,Rd.row_keep a h.t,Rd.row_keep a h.r⟩
theorem SuW.setF(h:SuW F S d types rules vT vR nv nf W)(x:Int):SuW F S d types rules vT vR nv x (W.setCell ⟨S,3,none⟩ (int i64 x)):=by
 have a:∀b,F b→∀o,W.heap[b]?=some o→(W.setCell ⟨S,3,none⟩ (int i64 x)).heap[b]?=some o:=fun b c o e=>by rw[ED _ _ _ _ (h.f b c).2];exact e
 exact⟨heap_set h.h 3 _,fun b c=>⟨by simp[World.setCell];exact (h.f b c).1,(h.f b c).2⟩,Rd.row_keep a h.t,Rd.row_keep a h.r⟩
end
theorem kK(F:Nat→Prop)(S d:Nat)(types:List ai)(rules:List aj)(vT vR:Value)(nv nf k m:Int)(w:World)(hw:SuW F S d types rules vT vR nv nf w) :
  Calls Tryz.prog 58 #[.pointer (some ⟨S,0,none⟩),int i64 k,int i64 m] w (ap (aF types k m) w):=by
 obtain⟨p,c,u⟩:=Rd.row_shape hw.t;have e:=Rd.row_len hw.t;obtain⟨n,g⟩:=zzy (types.length);rw[g]at u e;subst u;have v:(n:Int)≤9223372036854775807:=by unfold maxLen at e;omega
 have m0:w.cell? ⟨S,0,none⟩=some (.slice p n c):=by rw[Fq _ _ _ _ _ _ hw.h];rfl
 by_cases o:0≤k
 ·obtain⟨j,rfl⟩:∃j:Nat,k=j:=⟨k.toNat,by omega⟩
  by_cases x:j<n
  ·obtain⟨t,q⟩:∃t,types[j]?=some t:=⟨_,EE (by rw[g];exact x)⟩;have a:aF types (j:Int) m=(t.fields==m):=by
    unfold aF;rw[decide_eq_true o,decide_eq_true (by omega),Int.toNat_natCast,q];rfl
   rw[a];have i:=Rd.row_at hw.t q;rw[g]at i;obtain⟨b,off,cap,vs,r,_,_,_,_,l,f⟩:=i;injection r with y _ z
   subst y;subst z;obtain⟨rfl,_,_⟩:=dN.1 l;have A:w.cell? ⟨b,off+j*2+1,none⟩=some (int i64 t.fields):=f 1 _ rfl;have s:(j:Int)<n:=by omega
   clear hw l f a g e q
   go_enter Tryz.func58,Tryz.ntmps58
   go_wp2_with fail
   go_ret;exact⟨rfl,EB _ _⟩
  ·have a:aF types (j:Int) m=false:=by
    unfold aF;rw[decide_eq_true o,oc (show ¬(j:Int)<types.length by omega)];rfl
   rw[a];have s:¬(j:Int)<n:=by omega
   clear hw a g e
   go_enter Tryz.func58,Tryz.ntmps58
   go_wp2_with fail
   go_ret;exact⟨rfl,EB _ _⟩
 ·have a:aF types k m=false:=by
   unfold aF;rw[oc o];rfl
  rw[a];clear hw a g e
  go_enter Tryz.func58,Tryz.ntmps58
  go_wp2_with fail
  go_ret;exact⟨rfl,EB _ _⟩
def kg(F:Nat→Prop) (S d:Nat) (types:List ai) (rules:List aj) (vT vR:Value) (nf:Int) (r:Option Int) (w:World) (e:Ending) (w':World):Prop:=
 Chg (fun b=>b=S) w w'∧e=.returned (.bool r.isSome)∧∃a,SuW F S d types rules vT vR a nf w'∧∀v,r=some v→a=v
theorem fy{F:Nat→Prop}{S d:Nat}{types:List ai}{rules:List aj}{vT vR:Value}{nv nf:Int}{res:Option Int}{b:Bool}{w w1:World}(c:Chg (fun b=>b=S) w w1)(hw:SuW F S d types rules vT vR nv nf w1)(h:res=if b then some nv else none):kg F S d types rules vT vR nf res w (.returned (.bool b)) w1:=
 ⟨c,by rw[h];cases b<;>rfl,nv,hw,fun v a=>by
  rw[h]at a
  cases b with
  | true=>injection a
  | false=>cases a⟩
theorem Aj(F:Nat→Prop)(S d:Nat)(types:List ai)(rules:List aj)(vT vR:Value)(nv nf:Int)(l c e f:Int)(a:ByteArray)(binds:Bool)(w:World)(hw:SuW F S d types rules vT vR nv nf w)(t:l=1):Calls Tryz.prog 60 #[.pointer (some ⟨S,0,none⟩),.agg #[int .u8 l,int i64 c,int .u8 e,int i64 f,.string a],.bool binds] w (kg F S d types rules vT vR nf (aY binds nv ⟨l,c,e,f,a⟩) w):=by
 obtain⟨z,u⟩:=zzy (zeroV ⟨e,f,a⟩);have s:Hid (z=(e==0&&f==0&&decide (a.toList=[]))):=by
  show _=_
  rw[←u];unfold zeroV;rw[show decide (a.toList=[])=a.data.toList.isEmpty by rw[Fc,ot];exact fj _]
 have h:Ft w (w.alloc (.cells #[int .u8 1,int i64 c,int .u8 e,int i64 f,.string a] 55)):=(EB _ w).alloc (EA _) _;have m:(w.alloc (.cells #[int .u8 1,int i64 c,int .u8 e,int i64 f,.string a] 55)).heap[w.heap.size]?=some (.cells #[int .u8 1,int i64 c,int .u8 e,int i64 f,.string a] 55 (0,0)):=n7 w _;have i:=Hd h;have n:=Hd m;have j:=Hd (hw.below h);have A:=Hd hw.lt;have hm:aY binds nv ⟨l,c,e,f,a⟩=if c==0&&z then some nv else none:=by
  unfold aY;dsimp only;rw[t,u];rfl
 obtain⟨res,g⟩:=zzx (aY binds nv ⟨l,c,e,f,a⟩);have x:Hid (res=if c==0&&z then some nv else none):=g.trans hm;rw[←g,t];clear h m hw u hm g t;obtain⟨w1,k⟩:=zzx (w.alloc (.cells #[int .u8 1,int i64 c,int .u8 e,int i64 f,.string a] 55));rw[←k]at i n j
 go_enter Tryz.func60,Tryz.ntmps60
 go_upto_region 1 with fail
 change Code.wp _ _ _ _ (w.alloc (.cells #[int .u8 1,int i64 c,int .u8 e,int i64 f,.string a] 55));rw[←k];clear k;obtain⟨B,C,D,E,G⟩:=cells5 n.o
 go_cut [7] from 8 to 11 (fun v W=>v=.bool z∧w1=W)
 case first =>
  by_cases p:e=0
  ·subst p
   by_cases q:f=0
   ·subst q
    by_cases r:a.toList=[]
    ·go_wp2_with fail
     go_meet
     case rel=>exact⟨by rw[s.o];simp[r],rfl⟩
    ·go_wp2_with fail
     go_meet
     case rel=>exact⟨by rw[s.o];simp[r],rfl⟩
   ·go_wp2_with fail
    go_meet
    case rel=>exact⟨by rw[s.o];simp[q],rfl⟩
  ·go_wp2_with fail
   go_meet
   case rel=>exact⟨by rw[s.o];simp[p],rfl⟩
 case rest =>
  obtain⟨rfl,rfl⟩:=hcut
  by_cases y:c=0
  ·subst y;go_wp2_with fail
   go_ret;exact fy (Chg.of_below i.o) j.o x.o
  ·go_wp2_with fail
   go_ret;exact fy (b:=false) (Chg.of_below i.o) j.o (by rw[x.o,show (c==0)=false by simpa using y];rfl)
theorem Av(F:Nat→Prop)(S d:Nat)(types:List ai)(rules:List aj)(vT vR:Value)(nv nf:Int)(I i j k:Int)(g:ByteArray)(binds:Bool)(w:World)(hw:SuW F S d types rules vT vR nv nf w)(U:I=2)(Z:0≤nv∧nv≤1000000):Calls Tryz.prog 60 #[.pointer (some ⟨S,0,none⟩),.agg #[int .u8 I,int i64 i,int .u8 j,int i64 k,.string g],.bool binds] w (kg F S d types rules vT vR nf (aY binds nv ⟨I,i,j,k,g⟩) w):=by
 obtain⟨z,V⟩:=zzy (zeroV ⟨j,k,g⟩);have T:Hid (z=(j==0&&k==0&&decide (g.toList=[]))):=by
  show _=_
  rw[←V];unfold zeroV;rw[show decide (g.toList=[])=g.data.toList.isEmpty by rw[Fc,ot];exact fj _]
 have t:Ft w (w.alloc (.cells #[int .u8 2,int i64 i,int .u8 j,int i64 k,.string g] 55)):=(EB _ w).alloc (EA _) _;have J:(w.alloc (.cells #[int .u8 2,int i64 i,int .u8 j,int i64 k,.string g] 55)).heap[w.heap.size]?=some (.cells #[int .u8 2,int i64 i,int .u8 j,int i64 k,.string g] 55 (0,0)):=n7 w _;have K:=Hd t;have u:=Hd J;have r:=Hd (hw.below t);have X:=Hd hw.lt;have hm:aY binds nv ⟨I,i,j,k,g⟩=if binds&&i==nv&&z then some (nv+1) else none:=by
  unfold aY;dsimp only;rw[U,V];rfl
 obtain⟨res,m⟩:=zzx (aY binds nv ⟨I,i,j,k,g⟩);have Y:Hid (res=if binds&&i==nv&&z then some (nv+1) else none):=m.trans hm;rw[←m,U];clear t J hw V hm m U;obtain⟨w1,y⟩:=zzx (w.alloc (.cells #[int .u8 2,int i64 i,int .u8 j,int i64 k,.string g] 55));rw[←y]at K u r
 go_enter Tryz.func60,Tryz.ntmps60
 go_upto_region 1 with fail
 change Code.wp _ _ _ _ (w.alloc (.cells #[int .u8 2,int i64 i,int .u8 j,int i64 k,.string g] 55));rw[←y];clear y;obtain⟨A,q,B,C,D⟩:=cells5 u.o
 go_cut [7] from 8 to 11 (fun v W=>v=.bool z∧w1=W)
 case first =>
  by_cases L:j=0
  ·subst L
   by_cases M:k=0
   ·subst M
    by_cases N:g.toList=[]
    ·go_wp2_with fail
     go_meet
     case rel=>exact⟨by rw[T.o];simp[N],rfl⟩
    ·go_wp2_with fail
     go_meet
     case rel=>exact⟨by rw[T.o];simp[N],rfl⟩
   ·go_wp2_with fail
    go_meet
    case rel=>exact⟨by rw[T.o];simp[M],rfl⟩
  ·go_wp2_with fail
   go_meet
   case rel=>exact⟨by rw[T.o];simp[L],rfl⟩
 case rest =>
  obtain⟨rfl,rfl⟩:=hcut;have a:w1.cell? ⟨S,2,none⟩=some (int i64 nv):=r.o.vars;have fz:=bT r.o.h;obtain⟨l,n⟩:=zzx (w1.setCell ⟨S,2,none⟩ (int i64 (nv+1)));have s:Hid (SuW F S d types rules vT vR (nv+1) nf l):=by show SuW _ _ _ _ _ _ _ _ _ _;rw[n];exact r.o.setV _
  have E:Hid (Chg (fun b=>b=S) w l):=by show Chg _ _ _;rw[n];exact Chg.setCell (F:=fun b=>b=S) (Chg.of_below K.o) (p:=⟨S,2,none⟩) (Or.inl rfl) _
  have O:w.heap.size≠S:=by have:=X.o;omega
  have P:l.heap[w.heap.size]?=some (.cells #[int .u8 2,int i64 i,int .u8 j,int i64 k,.string g] 55 (0,0)):=by rw[n,ED _ _ _ _ O];exact u.o
  have G:=Hd P;clear O P;go_upto_region 7 with fail
  change Code.wp _ _ _ _ (w1.setCell ⟨S,2,none⟩ (int i64 (nv+1)));rw[←n];clear n a fz A q B C D;have a:l.cell? ⟨S,2,none⟩=some (int i64 (nv+1)):=s.o.vars
  cases binds with
  | false =>
   obtain⟨A,q,B,C,D⟩:=cells5 G.o;have Q:=fun x:Wb l=>x.cell a
   have R:=fun x:Wb l=>x.cell q
   go_upto_region 7 with fail
   clear a A q B C D;refine ae (by kernel_rfl) (by kernel_rfl) ?_
   repeat (go_big_quiet_step (fail))
   refine wpQuiet_nil ?_;intro W2 c;have e:=az c;have f:=Hd e;clear c e R Q;go_wp2_with fail
   go_ret;exact fy (b:=false) (E.o.trans (Chg.of_below f.o)) (s.o.below f.o) Y.o
  | true =>
   by_cases H:i=nv
   ·subst H;obtain⟨A,q,B,C,D⟩:=cells5 G.o;have Q:=fun x:Wb l=>x.cell a
    have R:=fun x:Wb l=>x.cell q
    go_upto_region 7 with fail
    clear a A q B C D;refine ae (by kernel_rfl) (by kernel_rfl) ?_
    repeat (go_big_quiet_step (fail))
    refine wpQuiet_nil ?_;intro W2 c;have e:=az c;have f:=Hd e;clear c e R Q;go_wp2_with fail
    go_ret;exact fy (E.o.trans (Chg.of_below f.o)) (s.o.below f.o) (by rw[Y.o];simp)
   ·have ad:(i==nv)=false:=by simpa using H
    obtain⟨A,q,B,C,D⟩:=cells5 G.o;have Q:=fun x:Wb l=>x.cell a
    have R:=fun x:Wb l=>x.cell q
    go_upto_region 7 with fail
    clear a A q B C D;refine ae (by kernel_rfl) (by kernel_rfl) ?_
    repeat (go_big_quiet_step (fail))
    refine wpQuiet_nil ?_;intro W2 c;have e:=az c;have f:=Hd e;clear c e R Q;go_wp2_with fail
    go_ret;exact fy (b:=false) (E.o.trans (Chg.of_below f.o)) (s.o.below f.o) (by rw[Y.o];simp[H])
theorem vu(F:Nat→Prop)(S d:Nat)(types:List ai)(rules:List aj)(vT vR:Value)(nv nf:Int)(C a i j:Int)(g:ByteArray)(binds:Bool)(w:World)(hw:SuW F S d types rules vT vR nv nf w)(M:C=3):Calls Tryz.prog 60 #[.pointer (some ⟨S,0,none⟩),.agg #[int .u8 C,int i64 a,int .u8 i,int i64 j,.string g],.bool binds] w (kg F S d types rules vT vR nf (aY binds nv ⟨C,a,i,j,g⟩) w):=by
 obtain⟨z,N⟩:=zzy (zeroV ⟨i,j,g⟩);have L:Hid (z=(i==0&&j==0&&decide (g.toList=[]))):=by
  show _=_
  rw[←N];unfold zeroV;rw[show decide (g.toList=[])=g.data.toList.isEmpty by rw[Fc,ot];exact fj _]
 have s:Ft w (w.alloc (.cells #[int .u8 3,int i64 a,int .u8 i,int i64 j,.string g] 55)):=(EB _ w).alloc (EA _) _;have D:(w.alloc (.cells #[int .u8 3,int i64 a,int .u8 i,int i64 j,.string g] 55)).heap[w.heap.size]?=some (.cells #[int .u8 3,int i64 a,int .u8 i,int i64 j,.string g] 55 (0,0)):=n7 w _;have r:=Hd s;have k:=Hd D;have l:=Hd (hw.below s);have Q:=Hd hw.lt;have hm:aY binds nv ⟨C,a,i,j,g⟩=if decide (0≤a)&&decide (a<nv)&&z then some nv else none:=by
  unfold aY;dsimp only;rw[M,N];rfl
 obtain⟨res,m⟩:=zzx (aY binds nv ⟨C,a,i,j,g⟩);have O:Hid (res=if decide (0≤a)&&decide (a<nv)&&z then some nv else none):=m.trans hm;rw[←m,M];clear s D hw N hm m M;obtain⟨w1,t⟩:=zzx (w.alloc (.cells #[int .u8 3,int i64 a,int .u8 i,int i64 j,.string g] 55));rw[←t]at r k l
 go_enter Tryz.func60,Tryz.ntmps60
 go_upto_region 1 with fail
 change Code.wp _ _ _ _ (w.alloc (.cells #[int .u8 3,int i64 a,int .u8 i,int i64 j,.string g] 55));rw[←t];clear t;obtain⟨u,q,y,A,B⟩:=cells5 k.o
 go_cut [7] from 8 to 11 (fun v W=>v=.bool z∧w1=W)
 case first =>
  by_cases E:i=0
  ·subst E
   by_cases G:j=0
   ·subst G
    by_cases H:g.toList=[]
    ·go_wp2_with fail
     go_meet
     case rel=>exact⟨by rw[L.o];simp[H],rfl⟩
    ·go_wp2_with fail
     go_meet
     case rel=>exact⟨by rw[L.o];simp[H],rfl⟩
   ·go_wp2_with fail
    go_meet
    case rel=>exact⟨by rw[L.o];simp[G],rfl⟩
  ·go_wp2_with fail
   go_meet
   case rel=>exact⟨by rw[L.o];simp[E],rfl⟩
 case rest =>
  obtain⟨rfl,rfl⟩:=hcut;have h:w1.cell? ⟨S,2,none⟩=some (int i64 nv):=l.o.vars;clear u q y A B
  by_cases P:0≤a
  ·by_cases I:a<nv
   ·have n:decide (0≤a)=true:=decide_eq_true P;have p:decide (a<nv)=true:=decide_eq_true I;obtain⟨u,q,y,A,B⟩:=cells5 k.o;have J:=fun x:Wb w1=>x.cell h
    have K:=fun x:Wb w1=>x.cell q
    go_upto_region 9 with fail
    clear h u q y A B;refine ae (by kernel_rfl) (by kernel_rfl) ?_
    repeat (go_big_quiet_step (fail))
    refine wpQuiet_nil ?_;intro W2 c;have e:=az c;have f:=Hd e;clear c e K J;go_wp2_with fail
    go_ret;exact fy ((Chg.of_below r.o).trans (Chg.of_below f.o)) (l.o.below f.o) (by rw[O.o,n,p];rfl)
   ·have n:decide (0≤a)=true:=decide_eq_true P;have p:decide (a<nv)=false:=oc I;obtain⟨u,q,y,A,B⟩:=cells5 k.o;have J:=fun x:Wb w1=>x.cell h
    have K:=fun x:Wb w1=>x.cell q
    go_upto_region 9 with fail
    clear h u q y A B;refine ae (by kernel_rfl) (by kernel_rfl) ?_
    repeat (go_big_quiet_step (fail))
    refine wpQuiet_nil ?_;intro W2 c;have e:=az c;have f:=Hd e;clear c e K J;go_wp2_with fail
    go_ret;exact fy (b:=false) ((Chg.of_below r.o).trans (Chg.of_below f.o)) (l.o.below f.o) (by rw[O.o,n,p];rfl)
  ·have n:decide (0≤a)=false:=oc P;obtain⟨u,q,y,A,B⟩:=cells5 k.o;have J:=fun x:Wb w1=>x.cell h
   have K:=fun x:Wb w1=>x.cell q
   go_upto_region 9 with fail
   clear h u q y A B;refine ae (by kernel_rfl) (by kernel_rfl) ?_
   repeat (go_big_quiet_step (fail))
   refine wpQuiet_nil ?_;intro W2 c;have e:=az c;have f:=Hd e;clear c e K J;go_wp2_with fail
   go_ret;exact fy (b:=false) ((Chg.of_below r.o).trans (Chg.of_below f.o)) (l.o.below f.o) (by rw[O.o,n];rfl)
theorem yG(F:Nat→Prop)(S d:Nat)(types:List ai)(rules:List aj)(vT vR:Value)(nv nf:Int)(m g c f:Int)(a:ByteArray)(binds:Bool)(w:World)(hw:SuW F S d types rules vT vR nv nf w)(A:m=4)(B:a.size≤maxLen):Calls Tryz.prog 60 #[.pointer (some ⟨S,0,none⟩),.agg #[int .u8 m,int i64 g,int .u8 c,int i64 f,.string a],.bool binds] w (kg F S d types rules vT vR nf (aY binds nv ⟨m,g,c,f,a⟩) w):=by
 obtain⟨z,C⟩:=zzy (zeroV ⟨c,f,a⟩);have y:Hid (z=(c==0&&f==0&&decide (a.toList=[]))):=by
  show _=_
  rw[←C];unfold zeroV;rw[show decide (a.toList=[])=a.data.toList.isEmpty by rw[Fc,ot];exact fj _]
 have i:Ft w (w.alloc (.cells #[int .u8 4,int i64 g,int .u8 c,int i64 f,.string a] 55)):=(EB _ w).alloc (EA _) _;have n:(w.alloc (.cells #[int .u8 4,int i64 g,int .u8 c,int i64 f,.string a] 55)).heap[w.heap.size]?=some (.cells #[int .u8 4,int i64 g,int .u8 c,int i64 f,.string a] 55 (0,0)):=n7 w _;have j:=Hd i;have p:=Hd n;have k:=Hd (hw.below i);have G:=Hd hw.lt;have hm:aY binds nv ⟨m,g,c,f,a⟩=if g==0&&cJ ⟨c,f,a⟩ then some nv else none:=by
  unfold aY;dsimp only;rw[A,C];rfl
 obtain⟨res,h⟩:=zzx (aY binds nv ⟨m,g,c,f,a⟩);have D:Hid (res=if g==0&&cJ ⟨c,f,a⟩ then some nv else none):=h.trans hm;rw[←h,A];clear i n hw C hm h A;obtain⟨w1,l⟩:=zzx (w.alloc (.cells #[int .u8 4,int i64 g,int .u8 c,int i64 f,.string a] 55));rw[←l]at j p k
 go_enter Tryz.func60,Tryz.ntmps60
 go_upto_region 1 with fail
 change Code.wp _ _ _ _ (w.alloc (.cells #[int .u8 4,int i64 g,int .u8 c,int i64 f,.string a] 55));rw[←l];clear l;obtain⟨H,I,J,K,L⟩:=cells5 p.o
 go_cut [7] from 8 to 11 (fun v W=>v=.bool z∧w1=W)
 case first =>
  by_cases q:c=0
  ·subst q
   by_cases r:f=0
   ·subst r
    by_cases s:a.toList=[]
    ·go_wp2_with fail
     go_meet
     case rel=>exact⟨by rw[y.o];simp[s],rfl⟩
    ·go_wp2_with fail
     go_meet
     case rel=>exact⟨by rw[y.o];simp[s],rfl⟩
   ·go_wp2_with fail
    go_meet
    case rel=>exact⟨by rw[y.o];simp[r],rfl⟩
  ·go_wp2_with fail
   go_meet
   case rel=>exact⟨by rw[y.o];simp[q],rfl⟩
 case rest =>
  obtain⟨rfl,rfl⟩:=hcut
  by_cases E:g=0
  ·subst E;have t:=Hd (lk ⟨c,f,a⟩ w1 B);go_wp2_with fail
   refine t.o.mono ?_;rintro e W2 ⟨rfl,u⟩;have x:=Hd u;clear u t H I J K L;go_wp2_with fail
   go_ret;exact fy ((Chg.of_below j.o).trans (Chg.of_below x.o)) (k.o.below x.o) (by rw[D.o];rfl)
  ·go_wp2_with fail
   go_ret;exact fy (b:=false) (Chg.of_below j.o) k.o (by rw[D.o,show (g==0)=false by simpa using E];rfl)
theorem vK(F:Nat→Prop)(S d:Nat)(types:List ai)(rules:List aj)(vT vR:Value)(nv nf:Int)(a h e f:Int)(c:ByteArray)(binds:Bool)(w:World)(hw:SuW F S d types rules vT vR nv nf w)(k:a≠1∧a≠2∧a≠3∧a≠4):Calls Tryz.prog 60 #[.pointer (some ⟨S,0,none⟩),.agg #[int .u8 a,int i64 h,int .u8 e,int i64 f,.string c],.bool binds] w (kg F S d types rules vT vR nf (aY binds nv ⟨a,h,e,f,c⟩) w):=by
 obtain⟨z,u⟩:=zzy (zeroV ⟨e,f,c⟩);have t:Hid (z=(e==0&&f==0&&decide (c.toList=[]))):=by
  show _=_
  rw[←u];unfold zeroV;rw[show decide (c.toList=[])=c.data.toList.isEmpty by rw[Fc,ot];exact fj _]
 have i:Ft w (w.alloc (.cells #[int .u8 a,int i64 h,int .u8 e,int i64 f,.string c] 55)):=(EB _ w).alloc (EA _) _;have l:(w.alloc (.cells #[int .u8 a,int i64 h,int .u8 e,int i64 f,.string c] 55)).heap[w.heap.size]?=some (.cells #[int .u8 a,int i64 h,int .u8 e,int i64 f,.string c] 55 (0,0)):=n7 w _;have m:=Hd i;have n:=Hd l;have p:=Hd (hw.below i);have x:=Hd hw.lt;have hm:aY binds nv ⟨a,h,e,f,c⟩=none:=by
  unfold aY;dsimp only;rw[show (a==1)=false by simpa using k.1,show (a==2)=false by simpa using k.2.1,show (a==3)=false by simpa using k.2.2.1,show (a==4)=false by simpa using k.2.2.2];rfl
 obtain⟨res,g⟩:=zzx (aY binds nv ⟨a,h,e,f,c⟩);have y:Hid (res=none):=g.trans hm;rw[←g];clear i l hw u hm g;obtain⟨w1,j⟩:=zzx (w.alloc (.cells #[int .u8 a,int i64 h,int .u8 e,int i64 f,.string c] 55));rw[←j]at m n p
 go_enter Tryz.func60,Tryz.ntmps60
 go_upto_region 1 with fail
 change Code.wp _ _ _ _ (w.alloc (.cells #[int .u8 a,int i64 h,int .u8 e,int i64 f,.string c] 55));rw[←j];clear j;obtain⟨A,B,C,D,E⟩:=cells5 n.o
 go_cut [7] from 8 to 11 (fun v W=>v=.bool z∧w1=W)
 case first =>
  by_cases q:e=0
  ·subst q
   by_cases r:f=0
   ·subst r
    by_cases s:c.toList=[]
    ·go_wp2_with fail
     go_meet
     case rel=>exact⟨by rw[t.o];simp[s],rfl⟩
    ·go_wp2_with fail
     go_meet
     case rel=>exact⟨by rw[t.o];simp[s],rfl⟩
   ·go_wp2_with fail
    go_meet
    case rel=>exact⟨by rw[t.o];simp[r],rfl⟩
  ·go_wp2_with fail
   go_meet
   case rel=>exact⟨by rw[t.o];simp[q],rfl⟩
 case rest =>
  obtain⟨rfl,rfl⟩:=hcut;obtain⟨G,H,I,J⟩:=k;go_wp2_with fail
  go_ret;exact fy (nv:=nv) (b:=false) (Chg.of_below m.o) p.o (by rw[y.o];rfl)
theorem rz(F:Nat→Prop)(S d:Nat)(types:List ai)(rules:List aj)(vT vR:Value)(nv nf:Int)(a:cg)(binds:Bool)(w:World)(hw:SuW F S d types rules vT vR nv nf w)(h:0≤nv∧nv≤1000000)(i:a.val.text.size≤maxLen) :
  Calls Tryz.prog 60 #[.pointer (some ⟨S,0,none⟩),.agg #[int .u8 a.kind,int i64 a.var,int .u8 a.val.kind,int i64 a.val.num,.string a.val.text],.bool binds] w (kg F S d types rules vT vR nf (aY binds nv a) w):=by
 obtain⟨b,c,e,f,g⟩:=a
 by_cases j:b=1
 ·exact Aj F S d types rules vT vR nv nf b c e f g binds w hw j
 by_cases k:b=2
 ·exact Av F S d types rules vT vR nv nf b c e f g binds w hw k h
 by_cases l:b=3
 ·exact vu F S d types rules vT vR nv nf b c e f g binds w hw l
 by_cases m:b=4
 ·exact yG F S d types rules vT vR nv nf b c e f g binds w hw m i
 ·exact vK F S d types rules vT vR nv nf b c e f g binds w hw ⟨j,k,l,m⟩
