/- Parts of one proof, joined; conditions stand in each theorem. -/
import Derived.Test.YtmpekinjoeibbaaGreatDoorNU
open Go renaming Value→r3,World→p7,Calls→r9,wpQuiet_nil→vk
open Go.Value renaming slice→O,pointer→tv,agg→s3,int→I,func→wP
open Go.Proofs.Tryz renaming prog→r6
open Option renaming some→A,none→V
open Go.IntKind renaming u8→J,i64→Y
open Go.Obj renaming cells→p8
open Decidable renaming decide→r8
open Bool renaming false→r7
namespace Go.Proofs.YtmpekinjoeibbaaGreatDoor
set_option maxHeartbeats 8000000
set_option maxRecDepth 100000
open Go.RowKit
theorem AC(F:Nat→Prop)(S d:Nat)(types:List ap)(rules:List au)(vT vR:r3)(nv nf:Int)(a:bm)(p:Option Addr)(n cc:Nat)(w:p7)(hw:SuW F S d types rules vT vR nv nf w)(B:a.y.length=n)(C:a.b=1)(s:(cI d).y w F a.y (O p n cc)):r9 r6 37 #[tv (A ⟨S,0,V⟩),s3 #[I J a.b,I Y a.h,I Y a.a,O p n cc]] w (ao (bZ d types (nv,nf) a) w):=by
 obtain⟨w1,j⟩:=zzx (w.alloc (p8 #[I J 1,I Y a.h,I Y a.a,O p n cc] 59));have c:FS w w1:=by rw[j];exact (EU _ w).alloc (ET _) _
 have m:w1.heap[w.heap.size]?=A (p8 #[I J 1,I Y a.h,I Y a.a,O p n cc] 59 (0,0)):=by rw[j];exact ot w _
 obtain⟨q,t,P,u,v⟩:=zz5 c m (hw.C c) (fun (W:p7) (h:FS w1 W)=>ll S nv d (dL nv d) (l6 S nv d) a.y (O p n cc) W ((hw.C c).C h).b (Rd.sb (fun b D=>EY (hw.f b D).1 (EZ c.size h.size)) (Rd.qv (fun b D o Q=>((c.trans (h.mono c.size)).block b (hw.f b D).1).trans Q) s))) (li F S d types rules vT vR nv nf a.h (n:Int) w1 (hw.C c));have R:a.y.isEmpty=r8 (n=0):=by rw[←B];cases a.y<;>rfl
 have hm:bZ d types (nv,nf) a=(r8 (a.a=0)&&bz types a.h (n:Int)&&a.y.all (dL nv d)):=by
  unfold bZ;rw[C,B,show (a.a==0)=r8 (a.a=0) from rfl];rfl
 obtain⟨res,g⟩:=zzx (bZ d types (nv,nf) a);have E:Hid (res=(r8 (a.a=0)&&bz types a.h (n:Int)&&a.y.all (dL nv d))):=g.trans hm;rw[←g,C];obtain⟨G,H,K,L⟩:=iw m;clear c m hw B hm g R C
 go_enter Tryz.func37,Tryz.ntmps37
 go_upto_region 1 with fail
 change Code.wp _ _ _ _ (w.alloc (p8 #[I J 1,I Y a.h,I Y a.a,O p n cc] 59));rw[←j];clear j
 by_cases N:a.a=0
 ·have T:=Hd N;go_wp2_with fail
  refine v.o.mono ?_;rintro e W2 ⟨rfl,k⟩;obtain⟨r,l⟩:=zz2 (q.o.trans (k.mono q.o.size)) (u.o W2 k);have x:=ag k t.o (ES.1 t.o).1;clear k v u G H K L;obtain⟨G,H,K,L⟩:=iw x;clear x
  cases z:bz types a.h (n:Int) with
  | false =>
   have i:Hid (res=r7):=by show _=_;rw[E.o,z];simp
   clear z;go_wp2_with fail
   go_ret;exact⟨by rw[i.o];rfl,r.o⟩
  | true =>
   have i:Hid (res=a.y.all (dL nv d)):=by show _=_;rw[E.o,z,decide_eq_true T.o];rfl
   clear z;go_wp2_with fail
   refine l.o.mono ?_;rintro e U ⟨rfl,y⟩;have M:=Hd (r.o.trans (y.mono r.o.size));clear y l G H K L;go_wp2_with fail
   go_ret;exact⟨by rw[i.o];rfl,M.o⟩
 ·have i:Hid (res=r7):=by show _=_;rw[E.o,oB N];rfl
  go_wp2_with fail
  go_ret;exact⟨by rw[i.o];rfl,q.o⟩
theorem wV(F:Nat→Prop)(S d:Nat)(types:List ap)(rules:List au)(vT vR:r3)(nv nf:Int)(a:bm)(p:Option Addr)(n cc:Nat)(w:p7)(hw:SuW F S d types rules vT vR nv nf w)(z:a.y.length=n)(u:a.b=3)(q:(cI d).y w F a.y (O p n cc)):r9 r6 37 #[tv (A ⟨S,0,V⟩),s3 #[I J a.b,I Y a.h,I Y a.a,O p n cc]] w (ao (bZ d types (nv,nf) a) w):=by
 obtain⟨w1,k⟩:=zzx (w.alloc (p8 #[I J 3,I Y a.h,I Y a.a,O p n cc] 59));have c:FS w w1:=by rw[k];exact (EU _ w).alloc (ET _) _
 have m:w1.heap[w.heap.size]?=A (p8 #[I J 3,I Y a.h,I Y a.a,O p n cc] 59 (0,0)):=by rw[k];exact ot w _
 obtain⟨i,G,H,r⟩:=zz4 c m (hw.C c) (fun (W:p7) (h:FS w1 W)=>ll S nv d (dL nv d) (l6 S nv d) a.y (O p n cc) W ((hw.C c).C h).b (Rd.sb (fun b v=>EY (hw.f b v).1 (EZ c.size h.size)) (Rd.qv (fun b v o K=>((c.trans (h.mono c.size)).block b (hw.f b v).1).trans K) q)));have B:a.y.isEmpty=r8 (n=0):=by rw[←z];cases a.y<;>rfl
 have hm:bZ d types (nv,nf) a=(r8 (a.h=0)&&r8 (a.a=0)&&!decide (n=0)&&a.y.all (dL nv d)):=by
  unfold bZ;rw[u,B,show (a.a==0)=r8 (a.a=0) from rfl,show (a.h==0)=r8 (a.h=0) from rfl];rfl
 obtain⟨res,j⟩:=zzx (bZ d types (nv,nf) a);have t:Hid (res=(r8 (a.h=0)&&r8 (a.a=0)&&!decide (n=0)&&a.y.all (dL nv d))):=j.trans hm;rw[←j,u];obtain⟨L,M,N,P⟩:=iw m;clear c m hw z hm j B u
 go_enter Tryz.func37,Tryz.ntmps37
 go_upto_region 1 with fail
 change Code.wp _ _ _ _ (w.alloc (p8 #[I J 3,I Y a.h,I Y a.a,O p n cc] 59));rw[←k];clear k
 by_cases C:a.h=0
 ·by_cases D:a.a=0
  ·by_cases E:n=0
   ·have g:Hid (res=r7):=by show _=_;rw[t.o,decide_eq_true E];simp
    have x:¬(0:Int)<(n:Int):=by omega
    go_wp2_with fail
    go_ret;exact⟨by rw[g.o];rfl,i.o⟩
   ·have g:Hid (res=a.y.all (dL nv d)):=by show _=_;rw[t.o,decide_eq_true C,decide_eq_true D,oB E];rfl
    have x:(0:Int)<(n:Int):=by omega
    have l:=Hd (r.o w1 (EU _ _));go_wp2_with fail
    refine l.o.mono ?_;rintro e Q ⟨rfl,s⟩;have y:=Hd (i.o.trans (s.mono i.o.size));clear s l r L M N P;go_wp2_with fail
    go_ret;exact⟨by rw[g.o];rfl,y.o⟩
  ·have g:Hid (res=r7):=by show _=_;rw[t.o,oB D];simp
   go_wp2_with fail
   go_ret;exact⟨by rw[g.o];rfl,i.o⟩
 ·have g:Hid (res=r7):=by show _=_;rw[t.o,oB C];simp
  go_wp2_with fail
  go_ret;exact⟨by rw[g.o];rfl,i.o⟩
theorem yv(F:Nat→Prop)(S d:Nat)(types:List ap)(rules:List au)(vT vR:r3)(nv nf:Int)(a:bm)(p:Option Addr)(n cc:Nat)(w:p7)(hw:SuW F S d types rules vT vR nv nf w)(m:a.y.length=n)(k:a.b=4):r9 r6 37 #[tv (A ⟨S,0,V⟩),s3 #[I J a.b,I Y a.h,I Y a.a,O p n cc]] w (ao (bZ d types (nv,nf) a) w):=by
 obtain⟨w1,e⟩:=zzx (w.alloc (p8 #[I J 4,I Y a.h,I Y a.a,O p n cc] 59));have g:FS w w1:=by rw[e];exact (EU _ w).alloc (ET _) _
 have h:w1.heap[w.heap.size]?=A (p8 #[I J 4,I Y a.h,I Y a.a,O p n cc] 59 (0,0)):=by rw[e];exact ot w _
 obtain⟨f,t,u⟩:=zz3 g h (hw.C g);have q:a.y.isEmpty=r8 (n=0):=by rw[←m];cases a.y<;>rfl
 have hm:bZ d types (nv,nf) a=(r8 (a.h=0)&&r8 (a.a=0)&&r8 (n=0)):=by
  unfold bZ;rw[k,q,show (a.a==0)=r8 (a.a=0) from rfl,show (a.h==0)=r8 (a.h=0) from rfl];rfl
 obtain⟨res,c⟩:=zzx (bZ d types (nv,nf) a);have i:Hid (res=(r8 (a.h=0)&&r8 (a.a=0)&&r8 (n=0))):=c.trans hm;rw[←c,k];obtain⟨x,y,z,B⟩:=iw h;clear g h hw m hm c q k
 go_enter Tryz.func37,Tryz.ntmps37
 go_upto_region 1 with fail
 change Code.wp _ _ _ _ (w.alloc (p8 #[I J 4,I Y a.h,I Y a.a,O p n cc] 59));rw[←e];clear e
 by_cases r:a.h=0
 ·by_cases s:a.a=0
  ·by_cases j:n=0
   ·have b:Hid (res=true):=by show _=_;rw[i.o,decide_eq_true r,decide_eq_true s,decide_eq_true j];rfl
    subst j;go_wp2_with fail
    go_ret;exact⟨by rw[b.o];rfl,f.o⟩
   ·have b:Hid (res=r7):=by show _=_;rw[i.o,oB j];simp
    have l:¬((n:Int)=0):=by omega
    have v:((n:Int)==0)=false:=by simpa using l
    go_wp2_with fail
    go_ret;exact⟨by rw[b.o];first|rfl|simp[j],f.o⟩
  ·have b:Hid (res=r7):=by show _=_;rw[i.o,oB s];simp
   go_wp2_with fail
   go_ret;exact⟨by rw[b.o];rfl,f.o⟩
 ·have b:Hid (res=r7):=by show _=_;rw[i.o,oB r];simp
  go_wp2_with fail
  go_ret;exact⟨by rw[b.o];rfl,f.o⟩
theorem vU(F:Nat→Prop)(S d:Nat)(types:List ap)(rules:List au)(vT vR:r3)(nv nf:Int)(a:bm)(p:Option Addr)(n cc:Nat)(w:p7)(hw:SuW F S d types rules vT vR nv nf w)(i:a.y.length=n)(g:a.b≠1∧a.b≠2∧a.b≠3∧a.b≠4):r9 r6 37 #[tv (A ⟨S,0,V⟩),s3 #[I J a.b,I Y a.h,I Y a.a,O p n cc]] w (ao (bZ d types (nv,nf) a) w):=by
 obtain⟨w1,c⟩:=zzx (w.alloc (p8 #[I J a.b,I Y a.h,I Y a.a,O p n cc] 59));have e:FS w w1:=by rw[c];exact (EU _ w).alloc (ET _) _
 have f:w1.heap[w.heap.size]?=A (p8 #[I J a.b,I Y a.h,I Y a.a,O p n cc] 59 (0,0)):=by rw[c];exact ot w _
 obtain⟨h,j,k⟩:=zz3 e f (hw.C e);have l:a.y.isEmpty=r8 (n=0):=by rw[←i];cases a.y<;>rfl
 have hm:bZ d types (nv,nf) a=(r7):=by
  unfold bZ;rw[show (a.b==1)=r7 by simpa using g.1,show (a.b==2)=r7 by simpa using g.2.1,show (a.b==3)=r7 by simpa using g.2.2.1,show (a.b==4)=r7 by simpa using g.2.2.2];rfl
 obtain⟨res,b⟩:=zzx (bZ d types (nv,nf) a);have m:Hid (res=(r7)):=b.trans hm;rw[←b];obtain⟨q,r,s,t⟩:=iw f;clear e f hw i hm b l
 go_enter Tryz.func37,Tryz.ntmps37
 go_upto_region 1 with fail
 change Code.wp _ _ _ _ (w.alloc (p8 #[I J a.b,I Y a.h,I Y a.a,O p n cc] 59));rw[←c];clear c;obtain⟨u,v,x,y⟩:=g;go_wp2_with fail
 go_ret;exact⟨by rw[m.o];rfl,h.o⟩
theorem AP(F:Nat→Prop)(S d:Nat)(types:List ap)(rules:List au)(vT vR:r3)(nv nf:Int)(a:bm)(p:Option Addr)(n cc:Nat)(w:p7)(hw:SuW F S d types rules vT vR nv nf w)(N:a.y.length=n)(K:a.b=2):r9 r6 37 #[tv (A ⟨S,0,V⟩),s3 #[I J a.b,I Y a.h,I Y a.a,O p n cc]] w (ao (bZ d types (nv,nf) a) w):=by
 obtain⟨w1,k⟩:=zzx (w.alloc (p8 #[I J 2,I Y a.h,I Y a.a,O p n cc] 59));have r:FS w w1:=by rw[k];exact (EU _ w).alloc (ET _) _
 have s:w1.heap[w.heap.size]?=A (p8 #[I J 2,I Y a.h,I Y a.a,O p n cc] 59 (0,0)):=by rw[k];exact ot w _
 obtain⟨e,R,L⟩:=zz3 r s (hw.C r);have P:a.y.isEmpty=r8 (n=0):=by rw[←N];cases a.y<;>rfl
 have hm:bZ d types (nv,nf) a=(r8 (a.h=0)&&r8 (n=0)&&r8 (0≤a.a)&&r8 (a.a<nf)):=by
  unfold bZ;rw[K,P,show (a.h==0)=r8 (a.h=0) from rfl];rfl
 obtain⟨res,j⟩:=zzx (bZ d types (nv,nf) a);have D:Hid (res=(r8 (a.h=0)&&r8 (n=0)&&r8 (0≤a.a)&&r8 (a.a<nf))):=j.trans hm;rw[←j,K];obtain⟨E,l,m,q⟩:=iw s;clear r s hw N hm j P K
 go_enter Tryz.func37,Tryz.ntmps37
 go_upto_region 1 with fail
 change Code.wp _ _ _ _ (w.alloc (p8 #[I J 2,I Y a.h,I Y a.a,O p n cc] 59));rw[←k];clear k;have f:w1.cell? ⟨S,3,V⟩=A (I Y nf):=by rw[FR _ _ _ _ _ _ L.o.h];rfl
 by_cases G:a.h=0
 ·have t:r8 (a.h=0)=true:=decide_eq_true G;have M:(a.h==0)=true:=by simpa using G
  by_cases H:n=0
  ·by_cases Q:0≤a.a
   ·have u:r8 (0≤a.a)=true:=decide_eq_true Q;have g:Hid (res=r8 (a.a<nf)):=by show _=_;rw[D.o,t,decide_eq_true H,u];rfl
    subst H;have v:=fun x:Wb w1=>x.b l
    have y:=fun x:Wb w1=>x.b m
    have z:=fun x:Wb w1=>x.b q
    have B:=fun x:Wb w1=>x.b f
    go_upto_region 5 with fail
    clear E l m q f;refine aj (by kernel_rfl) (by kernel_rfl) ?_
    repeat (go_big_quiet_step (fail))
    refine vk ?_;intro W2 b;have c:=aE b;have i:=Hd (e.o.trans (c.mono e.o.size));clear b c v y z B;go_wp2_with fail
    go_ret;exact⟨by rw[g.o];first|rfl|simp_all,i.o⟩
   ·have u:r8 (0≤a.a)=false:=oB Q;have g:Hid (res=r7):=by show _=_;rw[D.o,u];simp
    subst H;have v:=fun x:Wb w1=>x.b l
    have y:=fun x:Wb w1=>x.b m
    have z:=fun x:Wb w1=>x.b q
    have B:=fun x:Wb w1=>x.b f
    go_upto_region 5 with fail
    clear E l m q f;refine aj (by kernel_rfl) (by kernel_rfl) ?_
    repeat (go_big_quiet_step (fail))
    refine vk ?_;intro W2 b;have c:=aE b;have i:=Hd (e.o.trans (c.mono e.o.size));clear b c v y z B;go_wp2_with fail
    go_ret;exact⟨by rw[g.o];first|rfl|simp_all,i.o⟩
  ·have g:Hid (res=r7):=by show _=_;rw[D.o,oB H];simp
   have C:¬((n:Int)=0):=by omega
   have T:((n:Int)==0)=false:=by simpa using C
   have U:r8 ((n:Int)=0)=false:=oB C;have v:=fun x:Wb w1=>x.b l
   have y:=fun x:Wb w1=>x.b m
   have z:=fun x:Wb w1=>x.b q
   have B:=fun x:Wb w1=>x.b f
   go_upto_region 5 with fail
   clear E l m q f;refine aj (by kernel_rfl) (by kernel_rfl) ?_
   repeat (go_big_quiet_step (fail))
   refine vk ?_;intro W2 b;have c:=aE b;have i:=Hd (e.o.trans (c.mono e.o.size));clear b c v y z B;go_wp2_with fail
   go_ret;exact⟨by rw[g.o];first|rfl|simp_all,i.o⟩
 ·have t:r8 (a.h=0)=false:=oB G;have M:(a.h==0)=false:=by simpa using G
  have g:Hid (res=r7):=by show _=_;rw[D.o,t];rfl
  have v:=fun x:Wb w1=>x.b l
  have y:=fun x:Wb w1=>x.b m
  have z:=fun x:Wb w1=>x.b q
  have B:=fun x:Wb w1=>x.b f
  go_upto_region 5 with fail
  clear E l m q f;refine aj (by kernel_rfl) (by kernel_rfl) ?_
  repeat (go_big_quiet_step (fail))
  refine vk ?_;intro W2 b;have c:=aE b;have i:=Hd (e.o.trans (c.mono e.o.size));clear b c v y z B;go_wp2_with fail
  go_ret;exact⟨by rw[g.o];first|rfl|simp_all,i.o⟩
theorem Bw(F:Nat→Prop)(S d:Nat)(types:List ap)(rules:List au)(vT vR:r3)(nv nf:Int)(a:bm)(s:r3)(w:p7)(hw:SuW F S d types rules vT vR nv nf w)(b:(cI d).y w F a.y s) :
  r9 r6 37 #[tv (A ⟨S,0,V⟩),s3 #[I J a.b,I Y a.h,I Y a.a,s]] w (ao (bZ d types (nv,nf) a) w):=by
 obtain⟨p,cc,rfl⟩:=Rd.b b
 by_cases c:a.b=1
 ·exact AC F S d types rules vT vR nv nf a p _ cc w hw Z c b
 by_cases e:a.b=2
 ·exact AP F S d types rules vT vR nv nf a p _ cc w hw Z e
 by_cases f:a.b=3
 ·exact wV F S d types rules vT vR nv nf a p _ cc w hw Z f b
 by_cases g:a.b=4
 ·exact yv F S d types rules vT vR nv nf a p _ cc w hw Z g
 ·exact vU F S d types rules vT vR nv nf a p _ cc w hw Z ⟨c,e,f,g⟩
theorem zI(F:Nat→Prop)(S d:Nat)(types:List ap)(rules:List au)(vT vR:r3)(nv nf:Int)(a:bm)(s:r3)(T:Nat)(w:p7)(hw:SuW F S d types rules vT vR nv nf w)(k:w.cell? ⟨T,0,V⟩=A (tv (A ⟨S,0,V⟩)))(i:(cI d).y w F a.y s) :
  r9 r6 36 #[s3 #[I J a.b,I Y a.h,I Y a.a,s],tv (A ⟨T,0,V⟩)] w (ao (!bZ d types (nv,nf) a) w):=by
 obtain⟨p,c,l⟩:=Rd.b i;have g:FS w (w.alloc (p8 #[I J a.b,I Y a.h,I Y a.a,s] 59)):=(EU _ w).alloc (ET _) _;have r:=(g.cell (p:=⟨T,0,V⟩) (dW k)).trans k;obtain⟨m,n⟩:=zz2 (Bw F S d types rules vT vR nv nf a s _ (hw.C g) (Rd.qv (fun b e o t=>(g.block b (hw.f b e).1).trans t) i)) g;obtain⟨q,h⟩:=zzy (a.y.length);rw[h]at l;subst l;clear g i hw h
 go_enter Tryz.func36,Tryz.ntmps36
 go_wp2_with fail
 refine m.o.mono ?_;rintro u W2 ⟨rfl,e⟩;have j:=Hd (n.o.trans (e.mono n.o.size));clear e m;go_wp2_with fail
 go_ret;exact⟨Z,j.o⟩
theorem BU(F:Nat→Prop)(S d:Nat)(types:List ap)(rules:List au)(vT vR:r3)(nv nf:Int)(l:List bm)(v:r3)(T:Nat)(w:p7)(hw:SuW F S d types rules vT vR nv nf w)(U:w.cell? ⟨T,0,V⟩=A (tv (A ⟨S,0,V⟩)))(Q:(fG d).y w F l v) :
  r9 r6 90 #[v,wP (.func 36) #[] #[tv (A ⟨T,0,V⟩)]] w (fun e w'=>e=Ending.returned (I Y (eh (js (fun x=>!bZ d types (nv,nf) x) l 0)))∧FS w w'):=by
 obtain⟨p,c,X⟩:=Rd.b Q;have y:=Rd.ss Q;subst X;obtain⟨n,hn⟩:=zzy (l.length);have HV:=Hd (fun W (D:FS w W)=>Rd.u Q (fun b m=>(hw.f b m).1) D);have ad:=Hd (fun W (D:FS w W)=>(D.cell (p:=⟨T,0,V⟩) (dW U)).trans U);have af:=Hd (fun W (D:FS w W)=>hw.C D);obtain⟨q,r⟩:∃q:bm→Bool,q=fun x=>!bZ d types (nv,nf) x:=⟨_,rfl⟩
 have ak:Hid (∀x,q x = !bZ d types (nv,nf) x):=fun x=>by rw[r]
 rw[←r];rw[hn]at HV y ⊢;have HN:=Hd hn;have a1:(n:Int)≤9223372036854775807:=by unfold maxLen at y;omega
 clear Q hn U hw r y
 go_enter Tryz.func90,Tryz.ntmps90
 go_wp2
 go_loopw [8] (zW w n l q) (fun i _=>n-(intOf i).toNat)
 case atStart=>exact⟨0,Fi _,Z,EU _ _,fun j z hj=>by omega⟩
 case round =>
  obtain⟨k,hk,rfl,m,E⟩:=hrel;have a6:(0:Int)≤k:=by omega
  obtain⟨HB,B⟩:=zz2 m E;clear E
  by_cases aq:k<n
  ·have a7:(k:Int)<n:=by omega
   obtain⟨a,ha⟩:∃a,l[k]?=A a:=⟨_,EX (by rw[HN.o];exact aq)⟩;have t:=HV.o wr m;have G:=Rd.T t ha;rw[HN.o]at G;obtain⟨b,off,cap,vs,ar,_,_,_,_,H,g⟩:=G;rw[D2]at g;injection ar with e1 _ e3
   subst e1;subst e3;obtain⟨_,_,_,s,rfl,C⟩:=jn.1 H;have av:=Rd.b C;obtain⟨ps,K,hs⟩:=av;obtain⟨R,L⟩:=zzy (a.y.length);rw[L]at hs;subst hs;have c0:wr.cell? ⟨b,off+k*4,V⟩=A (I J a.b):=g 0 _ Z;have c1:wr.cell? ⟨b,off+k*4+1,V⟩=A (I Y a.h):=g 1 _ Z;have c2:wr.cell? ⟨b,off+k*4+2,V⟩=A (I Y a.a):=g 2 _ Z;have c3:wr.cell? ⟨b,off+k*4+3,V⟩=A (O ps R K):=g 3 _ Z;have HK:=Hd (zI F S d types rules vT vR nv nf a (O ps R K) T wr (af.o wr m) (ad.o wr m) C);have M:Hid (l[k]?=A a):=ha;rw[←ak.o a]at HK;clear t H g ha m C L;go_wp2_with fail
   refine HK.o.mono ?_;rintro e2 w1 ⟨rfl,N⟩;have P:=Hd (HB.o.trans (N.mono HB.o.size));clear N c0 c1 c2 c3
   cases r:q a with
   | true =>
    have HH:=Hd (pI q l 0 k a M.o r B.o);clear r;go_wp2_with fail
    go_ret;exact⟨by rw[HH.o,Nat.zero_add];rfl,P.o⟩
   | false =>
    have HQ:=Hd r;clear r;go_wp2_with fail
    exact⟨⟨k+1,by omega,by go_num,P.o,fun j z hj u=>by
     by_cases h:j=k
     ·subst h;rw[M.o]at u;injection u with u
      rw[←u];exact HQ.o
     ·exact B.o j z (by omega) u⟩,by simp[intOf];omega⟩
  ·have HH:Hid (js q l 0=V):=mR _ l 0 (fun j z u=>B.o j z (by
    have:=(Fo.1 u).1;rw[HN.o]at this
    omega) u)
   clear m;go_wp2_with fail
   go_ret;exact⟨by rw[HH.o];rfl,HB.o⟩
theorem Al(F:Nat→Prop)(S d:Nat)(types:List ap)(rules:List au)(vT vR:r3)(nv nf:Int)(l:List bm)(v:r3)(T:Nat)(w:p7)(hw:SuW F S d types rules vT vR nv nf w)(j:w.cell? ⟨T,0,V⟩=A (tv (A ⟨S,0,V⟩)))(h:(fG d).y w F l v) :
  r9 r6 35 #[v,wP (.func 36) #[] #[tv (A ⟨T,0,V⟩)]] w (ao (!(l.all (bZ d types (nv,nf)))) w):=by
 have b:=Hd (BU F S d types rules vT vR nv nf l v T w hw j h);rw[←oU (bZ d types (nv,nf)) l 0];obtain⟨p,c,f⟩:=Rd.b h;obtain⟨n,m⟩:=zzy (l.length);rw[m]at f;subst f;clear h j hw m
 cases g:js (fun x=>!bZ d types (nv,nf) x) l 0 with
 | none =>
  rw[g]at b;have b:Hid (r9 r6 90 #[O p n c,wP (.func 36) #[] #[tv (A ⟨T,0,V⟩)]] w (fun e w'=>e=Ending.returned (I Y (-1))∧FS w w')):=b;clear g
  go_enter Tryz.func35,Tryz.ntmps35
  go_wp2_with fail
  refine b.o.mono ?_;rintro e w1 ⟨rfl,a⟩;have i:=Hd a;clear a b;go_wp2_with fail
  go_ret;exact⟨Z,i.o⟩
 | some k =>
  rw[g]at b;have b:Hid (r9 r6 90 #[O p n c,wP (.func 36) #[] #[tv (A ⟨T,0,V⟩)]] w (fun e w'=>e=Ending.returned (I Y (k:Int))∧FS w w')):=b;have q:(0:Int)≤k:=by omega
  clear g
  go_enter Tryz.func35,Tryz.ntmps35
  go_wp2_with fail
  refine b.o.mono ?_;rintro e w1 ⟨rfl,a⟩;have i:=Hd a;clear a b;go_wp2_with fail
  go_ret;exact⟨Z,i.o⟩
