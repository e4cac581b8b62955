/- Parts of one proof, joined; conditions stand in each theorem. -/
import Derived.Test.YtkhfjgjjhlnnnaaGreatDoorYNU
open Go renaming Value→wF,World→wD,Calls→xL,wpQuiet_nil→Bk
open Go.Value renaming slice→A,pointer→xV,agg→xS,int→I,func→CF
open Go.Proofs.Tryz renaming prog→xD
open Option renaming some→Y,none→U
open Go.IntKind renaming u8→O,i64→Z
open Go.Obj renaming cells→wq
open Decidable renaming decide→xv
open Bool renaming false→xj
namespace Go.Proofs.YtkhfjgjjhlnnnaaGreatDoor
set_option maxHeartbeats 8000000
set_option maxRecDepth 100000
open Go.RowKit
theorem Ax(F:Nat→Prop)(S d:Nat)(types:List ae)(rules:List an)(vT vR:wF)(nv nf:Int)(a:bW)(p:Option Addr)(n s:Nat)(w:wD)(hw:SuW F S d types rules vT vR nv nf w)(C:a.y.length=n)(D:a.b=1)(t:(aL d).K w F a.y (A p n s)):xL xD 68 #[xV (Y ⟨S,0,U⟩),xS #[I O a.b,I Z a.f,I Z a.a,A p n s]] w (am (cm d types (nv,nf) a) w):=by
 obtain⟨w1,j⟩:=zzx (w.alloc (wq #[I O 1,I Z a.f,I Z a.a,A p n s] 70));have c:FK w w1:=by rw[j];exact (EP _ w).alloc (EO _) _
 have m:w1.heap[w.heap.size]?=Y (wq #[I O 1,I Z a.f,I Z a.a,A p n s] 70 (0,0)):=by rw[j];exact p9 w _
 obtain⟨q,u,Q,v,x⟩:=zz5 c m (hw.z c) (fun (W:wD) (h:FK w1 W)=>lJ S nv d (dQ nv d) (mp S nv d) a.y (A p n s) W ((hw.z c).z h).b (Rd.y (fun b E=>ET (hw.f b E).1 (EU c.size h.size)) (Rd.f (fun b E o R=>((c.trans (h.mono c.size)).block b (hw.f b E).1).trans R) t))) (lG F S d types rules vT vR nv nf a.f (n:Int) w1 (hw.z c));have T:a.y.isEmpty=xv (n=0):=by rw[←C];cases a.y<;>rfl
 have hm:cm d types (nv,nf) a=(xv (a.a=0)&&bH types a.f (n:Int)&&a.y.all (dQ nv d)):=by
  unfold cm;rw[D,C,show (a.a==0)=xv (a.a=0) from rfl];rfl
 obtain⟨res,g⟩:=zzx (cm d types (nv,nf) a);have G:Hid (res=(xv (a.a=0)&&bH types a.f (n:Int)&&a.y.all (dQ nv d))):=g.trans hm;rw[←g,D];obtain⟨H,K,L,M⟩:=gu m;clear c m hw C hm g T D
 go_enter Tryz.func68,Tryz.ntmps68
 go_upto_region 1 with fail
 change Code.wp _ _ _ _ (w.alloc (wq #[I O 1,I Z a.f,I Z a.a,A p n s] 70));rw[←j];clear j
 by_cases P:a.a=0
 ·have X:=Hd P;go_wp2_with fail
  refine x.o.mono ?_;rintro e W2 ⟨rfl,k⟩;obtain⟨r,l⟩:=zz2 (q.o.trans (k.mono q.o.size)) (v.o W2 k);have y:=aa k u.o (EN.1 u.o).1;clear k x v H K L M;obtain⟨H,K,L,M⟩:=gu y;clear y
  cases B:bH types a.f (n:Int) with
  | false =>
   have i:Hid (res=xj):=by show _=_;rw[G.o,B];simp
   clear B;go_wp2_with fail
   go_ret;exact⟨by rw[i.o];rfl,r.o⟩
  | true =>
   have i:Hid (res=a.y.all (dQ nv d)):=by show _=_;rw[G.o,B,decide_eq_true X.o];rfl
   clear B;go_wp2_with fail
   refine l.o.mono ?_;rintro e W3 ⟨rfl,z⟩;have N:=Hd (r.o.trans (z.mono r.o.size));clear z l H K L M;go_wp2_with fail
   go_ret;exact⟨by rw[i.o];rfl,N.o⟩
 ·have i:Hid (res=xj):=by show _=_;rw[G.o,r6 P];rfl
  go_wp2_with fail
  go_ret;exact⟨by rw[i.o];rfl,q.o⟩
theorem wE(F:Nat→Prop)(S d:Nat)(types:List ae)(rules:List an)(vT vR:wF)(nv nf:Int)(a:bW)(p:Option Addr)(n q:Nat)(w:wD)(hw:SuW F S d types rules vT vR nv nf w)(B:a.y.length=n)(v:a.b=3)(r:(aL d).K w F a.y (A p n q)):xL xD 68 #[xV (Y ⟨S,0,U⟩),xS #[I O a.b,I Z a.f,I Z a.a,A p n q]] w (am (cm d types (nv,nf) a) w):=by
 obtain⟨w1,k⟩:=zzx (w.alloc (wq #[I O 3,I Z a.f,I Z a.a,A p n q] 70));have c:FK w w1:=by rw[k];exact (EP _ w).alloc (EO _) _
 have m:w1.heap[w.heap.size]?=Y (wq #[I O 3,I Z a.f,I Z a.a,A p n q] 70 (0,0)):=by rw[k];exact p9 w _
 obtain⟨i,H,K,s⟩:=zz4 c m (hw.z c) (fun (W:wD) (h:FK w1 W)=>lJ S nv d (dQ nv d) (mp S nv d) a.y (A p n q) W ((hw.z c).z h).b (Rd.y (fun b x=>ET (hw.f b x).1 (EU c.size h.size)) (Rd.f (fun b x o L=>((c.trans (h.mono c.size)).block b (hw.f b x).1).trans L) r)));have C:a.y.isEmpty=xv (n=0):=by rw[←B];cases a.y<;>rfl
 have hm:cm d types (nv,nf) a=(xv (a.f=0)&&xv (a.a=0)&&!decide (n=0)&&a.y.all (dQ nv d)):=by
  unfold cm;rw[v,C,show (a.a==0)=xv (a.a=0) from rfl,show (a.f==0)=xv (a.f=0) from rfl];rfl
 obtain⟨res,j⟩:=zzx (cm d types (nv,nf) a);have u:Hid (res=(xv (a.f=0)&&xv (a.a=0)&&!decide (n=0)&&a.y.all (dQ nv d))):=j.trans hm;rw[←j,v];obtain⟨M,N,P,Q⟩:=gu m;clear c m hw B hm j C v
 go_enter Tryz.func68,Tryz.ntmps68
 go_upto_region 1 with fail
 change Code.wp _ _ _ _ (w.alloc (wq #[I O 3,I Z a.f,I Z a.a,A p n q] 70));rw[←k];clear k
 by_cases D:a.f=0
 ·by_cases E:a.a=0
  ·by_cases G:n=0
   ·have g:Hid (res=xj):=by show _=_;rw[u.o,decide_eq_true G];simp
    have y:¬(0:Int)<(n:Int):=by omega
    go_wp2_with fail
    go_ret;exact⟨by rw[g.o];rfl,i.o⟩
   ·have g:Hid (res=a.y.all (dQ nv d)):=by show _=_;rw[u.o,decide_eq_true D,decide_eq_true E,r6 G];rfl
    have y:(0:Int)<(n:Int):=by omega
    have l:=Hd (s.o w1 (EP _ _));go_wp2_with fail
    refine l.o.mono ?_;rintro e R ⟨rfl,t⟩;have z:=Hd (i.o.trans (t.mono i.o.size));clear t l s M N P Q;go_wp2_with fail
    go_ret;exact⟨by rw[g.o];rfl,z.o⟩
  ·have g:Hid (res=xj):=by show _=_;rw[u.o,r6 E];simp
   go_wp2_with fail
   go_ret;exact⟨by rw[g.o];rfl,i.o⟩
 ·have g:Hid (res=xj):=by show _=_;rw[u.o,r6 D];simp
  go_wp2_with fail
  go_ret;exact⟨by rw[g.o];rfl,i.o⟩
theorem xW(F:Nat→Prop)(S d:Nat)(types:List ae)(rules:List an)(vT vR:wF)(nv nf:Int)(a:bW)(p:Option Addr)(n i:Nat)(w:wD)(hw:SuW F S d types rules vT vR nv nf w)(q:a.y.length=n)(l:a.b=4):xL xD 68 #[xV (Y ⟨S,0,U⟩),xS #[I O a.b,I Z a.f,I Z a.a,A p n i]] w (am (cm d types (nv,nf) a) w):=by
 obtain⟨w1,e⟩:=zzx (w.alloc (wq #[I O 4,I Z a.f,I Z a.a,A p n i] 70));have g:FK w w1:=by rw[e];exact (EP _ w).alloc (EO _) _
 have h:w1.heap[w.heap.size]?=Y (wq #[I O 4,I Z a.f,I Z a.a,A p n i] 70 (0,0)):=by rw[e];exact p9 w _
 obtain⟨f,u,v⟩:=zz3 g h (hw.z g);have r:a.y.isEmpty=xv (n=0):=by rw[←q];cases a.y<;>rfl
 have hm:cm d types (nv,nf) a=(xv (a.f=0)&&xv (a.a=0)&&xv (n=0)):=by
  unfold cm;rw[l,r,show (a.a==0)=xv (a.a=0) from rfl,show (a.f==0)=xv (a.f=0) from rfl];rfl
 obtain⟨res,c⟩:=zzx (cm d types (nv,nf) a);have j:Hid (res=(xv (a.f=0)&&xv (a.a=0)&&xv (n=0))):=c.trans hm;rw[←c,l];obtain⟨y,z,B,C⟩:=gu h;clear g h hw q hm c r l
 go_enter Tryz.func68,Tryz.ntmps68
 go_upto_region 1 with fail
 change Code.wp _ _ _ _ (w.alloc (wq #[I O 4,I Z a.f,I Z a.a,A p n i] 70));rw[←e];clear e
 by_cases s:a.f=0
 ·by_cases t:a.a=0
  ·by_cases k:n=0
   ·have b:Hid (res=true):=by show _=_;rw[j.o,decide_eq_true s,decide_eq_true t,decide_eq_true k];rfl
    subst k;go_wp2_with fail
    go_ret;exact⟨by rw[b.o];rfl,f.o⟩
   ·have b:Hid (res=xj):=by show _=_;rw[j.o,r6 k];simp
    have m:¬((n:Int)=0):=by omega
    have x:((n:Int)==0)=false:=by simpa using m
    go_wp2_with fail
    go_ret;exact⟨by rw[b.o];first|rfl|simp[k],f.o⟩
  ·have b:Hid (res=xj):=by show _=_;rw[j.o,r6 t];simp
   go_wp2_with fail
   go_ret;exact⟨by rw[b.o];rfl,f.o⟩
 ·have b:Hid (res=xj):=by show _=_;rw[j.o,r6 s];simp
  go_wp2_with fail
  go_ret;exact⟨by rw[b.o];rfl,f.o⟩
theorem vE(F:Nat→Prop)(S d:Nat)(types:List ae)(rules:List an)(vT vR:wF)(nv nf:Int)(a:bW)(p:Option Addr)(n h:Nat)(w:wD)(hw:SuW F S d types rules vT vR nv nf w)(j:a.y.length=n)(g:a.b≠1∧a.b≠2∧a.b≠3∧a.b≠4):xL xD 68 #[xV (Y ⟨S,0,U⟩),xS #[I O a.b,I Z a.f,I Z a.a,A p n h]] w (am (cm d types (nv,nf) a) w):=by
 obtain⟨w1,c⟩:=zzx (w.alloc (wq #[I O a.b,I Z a.f,I Z a.a,A p n h] 70));have e:FK w w1:=by rw[c];exact (EP _ w).alloc (EO _) _
 have f:w1.heap[w.heap.size]?=Y (wq #[I O a.b,I Z a.f,I Z a.a,A p n h] 70 (0,0)):=by rw[c];exact p9 w _
 obtain⟨i,k,l⟩:=zz3 e f (hw.z e);have m:a.y.isEmpty=xv (n=0):=by rw[←j];cases a.y<;>rfl
 have hm:cm d types (nv,nf) a=(xj):=by
  unfold cm;rw[show (a.b==1)=xj by simpa using g.1,show (a.b==2)=xj by simpa using g.2.1,show (a.b==3)=xj by simpa using g.2.2.1,show (a.b==4)=xj by simpa using g.2.2.2];rfl
 obtain⟨res,b⟩:=zzx (cm d types (nv,nf) a);have q:Hid (res=(xj)):=b.trans hm;rw[←b];obtain⟨r,s,t,u⟩:=gu f;clear e f hw j hm b m
 go_enter Tryz.func68,Tryz.ntmps68
 go_upto_region 1 with fail
 change Code.wp _ _ _ _ (w.alloc (wq #[I O a.b,I Z a.f,I Z a.a,A p n h] 70));rw[←c];clear c;obtain⟨v,x,y,z⟩:=g;go_wp2_with fail
 go_ret;exact⟨by rw[q.o];rfl,i.o⟩
theorem AM(F:Nat→Prop)(S d:Nat)(types:List ae)(rules:List an)(vT vR:wF)(nv nf:Int)(a:bW)(p:Option Addr)(n C:Nat)(w:wD)(hw:SuW F S d types rules vT vR nv nf w)(N:a.y.length=n)(K:a.b=2):xL xD 68 #[xV (Y ⟨S,0,U⟩),xS #[I O a.b,I Z a.f,I Z a.a,A p n C]] w (am (cm d types (nv,nf) a) w):=by
 obtain⟨w1,k⟩:=zzx (w.alloc (wq #[I O 2,I Z a.f,I Z a.a,A p n C] 70));have r:FK w w1:=by rw[k];exact (EP _ w).alloc (EO _) _
 have s:w1.heap[w.heap.size]?=Y (wq #[I O 2,I Z a.f,I Z a.a,A p n C] 70 (0,0)):=by rw[k];exact p9 w _
 obtain⟨e,R,L⟩:=zz3 r s (hw.z r);have P:a.y.isEmpty=xv (n=0):=by rw[←N];cases a.y<;>rfl
 have hm:cm d types (nv,nf) a=(xv (a.f=0)&&xv (n=0)&&xv (0≤a.a)&&xv (a.a<nf)):=by
  unfold cm;rw[K,P,show (a.f==0)=xv (a.f=0) from rfl];rfl
 obtain⟨res,j⟩:=zzx (cm d types (nv,nf) a);have D:Hid (res=(xv (a.f=0)&&xv (n=0)&&xv (0≤a.a)&&xv (a.a<nf))):=j.trans hm;rw[←j,K];obtain⟨E,l,m,q⟩:=gu s;clear r s hw N hm j P K
 go_enter Tryz.func68,Tryz.ntmps68
 go_upto_region 1 with fail
 change Code.wp _ _ _ _ (w.alloc (wq #[I O 2,I Z a.f,I Z a.a,A p n C] 70));rw[←k];clear k;have f:w1.cell? ⟨S,3,U⟩=Y (I Z nf):=by rw[FI _ _ _ _ _ _ L.o.h];rfl
 by_cases G:a.f=0
 ·have t:xv (a.f=0)=true:=decide_eq_true G;have M:(a.f==0)=true:=by simpa using G
  by_cases H:n=0
  ·by_cases Q:0≤a.a
   ·have u:xv (0≤a.a)=true:=decide_eq_true Q;have g:Hid (res=xv (a.a<nf)):=by show _=_;rw[D.o,t,decide_eq_true H,u];rfl
    subst H;have v:=fun x:Wb w1=>x.b l
    have E2:=fun x:Wb w1=>x.b m
    have y:=fun x:Wb w1=>x.b q
    have z:=fun x:Wb w1=>x.b f
    go_upto_region 5 with fail
    clear E l m q f;refine au (by kernel_rfl) (by kernel_rfl) ?_
    repeat (go_big_quiet_step (fail))
    refine Bk ?_;intro W2 b;have c:=a7 b;have i:=Hd (e.o.trans (c.mono e.o.size));clear b c v E2 y z;go_wp2_with fail
    go_ret;exact⟨by rw[g.o];first|rfl|simp_all,i.o⟩
   ·have u:xv (0≤a.a)=false:=r6 Q;have g:Hid (res=xj):=by show _=_;rw[D.o,u];simp
    subst H;have v:=fun x:Wb w1=>x.b l
    have E2:=fun x:Wb w1=>x.b m
    have y:=fun x:Wb w1=>x.b q
    have z:=fun x:Wb w1=>x.b f
    go_upto_region 5 with fail
    clear E l m q f;refine au (by kernel_rfl) (by kernel_rfl) ?_
    repeat (go_big_quiet_step (fail))
    refine Bk ?_;intro W2 b;have c:=a7 b;have i:=Hd (e.o.trans (c.mono e.o.size));clear b c v E2 y z;go_wp2_with fail
    go_ret;exact⟨by rw[g.o];first|rfl|simp_all,i.o⟩
  ·have g:Hid (res=xj):=by show _=_;rw[D.o,r6 H];simp
   have B:¬((n:Int)=0):=by omega
   have T:((n:Int)==0)=false:=by simpa using B
   have W:xv ((n:Int)=0)=false:=r6 B;have v:=fun x:Wb w1=>x.b l
   have E2:=fun x:Wb w1=>x.b m
   have y:=fun x:Wb w1=>x.b q
   have z:=fun x:Wb w1=>x.b f
   go_upto_region 5 with fail
   clear E l m q f;refine au (by kernel_rfl) (by kernel_rfl) ?_
   repeat (go_big_quiet_step (fail))
   refine Bk ?_;intro W2 b;have c:=a7 b;have i:=Hd (e.o.trans (c.mono e.o.size));clear b c v E2 y z;go_wp2_with fail
   go_ret;exact⟨by rw[g.o];first|rfl|simp_all,i.o⟩
 ·have t:xv (a.f=0)=false:=r6 G;have M:(a.f==0)=false:=by simpa using G
  have g:Hid (res=xj):=by show _=_;rw[D.o,t];rfl
  have v:=fun x:Wb w1=>x.b l
  have E2:=fun x:Wb w1=>x.b m
  have y:=fun x:Wb w1=>x.b q
  have z:=fun x:Wb w1=>x.b f
  go_upto_region 5 with fail
  clear E l m q f;refine au (by kernel_rfl) (by kernel_rfl) ?_
  repeat (go_big_quiet_step (fail))
  refine Bk ?_;intro W2 b;have c:=a7 b;have i:=Hd (e.o.trans (c.mono e.o.size));clear b c v E2 y z;go_wp2_with fail
  go_ret;exact⟨by rw[g.o];first|rfl|simp_all,i.o⟩
theorem Bm(F:Nat→Prop)(S d:Nat)(types:List ae)(rules:List an)(vT vR:wF)(nv nf:Int)(a:bW)(s:wF)(w:wD)(hw:SuW F S d types rules vT vR nv nf w)(b:(aL d).K w F a.y s) :
  xL xD 68 #[xV (Y ⟨S,0,U⟩),xS #[I O a.b,I Z a.f,I Z a.a,s]] w (am (cm d types (nv,nf) a) w):=by
 obtain⟨p,c,rfl⟩:=Rd.b b
 by_cases e:a.b=1
 ·exact Ax F S d types rules vT vR nv nf a p _ c w hw V e b
 by_cases f:a.b=2
 ·exact AM F S d types rules vT vR nv nf a p _ c w hw V f
 by_cases g:a.b=3
 ·exact wE F S d types rules vT vR nv nf a p _ c w hw V g b
 by_cases h:a.b=4
 ·exact xW F S d types rules vT vR nv nf a p _ c w hw V h
 ·exact vE F S d types rules vT vR nv nf a p _ c w hw V ⟨e,f,g,h⟩
theorem zu(F:Nat→Prop)(S d:Nat)(types:List ae)(rules:List an)(vT vR:wF)(nv nf:Int)(a:bW)(s:wF)(T:Nat)(w:wD)(hw:SuW F S d types rules vT vR nv nf w)(k:w.cell? ⟨T,0,U⟩=Y (xV (Y ⟨S,0,U⟩)))(i:(aL d).K w F a.y s) :
  xL xD 67 #[xS #[I O a.b,I Z a.f,I Z a.a,s],xV (Y ⟨T,0,U⟩)] w (am (!cm d types (nv,nf) a) w):=by
 obtain⟨p,c,l⟩:=Rd.b i;have g:FK w (w.alloc (wq #[I O a.b,I Z a.f,I Z a.a,s] 70)):=(EP _ w).alloc (EO _) _;have r:=(g.cell (p:=⟨T,0,U⟩) (dW k)).trans k;obtain⟨m,n⟩:=zz2 (Bm F S d types rules vT vR nv nf a s _ (hw.z g) (Rd.f (fun b e o t=>(g.block b (hw.f b e).1).trans t) i)) g;obtain⟨q,h⟩:=zzy (a.y.length);rw[h]at l;subst l;clear g i hw h
 go_enter Tryz.func67,Tryz.ntmps67
 go_wp2_with fail
 refine m.o.mono ?_;rintro u W2 ⟨rfl,e⟩;have j:=Hd (n.o.trans (e.mono n.o.size));clear e m;go_wp2_with fail
 go_ret;exact⟨V,j.o⟩
theorem BL(F:Nat→Prop)(S d:Nat)(types:List ae)(rules:List an)(vT vR:wF)(nv nf:Int)(l:List bW)(v:wF)(T:Nat)(w:wD)(hw:SuW F S d types rules vT vR nv nf w)(X:w.cell? ⟨T,0,U⟩=Y (xV (Y ⟨S,0,U⟩)))(Q:(bA d).K w F l v) :
  xL xD 129 #[v,CF (.func 67) #[] #[xV (Y ⟨T,0,U⟩)]] w (fun e w'=>e=Ending.returned (I Z (bP (jC (fun x=>!cm d types (nv,nf) x) l 0)))∧FK w w'):=by
 obtain⟨p,c,ad⟩:=Rd.b Q;have y:=Rd.tT Q;subst ad;obtain⟨n,hn⟩:=zzy (l.length);have HV:=Hd (fun W (D:FK w W)=>Rd.X Q (fun b m=>(hw.f b m).1) D);have af:=Hd (fun W (D:FK w W)=>(D.cell (p:=⟨T,0,U⟩) (dW X)).trans X);have ak:=Hd (fun W (D:FK w W)=>hw.z D);obtain⟨q,r⟩:∃q:bW→Bool,q=fun x=>!cm d types (nv,nf) x:=⟨_,rfl⟩
 have al:Hid (∀x,q x = !cm d types (nv,nf) x):=fun x=>by rw[r]
 rw[←r];rw[hn]at HV y ⊢;have HN:=Hd hn;have a1:(n:Int)≤9223372036854775807:=by unfold maxLen at y;omega
 clear Q hn X hw r y
 go_enter Tryz.func129,Tryz.ntmps129
 go_wp2
 go_loopw [8] (zM w n l q) (fun i _=>n-(intOf i).toNat)
 case atStart=>exact⟨0,Fa _,V,EP _ _,fun j z hj=>by omega⟩
 case round =>
  obtain⟨k,hk,rfl,m,E⟩:=hrel;have a6:(0:Int)≤k:=by omega
  obtain⟨HB,B⟩:=zz2 m E;clear E
  by_cases aq:k<n
  ·have ba:(k:Int)<n:=by omega
   obtain⟨a,ha⟩:∃a,l[k]?=Y a:=⟨_,ES (by rw[HN.o];exact aq)⟩;have t:=HV.o wr m;have G:=Rd.tS t ha;rw[HN.o]at G;obtain⟨b,off,cap,vs,ar,_,_,_,_,H,g⟩:=G;rw[iO]at g;injection ar with e1 _ e3
   subst e1;subst e3;obtain⟨_,_,_,s,rfl,C⟩:=fP.1 H;have av:=Rd.b C;obtain⟨ps,K,hs⟩:=av;obtain⟨R,L⟩:=zzy (a.y.length);rw[L]at hs;subst hs;have c0:wr.cell? ⟨b,off+k*4,U⟩=Y (I O a.b):=g 0 _ V;have c1:wr.cell? ⟨b,off+k*4+1,U⟩=Y (I Z a.f):=g 1 _ V;have c2:wr.cell? ⟨b,off+k*4+2,U⟩=Y (I Z a.a):=g 2 _ V;have c3:wr.cell? ⟨b,off+k*4+3,U⟩=Y (A ps R K):=g 3 _ V;have HK:=Hd (zu F S d types rules vT vR nv nf a (A ps R K) T wr (ak.o wr m) (af.o wr m) C);have M:Hid (l[k]?=Y a):=ha;rw[←al.o a]at HK;clear t H g ha m C L;go_wp2_with fail
   refine HK.o.mono ?_;rintro e2 w1 ⟨rfl,N⟩;have P:=Hd (HB.o.trans (N.mono HB.o.size));clear N c0 c1 c2 c3
   cases r:q a with
   | true =>
    have HH:=Hd (qe q l 0 k a M.o r B.o);clear r;go_wp2_with fail
    go_ret;exact⟨by rw[HH.o,Nat.zero_add];rfl,P.o⟩
   | false =>
    have HQ:=Hd r;clear r;go_wp2_with fail
    exact⟨⟨k+1,by omega,by go_num,P.o,fun j z hj u=>by
     by_cases h:j=k
     ·subst h;rw[M.o]at u;injection u with u
      rw[←u];exact HQ.o
     ·exact B.o j z (by omega) u⟩,by simp[intOf];omega⟩
  ·have HH:Hid (jC q l 0=U):=nE _ l 0 (fun j z u=>B.o j z (by
    have:=(Fe.1 u).1;rw[HN.o]at this
    omega) u)
   clear m;go_wp2_with fail
   go_ret;exact⟨by rw[HH.o];rfl,HB.o⟩
theorem Ag(F:Nat→Prop)(S d:Nat)(types:List ae)(rules:List an)(vT vR:wF)(nv nf:Int)(l:List bW)(v:wF)(T:Nat)(w:wD)(hw:SuW F S d types rules vT vR nv nf w)(j:w.cell? ⟨T,0,U⟩=Y (xV (Y ⟨S,0,U⟩)))(h:(bA d).K w F l v) :
  xL xD 66 #[v,CF (.func 67) #[] #[xV (Y ⟨T,0,U⟩)]] w (am (!(l.all (cm d types (nv,nf)))) w):=by
 have b:=Hd (BL F S d types rules vT vR nv nf l v T w hw j h);rw[←pF (cm d types (nv,nf)) l 0];obtain⟨p,c,f⟩:=Rd.b h;obtain⟨n,m⟩:=zzy (l.length);rw[m]at f;subst f;clear h j hw m
 cases g:jC (fun x=>!cm d types (nv,nf) x) l 0 with
 | none =>
  rw[g]at b;have b:Hid (xL xD 129 #[A p n c,CF (.func 67) #[] #[xV (Y ⟨T,0,U⟩)]] w (fun e w'=>e=Ending.returned (I Z (-1))∧FK w w')):=b;clear g
  go_enter Tryz.func66,Tryz.ntmps66
  go_wp2_with fail
  refine b.o.mono ?_;rintro e w1 ⟨rfl,a⟩;have i:=Hd a;clear a b;go_wp2_with fail
  go_ret;exact⟨V,i.o⟩
 | some k =>
  rw[g]at b;have b:Hid (xL xD 129 #[A p n c,CF (.func 67) #[] #[xV (Y ⟨T,0,U⟩)]] w (fun e w'=>e=Ending.returned (I Z (k:Int))∧FK w w')):=b;have q:(0:Int)≤k:=by omega
  clear g
  go_enter Tryz.func66,Tryz.ntmps66
  go_wp2_with fail
  refine b.o.mono ?_;rintro e w1 ⟨rfl,a⟩;have i:=Hd a;clear a b;go_wp2_with fail
  go_ret;exact⟨V,i.o⟩
