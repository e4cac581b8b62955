/- Parts of one proof, joined; conditions stand in each theorem. -/
import Derived.Test.YtkhfjgjjhlnnnaaGreatDoorNU
open Go renaming Value→vn,World→vk,Calls→wB,wpQuiet_nil→z7
open Go.Value renaming slice→A,pointer→wF,agg→wD,int→I,func→Bk
open Go.Proofs.Tryz renaming prog→wq
open Option renaming some→Y,none→U
open Go.IntKind renaming u8→O,i64→Z
open Go.Obj renaming cells→ur
open Decidable renaming decide→wo
open Bool renaming false→wj
namespace Go.Proofs.YtkhfjgjjhlnnnaaGreatDoor
set_option maxHeartbeats 8000000
set_option maxRecDepth 100000
open Go.RowKit
theorem AH(F:Nat→Prop)(S d:Nat)(types:List ae)(rules:List ap)(vT vR:vn)(nv nf:Int)(a:cd)(p:Option Addr)(n s:Nat)(w:vk)(hw:SuW F S d types rules vT vR nv nf w)(C:a.y.length=n)(D:a.b=1)(t:(aM d).C w F a.y (A p n s)):wB wq 68 #[wF (Y ⟨S,0,U⟩),wD #[I O a.b,I Z a.f,I Z a.a,A p n s]] w (ao (cw d types (nv,nf) a) w):=by
 obtain⟨w1,j⟩:=zzx (w.alloc (ur #[I O 1,I Z a.f,I Z a.a,A p n s] 70));have c:Gc w w1:=by rw[j];exact (Fl _ w).alloc (Fj _) _
 have m:w1.heap[w.heap.size]?=Y (ur #[I O 1,I Z a.f,I Z a.a,A p n s] 70 (0,0)):=by rw[j];exact qv w _
 obtain⟨q,u,Q,v,x⟩:=zz5 c m (hw.u c) (fun (W:vk) (h:Gc w1 W)=>lD S nv d (dQ nv d) (mg S nv d) a.y (A p n s) W ((hw.u c).u h).b (Rd.q (fun b E=>Ft (hw.f b E).1 (Fu c.size h.size)) (Rd.f (fun b E o R=>((c.trans (h.mono c.size)).block b (hw.f b E).1).trans R) t))) (lA F S d types rules vT vR nv nf a.f (n:Int) w1 (hw.u c));have T:a.y.isEmpty=wo (n=0):=by rw[←C];cases a.y<;>rfl
 have hm:cw d types (nv,nf) a=(wo (a.a=0)&&bJ types a.f (n:Int)&&a.y.all (dQ nv d)):=by
  unfold cw;rw[D,C,show (a.a==0)=wo (a.a=0) from rfl];rfl
 obtain⟨res,g⟩:=zzx (cw d types (nv,nf) a);have G:Hid (res=(wo (a.a=0)&&bJ types a.f (n:Int)&&a.y.all (dQ nv d))):=g.trans hm;rw[←g,D];obtain⟨H,K,L,M⟩:=gp m;clear c m hw C hm g T D
 go_enter Tryz.func68,Tryz.ntmps68
 go_upto_region 1 with fail
 change Code.wp _ _ _ _ (w.alloc (ur #[I O 1,I Z a.f,I Z a.a,A p n s] 70));rw[←j];clear j
 by_cases P:a.a=0
 ·have X:=Hd P;go_wp2_with fail
  refine x.o.mono ?_;rintro e W2 ⟨rfl,k⟩;obtain⟨r,l⟩:=zz2 (q.o.trans (k.mono q.o.size)) (v.o W2 k);have y:=aa k u.o (Fi.1 u.o).1;clear k x v H K L M;obtain⟨H,K,L,M⟩:=gp y;clear y
  cases B:bJ types a.f (n:Int) with
  | false =>
   have i:Hid (res=wj):=by show _=_;rw[G.o,B];simp
   clear B;go_wp2_with fail
   go_ret;exact⟨by rw[i.o];rfl,r.o⟩
  | true =>
   have i:Hid (res=a.y.all (dQ nv d)):=by show _=_;rw[G.o,B,decide_eq_true X.o];rfl
   clear B;go_wp2_with fail
   refine l.o.mono ?_;rintro e W3 ⟨rfl,z⟩;have N:=Hd (r.o.trans (z.mono r.o.size));clear z l H K L M;go_wp2_with fail
   go_ret;exact⟨by rw[i.o];rfl,N.o⟩
 ·have i:Hid (res=wj):=by show _=_;rw[G.o,r7 P];rfl
  go_wp2_with fail
  go_ret;exact⟨by rw[i.o];rfl,q.o⟩
theorem wH(F:Nat→Prop)(S d:Nat)(types:List ae)(rules:List ap)(vT vR:vn)(nv nf:Int)(a:cd)(p:Option Addr)(n q:Nat)(w:vk)(hw:SuW F S d types rules vT vR nv nf w)(B:a.y.length=n)(v:a.b=3)(r:(aM d).C w F a.y (A p n q)):wB wq 68 #[wF (Y ⟨S,0,U⟩),wD #[I O a.b,I Z a.f,I Z a.a,A p n q]] w (ao (cw d types (nv,nf) a) w):=by
 obtain⟨w1,k⟩:=zzx (w.alloc (ur #[I O 3,I Z a.f,I Z a.a,A p n q] 70));have c:Gc w w1:=by rw[k];exact (Fl _ w).alloc (Fj _) _
 have m:w1.heap[w.heap.size]?=Y (ur #[I O 3,I Z a.f,I Z a.a,A p n q] 70 (0,0)):=by rw[k];exact qv w _
 obtain⟨i,H,K,s⟩:=zz4 c m (hw.u c) (fun (W:vk) (h:Gc w1 W)=>lD S nv d (dQ nv d) (mg S nv d) a.y (A p n q) W ((hw.u c).u h).b (Rd.q (fun b x=>Ft (hw.f b x).1 (Fu c.size h.size)) (Rd.f (fun b x o L=>((c.trans (h.mono c.size)).block b (hw.f b x).1).trans L) r)));have C:a.y.isEmpty=wo (n=0):=by rw[←B];cases a.y<;>rfl
 have hm:cw d types (nv,nf) a=(wo (a.f=0)&&wo (a.a=0)&&!decide (n=0)&&a.y.all (dQ nv d)):=by
  unfold cw;rw[v,C,show (a.a==0)=wo (a.a=0) from rfl,show (a.f==0)=wo (a.f=0) from rfl];rfl
 obtain⟨res,j⟩:=zzx (cw d types (nv,nf) a);have u:Hid (res=(wo (a.f=0)&&wo (a.a=0)&&!decide (n=0)&&a.y.all (dQ nv d))):=j.trans hm;rw[←j,v];obtain⟨M,N,P,Q⟩:=gp m;clear c m hw B hm j C v
 go_enter Tryz.func68,Tryz.ntmps68
 go_upto_region 1 with fail
 change Code.wp _ _ _ _ (w.alloc (ur #[I O 3,I Z a.f,I Z a.a,A p n q] 70));rw[←k];clear k
 by_cases D:a.f=0
 ·by_cases E:a.a=0
  ·by_cases G:n=0
   ·have g:Hid (res=wj):=by show _=_;rw[u.o,decide_eq_true G];simp
    have y:¬(0:Int)<(n:Int):=by omega
    go_wp2_with fail
    go_ret;exact⟨by rw[g.o];rfl,i.o⟩
   ·have g:Hid (res=a.y.all (dQ nv d)):=by show _=_;rw[u.o,decide_eq_true D,decide_eq_true E,r7 G];rfl
    have y:(0:Int)<(n:Int):=by omega
    have l:=Hd (s.o w1 (Fl _ _));go_wp2_with fail
    refine l.o.mono ?_;rintro e R ⟨rfl,t⟩;have z:=Hd (i.o.trans (t.mono i.o.size));clear t l s M N P Q;go_wp2_with fail
    go_ret;exact⟨by rw[g.o];rfl,z.o⟩
  ·have g:Hid (res=wj):=by show _=_;rw[u.o,r7 E];simp
   go_wp2_with fail
   go_ret;exact⟨by rw[g.o];rfl,i.o⟩
 ·have g:Hid (res=wj):=by show _=_;rw[u.o,r7 D];simp
  go_wp2_with fail
  go_ret;exact⟨by rw[g.o];rfl,i.o⟩
theorem xY(F:Nat→Prop)(S d:Nat)(types:List ae)(rules:List ap)(vT vR:vn)(nv nf:Int)(a:cd)(p:Option Addr)(n i:Nat)(w:vk)(hw:SuW F S d types rules vT vR nv nf w)(q:a.y.length=n)(l:a.b=4):wB wq 68 #[wF (Y ⟨S,0,U⟩),wD #[I O a.b,I Z a.f,I Z a.a,A p n i]] w (ao (cw d types (nv,nf) a) w):=by
 obtain⟨w1,e⟩:=zzx (w.alloc (ur #[I O 4,I Z a.f,I Z a.a,A p n i] 70));have g:Gc w w1:=by rw[e];exact (Fl _ w).alloc (Fj _) _
 have h:w1.heap[w.heap.size]?=Y (ur #[I O 4,I Z a.f,I Z a.a,A p n i] 70 (0,0)):=by rw[e];exact qv w _
 obtain⟨f,u,v⟩:=zz3 g h (hw.u g);have r:a.y.isEmpty=wo (n=0):=by rw[←q];cases a.y<;>rfl
 have hm:cw d types (nv,nf) a=(wo (a.f=0)&&wo (a.a=0)&&wo (n=0)):=by
  unfold cw;rw[l,r,show (a.a==0)=wo (a.a=0) from rfl,show (a.f==0)=wo (a.f=0) from rfl];rfl
 obtain⟨res,c⟩:=zzx (cw d types (nv,nf) a);have j:Hid (res=(wo (a.f=0)&&wo (a.a=0)&&wo (n=0))):=c.trans hm;rw[←c,l];obtain⟨y,z,B,C⟩:=gp h;clear g h hw q hm c r l
 go_enter Tryz.func68,Tryz.ntmps68
 go_upto_region 1 with fail
 change Code.wp _ _ _ _ (w.alloc (ur #[I O 4,I Z a.f,I Z a.a,A p n i] 70));rw[←e];clear e
 by_cases s:a.f=0
 ·by_cases t:a.a=0
  ·by_cases k:n=0
   ·have b:Hid (res=true):=by show _=_;rw[j.o,decide_eq_true s,decide_eq_true t,decide_eq_true k];rfl
    subst k;go_wp2_with fail
    go_ret;exact⟨by rw[b.o];rfl,f.o⟩
   ·have b:Hid (res=wj):=by show _=_;rw[j.o,r7 k];simp
    have m:¬((n:Int)=0):=by omega
    have x:((n:Int)==0)=false:=by simpa using m
    go_wp2_with fail
    go_ret;exact⟨by rw[b.o];first|rfl|simp[k],f.o⟩
  ·have b:Hid (res=wj):=by show _=_;rw[j.o,r7 t];simp
   go_wp2_with fail
   go_ret;exact⟨by rw[b.o];rfl,f.o⟩
 ·have b:Hid (res=wj):=by show _=_;rw[j.o,r7 s];simp
  go_wp2_with fail
  go_ret;exact⟨by rw[b.o];rfl,f.o⟩
theorem vH(F:Nat→Prop)(S d:Nat)(types:List ae)(rules:List ap)(vT vR:vn)(nv nf:Int)(a:cd)(p:Option Addr)(n h:Nat)(w:vk)(hw:SuW F S d types rules vT vR nv nf w)(j:a.y.length=n)(g:a.b≠1∧a.b≠2∧a.b≠3∧a.b≠4):wB wq 68 #[wF (Y ⟨S,0,U⟩),wD #[I O a.b,I Z a.f,I Z a.a,A p n h]] w (ao (cw d types (nv,nf) a) w):=by
 obtain⟨w1,c⟩:=zzx (w.alloc (ur #[I O a.b,I Z a.f,I Z a.a,A p n h] 70));have e:Gc w w1:=by rw[c];exact (Fl _ w).alloc (Fj _) _
 have f:w1.heap[w.heap.size]?=Y (ur #[I O a.b,I Z a.f,I Z a.a,A p n h] 70 (0,0)):=by rw[c];exact qv w _
 obtain⟨i,k,l⟩:=zz3 e f (hw.u e);have m:a.y.isEmpty=wo (n=0):=by rw[←j];cases a.y<;>rfl
 have hm:cw d types (nv,nf) a=(wj):=by
  unfold cw;rw[show (a.b==1)=wj by simpa using g.1,show (a.b==2)=wj by simpa using g.2.1,show (a.b==3)=wj by simpa using g.2.2.1,show (a.b==4)=wj by simpa using g.2.2.2];rfl
 obtain⟨res,b⟩:=zzx (cw d types (nv,nf) a);have q:Hid (res=(wj)):=b.trans hm;rw[←b];obtain⟨r,s,t,u⟩:=gp f;clear e f hw j hm b m
 go_enter Tryz.func68,Tryz.ntmps68
 go_upto_region 1 with fail
 change Code.wp _ _ _ _ (w.alloc (ur #[I O a.b,I Z a.f,I Z a.a,A p n h] 70));rw[←c];clear c;obtain⟨v,x,y,z⟩:=g;go_wp2_with fail
 go_ret;exact⟨by rw[q.o];rfl,i.o⟩
theorem AZ(F:Nat→Prop)(S d:Nat)(types:List ae)(rules:List ap)(vT vR:vn)(nv nf:Int)(a:cd)(p:Option Addr)(n C:Nat)(w:vk)(hw:SuW F S d types rules vT vR nv nf w)(N:a.y.length=n)(K:a.b=2):wB wq 68 #[wF (Y ⟨S,0,U⟩),wD #[I O a.b,I Z a.f,I Z a.a,A p n C]] w (ao (cw d types (nv,nf) a) w):=by
 obtain⟨w1,k⟩:=zzx (w.alloc (ur #[I O 2,I Z a.f,I Z a.a,A p n C] 70));have r:Gc w w1:=by rw[k];exact (Fl _ w).alloc (Fj _) _
 have s:w1.heap[w.heap.size]?=Y (ur #[I O 2,I Z a.f,I Z a.a,A p n C] 70 (0,0)):=by rw[k];exact qv w _
 obtain⟨e,R,L⟩:=zz3 r s (hw.u r);have P:a.y.isEmpty=wo (n=0):=by rw[←N];cases a.y<;>rfl
 have hm:cw d types (nv,nf) a=(wo (a.f=0)&&wo (n=0)&&wo (0≤a.a)&&wo (a.a<nf)):=by
  unfold cw;rw[K,P,show (a.f==0)=wo (a.f=0) from rfl];rfl
 obtain⟨res,j⟩:=zzx (cw d types (nv,nf) a);have D:Hid (res=(wo (a.f=0)&&wo (n=0)&&wo (0≤a.a)&&wo (a.a<nf))):=j.trans hm;rw[←j,K];obtain⟨E,l,m,q⟩:=gp s;clear r s hw N hm j P K
 go_enter Tryz.func68,Tryz.ntmps68
 go_upto_region 1 with fail
 change Code.wp _ _ _ _ (w.alloc (ur #[I O 2,I Z a.f,I Z a.a,A p n C] 70));rw[←k];clear k;have f:w1.cell? ⟨S,3,U⟩=Y (I Z nf):=by rw[Gb _ _ _ _ _ _ L.o.h];rfl
 by_cases G:a.f=0
 ·have t:wo (a.f=0)=true:=decide_eq_true G;have M:(a.f==0)=true:=by simpa using G
  by_cases H:n=0
  ·by_cases Q:0≤a.a
   ·have u:wo (0≤a.a)=true:=decide_eq_true Q;have g:Hid (res=wo (a.a<nf)):=by show _=_;rw[D.o,t,decide_eq_true H,u];rfl
    subst H;have v:=fun x:Wb w1=>x.b l
    have E2:=fun x:Wb w1=>x.b m
    have y:=fun x:Wb w1=>x.b q
    have z:=fun x:Wb w1=>x.b f
    go_upto_region 5 with fail
    clear E l m q f;refine au (by kernel_rfl) (by kernel_rfl) ?_
    repeat (go_big_quiet_step (fail))
    refine z7 ?_;intro W2 b;have c:=a8 b;have i:=Hd (e.o.trans (c.mono e.o.size));clear b c v E2 y z;go_wp2_with fail
    go_ret;exact⟨by rw[g.o];first|rfl|simp_all,i.o⟩
   ·have u:wo (0≤a.a)=false:=r7 Q;have g:Hid (res=wj):=by show _=_;rw[D.o,u];simp
    subst H;have v:=fun x:Wb w1=>x.b l
    have E2:=fun x:Wb w1=>x.b m
    have y:=fun x:Wb w1=>x.b q
    have z:=fun x:Wb w1=>x.b f
    go_upto_region 5 with fail
    clear E l m q f;refine au (by kernel_rfl) (by kernel_rfl) ?_
    repeat (go_big_quiet_step (fail))
    refine z7 ?_;intro W2 b;have c:=a8 b;have i:=Hd (e.o.trans (c.mono e.o.size));clear b c v E2 y z;go_wp2_with fail
    go_ret;exact⟨by rw[g.o];first|rfl|simp_all,i.o⟩
  ·have g:Hid (res=wj):=by show _=_;rw[D.o,r7 H];simp
   have B:¬((n:Int)=0):=by omega
   have T:((n:Int)==0)=false:=by simpa using B
   have W:wo ((n:Int)=0)=false:=r7 B;have v:=fun x:Wb w1=>x.b l
   have E2:=fun x:Wb w1=>x.b m
   have y:=fun x:Wb w1=>x.b q
   have z:=fun x:Wb w1=>x.b f
   go_upto_region 5 with fail
   clear E l m q f;refine au (by kernel_rfl) (by kernel_rfl) ?_
   repeat (go_big_quiet_step (fail))
   refine z7 ?_;intro W2 b;have c:=a8 b;have i:=Hd (e.o.trans (c.mono e.o.size));clear b c v E2 y z;go_wp2_with fail
   go_ret;exact⟨by rw[g.o];first|rfl|simp_all,i.o⟩
 ·have t:wo (a.f=0)=false:=r7 G;have M:(a.f==0)=false:=by simpa using G
  have g:Hid (res=wj):=by show _=_;rw[D.o,t];rfl
  have v:=fun x:Wb w1=>x.b l
  have E2:=fun x:Wb w1=>x.b m
  have y:=fun x:Wb w1=>x.b q
  have z:=fun x:Wb w1=>x.b f
  go_upto_region 5 with fail
  clear E l m q f;refine au (by kernel_rfl) (by kernel_rfl) ?_
  repeat (go_big_quiet_step (fail))
  refine z7 ?_;intro W2 b;have c:=a8 b;have i:=Hd (e.o.trans (c.mono e.o.size));clear b c v E2 y z;go_wp2_with fail
  go_ret;exact⟨by rw[g.o];first|rfl|simp_all,i.o⟩
theorem BA(F:Nat→Prop)(S d:Nat)(types:List ae)(rules:List ap)(vT vR:vn)(nv nf:Int)(a:cd)(s:vn)(w:vk)(hw:SuW F S d types rules vT vR nv nf w)(b:(aM d).C w F a.y s) :
  wB wq 68 #[wF (Y ⟨S,0,U⟩),wD #[I O a.b,I Z a.f,I Z a.a,s]] w (ao (cw d types (nv,nf) a) w):=by
 obtain⟨p,c,rfl⟩:=Rd.b b
 by_cases e:a.b=1
 ·exact AH F S d types rules vT vR nv nf a p _ c w hw V e b
 by_cases f:a.b=2
 ·exact AZ F S d types rules vT vR nv nf a p _ c w hw V f
 by_cases g:a.b=3
 ·exact wH F S d types rules vT vR nv nf a p _ c w hw V g b
 by_cases h:a.b=4
 ·exact xY F S d types rules vT vR nv nf a p _ c w hw V h
 ·exact vH F S d types rules vT vR nv nf a p _ c w hw V ⟨e,f,g,h⟩
theorem zC(F:Nat→Prop)(S d:Nat)(types:List ae)(rules:List ap)(vT vR:vn)(nv nf:Int)(a:cd)(s:vn)(T:Nat)(w:vk)(hw:SuW F S d types rules vT vR nv nf w)(k:w.cell? ⟨T,0,U⟩=Y (wF (Y ⟨S,0,U⟩)))(i:(aM d).C w F a.y s) :
  wB wq 67 #[wD #[I O a.b,I Z a.f,I Z a.a,s],wF (Y ⟨T,0,U⟩)] w (ao (!cw d types (nv,nf) a) w):=by
 obtain⟨p,c,l⟩:=Rd.b i;have g:Gc w (w.alloc (ur #[I O a.b,I Z a.f,I Z a.a,s] 70)):=(Fl _ w).alloc (Fj _) _;have r:=(g.cell (p:=⟨T,0,U⟩) (dW k)).trans k;obtain⟨m,n⟩:=zz2 (BA F S d types rules vT vR nv nf a s _ (hw.u g) (Rd.f (fun b e o t=>(g.block b (hw.f b e).1).trans t) i)) g;obtain⟨q,h⟩:=zzy (a.y.length);rw[h]at l;subst l;clear g i hw h
 go_enter Tryz.func67,Tryz.ntmps67
 go_wp2_with fail
 refine m.o.mono ?_;rintro u W2 ⟨rfl,e⟩;have j:=Hd (n.o.trans (e.mono n.o.size));clear e m;go_wp2_with fail
 go_ret;exact⟨V,j.o⟩
theorem BZ(F:Nat→Prop)(S d:Nat)(types:List ae)(rules:List ap)(vT vR:vn)(nv nf:Int)(l:List cd)(v:vn)(T:Nat)(w:vk)(hw:SuW F S d types rules vT vR nv nf w)(X:w.cell? ⟨T,0,U⟩=Y (wF (Y ⟨S,0,U⟩)))(Q:(bD d).C w F l v) :
  wB wq 129 #[v,Bk (.func 67) #[] #[wF (Y ⟨T,0,U⟩)]] w (fun e w'=>e=Ending.returned (I Z (bU (jA (fun x=>!cw d types (nv,nf) x) l 0)))∧Gc w w'):=by
 obtain⟨p,c,ad⟩:=Rd.b Q;have y:=Rd.T Q;subst ad;obtain⟨n,hn⟩:=zzy (l.length);have HV:=Hd (fun W (D:Gc w W)=>Rd.t Q (fun b m=>(hw.f b m).1) D);have af:=Hd (fun W (D:Gc w W)=>(D.cell (p:=⟨T,0,U⟩) (dW X)).trans X);have ak:=Hd (fun W (D:Gc w W)=>hw.u D);obtain⟨q,r⟩:∃q:cd→Bool,q=fun x=>!cw d types (nv,nf) x:=⟨_,rfl⟩
 have al:Hid (∀x,q x = !cw d types (nv,nf) x):=fun x=>by rw[r]
 rw[←r];rw[hn]at HV y ⊢;have HN:=Hd hn;have a1:(n:Int)≤9223372036854775807:=by unfold maxLen at y;omega
 clear Q hn X hw r y
 go_enter Tryz.func129,Tryz.ntmps129
 go_wp2
 go_loopw [8] (zT w n l q) (fun i _=>n-(intOf i).toNat)
 case atStart=>exact⟨0,FA _,V,Fl _ _,fun j z hj=>by omega⟩
 case round =>
  obtain⟨k,hk,rfl,m,E⟩:=hrel;have a6:(0:Int)≤k:=by omega
  obtain⟨HB,B⟩:=zz2 m E;clear E
  by_cases aq:k<n
  ·have ba:(k:Int)<n:=by omega
   obtain⟨a,ha⟩:∃a,l[k]?=Y a:=⟨_,Fq (by rw[HN.o];exact aq)⟩;have t:=HV.o wr m;have G:=Rd.N t ha;rw[HN.o]at G;obtain⟨b,off,cap,vs,ar,_,_,_,_,H,g⟩:=G;rw[iL]at g;injection ar with e1 _ e3
   subst e1;subst e3;obtain⟨_,_,_,s,rfl,C⟩:=fN.1 H;have av:=Rd.b C;obtain⟨ps,K,hs⟩:=av;obtain⟨R,L⟩:=zzy (a.y.length);rw[L]at hs;subst hs;have c0:wr.cell? ⟨b,off+k*4,U⟩=Y (I O a.b):=g 0 _ V;have c1:wr.cell? ⟨b,off+k*4+1,U⟩=Y (I Z a.f):=g 1 _ V;have c2:wr.cell? ⟨b,off+k*4+2,U⟩=Y (I Z a.a):=g 2 _ V;have c3:wr.cell? ⟨b,off+k*4+3,U⟩=Y (A ps R K):=g 3 _ V;have HK:=Hd (zC F S d types rules vT vR nv nf a (A ps R K) T wr (ak.o wr m) (af.o wr m) C);have M:Hid (l[k]?=Y a):=ha;rw[←al.o a]at HK;clear t H g ha m C L;go_wp2_with fail
   refine HK.o.mono ?_;rintro e2 w1 ⟨rfl,N⟩;have P:=Hd (HB.o.trans (N.mono HB.o.size));clear N c0 c1 c2 c3
   cases r:q a with
   | true =>
    have HH:=Hd (pW q l 0 k a M.o r B.o);clear r;go_wp2_with fail
    go_ret;exact⟨by rw[HH.o,Nat.zero_add];rfl,P.o⟩
   | false =>
    have HQ:=Hd r;clear r;go_wp2_with fail
    exact⟨⟨k+1,by omega,by go_num,P.o,fun j z hj u=>by
     by_cases h:j=k
     ·subst h;rw[M.o]at u;injection u with u
      rw[←u];exact HQ.o
     ·exact B.o j z (by omega) u⟩,by simp[intOf];omega⟩
  ·have HH:Hid (jA q l 0=U):=nw _ l 0 (fun j z u=>B.o j z (by
    have:=(FD.1 u).1;rw[HN.o]at this
    omega) u)
   clear m;go_wp2_with fail
   go_ret;exact⟨by rw[HH.o];rfl,HB.o⟩
theorem Ao(F:Nat→Prop)(S d:Nat)(types:List ae)(rules:List ap)(vT vR:vn)(nv nf:Int)(l:List cd)(v:vn)(T:Nat)(w:vk)(hw:SuW F S d types rules vT vR nv nf w)(j:w.cell? ⟨T,0,U⟩=Y (wF (Y ⟨S,0,U⟩)))(h:(bD d).C w F l v) :
  wB wq 66 #[v,Bk (.func 67) #[] #[wF (Y ⟨T,0,U⟩)]] w (ao (!(l.all (cw d types (nv,nf)))) w):=by
 have b:=Hd (BZ F S d types rules vT vR nv nf l v T w hw j h);rw[←pz (cw d types (nv,nf)) l 0];obtain⟨p,c,f⟩:=Rd.b h;obtain⟨n,m⟩:=zzy (l.length);rw[m]at f;subst f;clear h j hw m
 cases g:jA (fun x=>!cw d types (nv,nf) x) l 0 with
 | none =>
  rw[g]at b;have b:Hid (wB wq 129 #[A p n c,Bk (.func 67) #[] #[wF (Y ⟨T,0,U⟩)]] w (fun e w'=>e=Ending.returned (I Z (-1))∧Gc w w')):=b;clear g
  go_enter Tryz.func66,Tryz.ntmps66
  go_wp2_with fail
  refine b.o.mono ?_;rintro e w1 ⟨rfl,a⟩;have i:=Hd a;clear a b;go_wp2_with fail
  go_ret;exact⟨V,i.o⟩
 | some k =>
  rw[g]at b;have b:Hid (wB wq 129 #[A p n c,Bk (.func 67) #[] #[wF (Y ⟨T,0,U⟩)]] w (fun e w'=>e=Ending.returned (I Z (k:Int))∧Gc w w')):=b;have q:(0:Int)≤k:=by omega
  clear g
  go_enter Tryz.func66,Tryz.ntmps66
  go_wp2_with fail
  refine b.o.mono ?_;rintro e w1 ⟨rfl,a⟩;have i:=Hd a;clear a b;go_wp2_with fail
  go_ret;exact⟨V,i.o⟩
