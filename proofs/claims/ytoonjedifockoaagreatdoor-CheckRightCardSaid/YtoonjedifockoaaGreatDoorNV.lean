/- Parts of one proof, joined; conditions stand in each theorem. -/
import Derived.Test.YtoonjedifockoaaGreatDoorNU
namespace Go.Proofs.YtoonjedifockoaaGreatDoor
open Go.IntKind(i64)
open Go.Value(int string slice)
set_option maxHeartbeats 8000000
set_option maxRecDepth 100000
open Go.RowKit
theorem Ao(F:Nat→Prop)(S d:Nat)(types:List ai)(rules:List aj)(vT vR:Value)(nv nf:Int)(a:aT)(p:Option Addr)(n s:Nat)(w:World)(hw:SuW F S d types rules vT vR nv nf w)(B:a.exprs.length=n)(C:a.kind=1)(t:(ay d).row w F a.exprs (.slice p n s)):Calls Tryz.prog 36 #[.pointer (some ⟨S,0,none⟩),.agg #[int .u8 a.kind,int i64 a.type,int i64 a.which,.slice p n s]] w (ap (bf d types (nv,nf) a) w):=by
 obtain⟨w1,j⟩:=zzx (w.alloc (.cells #[int .u8 1,int i64 a.type,int i64 a.which,.slice p n s] 58));have c:Ft w w1:=by rw[j];exact (EB _ w).alloc (EA _) _
 have m:w1.heap[w.heap.size]?=some (.cells #[int .u8 1,int i64 a.type,int i64 a.which,.slice p n s] 58 (0,0)):=by rw[j];exact n7 w _
 have q:=Hd c;have u:=Hd m;have M:=Hd (hw.below c);have v:=Hd (fun (W:World) (h:Ft w1 W)=>kN S nv d (bK nv d) (lG S nv d) a.exprs (.slice p n s) W ((hw.below c).below h).vars (Rd.row_sub (fun b D=>EF (hw.f b D).1 (EG c.size h.size)) (Rd.row_keep (fun b D o N=>((c.trans (h.mono c.size)).block b (hw.f b D).1).trans N) t)));have x:=Hd (kK F S d types rules vT vR nv nf a.type (n:Int) w1 (hw.below c));have O:a.exprs.isEmpty=decide (n=0):=by rw[←B];cases a.exprs<;>rfl
 have hm:bf d types (nv,nf) a=(decide (a.which=0)&&aF types a.type (n:Int)&&a.exprs.all (bK nv d)):=by
  unfold bf;rw[C,B,show (a.which==0)=decide (a.which=0) from rfl];rfl
 obtain⟨res,g⟩:=zzx (bf d types (nv,nf) a);have E:Hid (res=(decide (a.which=0)&&aF types a.type (n:Int)&&a.exprs.all (bK nv d))):=g.trans hm;rw[←g,C];obtain⟨G,H,I,J⟩:=gK m;clear c m hw B hm g O C
 go_enter Tryz.func36,Tryz.ntmps36
 go_upto_region 1 with fail
 change Code.wp _ _ _ _ (w.alloc (.cells #[int .u8 1,int i64 a.type,int i64 a.which,.slice p n s] 58));rw[←j];clear j
 by_cases L:a.which=0
 ·have P:=Hd L;go_wp2_with fail
  refine x.o.mono ?_;rintro e W2 ⟨rfl,k⟩;have r:=Hd (q.o.trans (k.mono q.o.size));have l:=Hd (v.o W2 k);have y:=aa k u.o (Ez.1 u.o).1;clear k x v G H I J;obtain⟨G,H,I,J⟩:=gK y;clear y
  cases A:aF types a.type (n:Int) with
  | false =>
   have i:Hid (res=false):=by show _=_;rw[E.o,A];simp
   clear A;go_wp2_with fail
   go_ret;exact⟨by rw[i.o];rfl,r.o⟩
  | true =>
   have i:Hid (res=a.exprs.all (bK nv d)):=by show _=_;rw[E.o,A,decide_eq_true P.o];rfl
   clear A;go_wp2_with fail
   refine l.o.mono ?_;rintro e Q ⟨rfl,z⟩;have K:=Hd (r.o.trans (z.mono r.o.size));clear z l G H I J;go_wp2_with fail
   go_ret;exact⟨by rw[i.o];rfl,K.o⟩
 ·have i:Hid (res=false):=by show _=_;rw[E.o,oc L];rfl
  go_wp2_with fail
  go_ret;exact⟨by rw[i.o];rfl,q.o⟩
theorem wk(F:Nat→Prop)(S d:Nat)(types:List ai)(rules:List aj)(vT vR:Value)(nv nf:Int)(a:aT)(p:Option Addr)(n q:Nat)(w:World)(hw:SuW F S d types rules vT vR nv nf w)(A:a.exprs.length=n)(v:a.kind=3)(r:(ay d).row w F a.exprs (.slice p n q)):Calls Tryz.prog 36 #[.pointer (some ⟨S,0,none⟩),.agg #[int .u8 a.kind,int i64 a.type,int i64 a.which,.slice p n q]] w (ap (bf d types (nv,nf) a) w):=by
 obtain⟨w1,k⟩:=zzx (w.alloc (.cells #[int .u8 3,int i64 a.type,int i64 a.which,.slice p n q] 58));have c:Ft w w1:=by rw[k];exact (EB _ w).alloc (EA _) _
 have m:w1.heap[w.heap.size]?=some (.cells #[int .u8 3,int i64 a.type,int i64 a.which,.slice p n q] 58 (0,0)):=by rw[k];exact n7 w _
 have i:=Hd c;have G:=Hd m;have H:=Hd (hw.below c);have s:=Hd (fun (W:World) (h:Ft w1 W)=>kN S nv d (bK nv d) (lG S nv d) a.exprs (.slice p n q) W ((hw.below c).below h).vars (Rd.row_sub (fun b x=>EF (hw.f b x).1 (EG c.size h.size)) (Rd.row_keep (fun b x o I=>((c.trans (h.mono c.size)).block b (hw.f b x).1).trans I) r)));have B:a.exprs.isEmpty=decide (n=0):=by rw[←A];cases a.exprs<;>rfl
 have hm:bf d types (nv,nf) a=(decide (a.type=0)&&decide (a.which=0)&&!decide (n=0)&&a.exprs.all (bK nv d)):=by
  unfold bf;rw[v,B,show (a.which==0)=decide (a.which=0) from rfl,show (a.type==0)=decide (a.type=0) from rfl];rfl
 obtain⟨res,j⟩:=zzx (bf d types (nv,nf) a);have u:Hid (res=(decide (a.type=0)&&decide (a.which=0)&&!decide (n=0)&&a.exprs.all (bK nv d))):=j.trans hm;rw[←j,v];obtain⟨J,K,L,M⟩:=gK m;clear c m hw A hm j B v
 go_enter Tryz.func36,Tryz.ntmps36
 go_upto_region 1 with fail
 change Code.wp _ _ _ _ (w.alloc (.cells #[int .u8 3,int i64 a.type,int i64 a.which,.slice p n q] 58));rw[←k];clear k
 by_cases C:a.type=0
 ·by_cases D:a.which=0
  ·by_cases E:n=0
   ·have g:Hid (res=false):=by show _=_;rw[u.o,decide_eq_true E];simp
    have y:¬(0:Int)<(n:Int):=by omega
    go_wp2_with fail
    go_ret;exact⟨by rw[g.o];rfl,i.o⟩
   ·have g:Hid (res=a.exprs.all (bK nv d)):=by show _=_;rw[u.o,decide_eq_true C,decide_eq_true D,oc E];rfl
    have y:(0:Int)<(n:Int):=by omega
    have l:=Hd (s.o w1 (EB _ _));go_wp2_with fail
    refine l.o.mono ?_;rintro e N ⟨rfl,t⟩;have z:=Hd (i.o.trans (t.mono i.o.size));clear t l s J K L M;go_wp2_with fail
    go_ret;exact⟨by rw[g.o];rfl,z.o⟩
  ·have g:Hid (res=false):=by show _=_;rw[u.o,oc D];simp
   go_wp2_with fail
   go_ret;exact⟨by rw[g.o];rfl,i.o⟩
 ·have g:Hid (res=false):=by show _=_;rw[u.o,oc C];simp
  go_wp2_with fail
  go_ret;exact⟨by rw[g.o];rfl,i.o⟩
theorem xO(F:Nat→Prop)(S d:Nat)(types:List ai)(rules:List aj)(vT vR:Value)(nv nf:Int)(a:aT)(p:Option Addr)(n i:Nat)(w:World)(hw:SuW F S d types rules vT vR nv nf w)(q:a.exprs.length=n)(l:a.kind=4):Calls Tryz.prog 36 #[.pointer (some ⟨S,0,none⟩),.agg #[int .u8 a.kind,int i64 a.type,int i64 a.which,.slice p n i]] w (ap (bf d types (nv,nf) a) w):=by
 obtain⟨w1,e⟩:=zzx (w.alloc (.cells #[int .u8 4,int i64 a.type,int i64 a.which,.slice p n i] 58));have g:Ft w w1:=by rw[e];exact (EB _ w).alloc (EA _) _
 have h:w1.heap[w.heap.size]?=some (.cells #[int .u8 4,int i64 a.type,int i64 a.which,.slice p n i] 58 (0,0)):=by rw[e];exact n7 w _
 have f:=Hd g;have u:=Hd h;have v:=Hd (hw.below g);have r:a.exprs.isEmpty=decide (n=0):=by rw[←q];cases a.exprs<;>rfl
 have hm:bf d types (nv,nf) a=(decide (a.type=0)&&decide (a.which=0)&&decide (n=0)):=by
  unfold bf;rw[l,r,show (a.which==0)=decide (a.which=0) from rfl,show (a.type==0)=decide (a.type=0) from rfl];rfl
 obtain⟨res,c⟩:=zzx (bf d types (nv,nf) a);have j:Hid (res=(decide (a.type=0)&&decide (a.which=0)&&decide (n=0))):=c.trans hm;rw[←c,l];obtain⟨y,z,A,B⟩:=gK h;clear g h hw q hm c r l
 go_enter Tryz.func36,Tryz.ntmps36
 go_upto_region 1 with fail
 change Code.wp _ _ _ _ (w.alloc (.cells #[int .u8 4,int i64 a.type,int i64 a.which,.slice p n i] 58));rw[←e];clear e
 by_cases s:a.type=0
 ·by_cases t:a.which=0
  ·by_cases k:n=0
   ·have b:Hid (res=true):=by show _=_;rw[j.o,decide_eq_true s,decide_eq_true t,decide_eq_true k];rfl
    subst k;go_wp2_with fail
    go_ret;exact⟨by rw[b.o];rfl,f.o⟩
   ·have b:Hid (res=false):=by show _=_;rw[j.o,oc k];simp
    have m:¬((n:Int)=0):=by omega
    have x:((n:Int)==0)=false:=by simpa using m
    go_wp2_with fail
    go_ret;exact⟨by rw[b.o];first|rfl|simp[k],f.o⟩
  ·have b:Hid (res=false):=by show _=_;rw[j.o,oc t];simp
   go_wp2_with fail
   go_ret;exact⟨by rw[b.o];rfl,f.o⟩
 ·have b:Hid (res=false):=by show _=_;rw[j.o,oc s];simp
  go_wp2_with fail
  go_ret;exact⟨by rw[b.o];rfl,f.o⟩
theorem ve(F:Nat→Prop)(S d:Nat)(types:List ai)(rules:List aj)(vT vR:Value)(nv nf:Int)(a:aT)(p:Option Addr)(n h:Nat)(w:World)(hw:SuW F S d types rules vT vR nv nf w)(j:a.exprs.length=n)(g:a.kind≠1∧a.kind≠2∧a.kind≠3∧a.kind≠4):Calls Tryz.prog 36 #[.pointer (some ⟨S,0,none⟩),.agg #[int .u8 a.kind,int i64 a.type,int i64 a.which,.slice p n h]] w (ap (bf d types (nv,nf) a) w):=by
 obtain⟨w1,c⟩:=zzx (w.alloc (.cells #[int .u8 a.kind,int i64 a.type,int i64 a.which,.slice p n h] 58));have e:Ft w w1:=by rw[c];exact (EB _ w).alloc (EA _) _
 have f:w1.heap[w.heap.size]?=some (.cells #[int .u8 a.kind,int i64 a.type,int i64 a.which,.slice p n h] 58 (0,0)):=by rw[c];exact n7 w _
 have i:=Hd e;have k:=Hd f;have l:=Hd (hw.below e);have m:a.exprs.isEmpty=decide (n=0):=by rw[←j];cases a.exprs<;>rfl
 have hm:bf d types (nv,nf) a=(false):=by
  unfold bf;rw[show (a.kind==1)=false by simpa using g.1,show (a.kind==2)=false by simpa using g.2.1,show (a.kind==3)=false by simpa using g.2.2.1,show (a.kind==4)=false by simpa using g.2.2.2];rfl
 obtain⟨res,b⟩:=zzx (bf d types (nv,nf) a);have q:Hid (res=(false)):=b.trans hm;rw[←b];obtain⟨r,s,t,u⟩:=gK f;clear e f hw j hm b m
 go_enter Tryz.func36,Tryz.ntmps36
 go_upto_region 1 with fail
 change Code.wp _ _ _ _ (w.alloc (.cells #[int .u8 a.kind,int i64 a.type,int i64 a.which,.slice p n h] 58));rw[←c];clear c;obtain⟨v,x,y,z⟩:=g;go_wp2_with fail
 go_ret;exact⟨by rw[q.o];rfl,i.o⟩
theorem Az(F:Nat→Prop)(S d:Nat)(types:List ai)(rules:List aj)(vT vR:Value)(nv nf:Int)(a:aT)(p:Option Addr)(n C:Nat)(w:World)(hw:SuW F S d types rules vT vR nv nf w)(L:a.exprs.length=n)(I:a.kind=2):Calls Tryz.prog 36 #[.pointer (some ⟨S,0,none⟩),.agg #[int .u8 a.kind,int i64 a.type,int i64 a.which,.slice p n C]] w (ap (bf d types (nv,nf) a) w):=by
 obtain⟨w1,k⟩:=zzx (w.alloc (.cells #[int .u8 2,int i64 a.type,int i64 a.which,.slice p n C] 58));have r:Ft w w1:=by rw[k];exact (EB _ w).alloc (EA _) _
 have s:w1.heap[w.heap.size]?=some (.cells #[int .u8 2,int i64 a.type,int i64 a.which,.slice p n C] 58 (0,0)):=by rw[k];exact n7 w _
 have e:=Hd r;have O:=Hd s;have J:=Hd (hw.below r);have M:a.exprs.isEmpty=decide (n=0):=by rw[←L];cases a.exprs<;>rfl
 have hm:bf d types (nv,nf) a=(decide (a.type=0)&&decide (n=0)&&decide (0≤a.which)&&decide (a.which<nf)):=by
  unfold bf;rw[I,M,show (a.type==0)=decide (a.type=0) from rfl];rfl
 obtain⟨res,j⟩:=zzx (bf d types (nv,nf) a);have D:Hid (res=(decide (a.type=0)&&decide (n=0)&&decide (0≤a.which)&&decide (a.which<nf))):=j.trans hm;rw[←j,I];obtain⟨E,l,m,q⟩:=gK s;clear r s hw L hm j M I
 go_enter Tryz.func36,Tryz.ntmps36
 go_upto_region 1 with fail
 change Code.wp _ _ _ _ (w.alloc (.cells #[int .u8 2,int i64 a.type,int i64 a.which,.slice p n C] 58));rw[←k];clear k;have f:w1.cell? ⟨S,3,none⟩=some (int i64 nf):=by rw[Fq _ _ _ _ _ _ J.o.h];rfl
 by_cases G:a.type=0
 ·have t:decide (a.type=0)=true:=decide_eq_true G;have K:(a.type==0)=true:=by simpa using G
  by_cases H:n=0
  ·by_cases N:0≤a.which
   ·have u:decide (0≤a.which)=true:=decide_eq_true N;have g:Hid (res=decide (a.which<nf)):=by show _=_;rw[D.o,t,decide_eq_true H,u];rfl
    subst H;have v:=fun x:Wb w1=>x.cell l
    have y:=fun x:Wb w1=>x.cell m
    have z:=fun x:Wb w1=>x.cell q
    have A:=fun x:Wb w1=>x.cell f
    go_upto_region 5 with fail
    clear E l m q f;refine ae (by kernel_rfl) (by kernel_rfl) ?_
    repeat (go_big_quiet_step (fail))
    refine wpQuiet_nil ?_;intro W2 b;have c:=az b;have i:=Hd (e.o.trans (c.mono e.o.size));clear b c v y z A;go_wp2_with fail
    go_ret;exact⟨by rw[g.o];first|rfl|simp_all,i.o⟩
   ·have u:decide (0≤a.which)=false:=oc N;have g:Hid (res=false):=by show _=_;rw[D.o,u];simp
    subst H;have v:=fun x:Wb w1=>x.cell l
    have y:=fun x:Wb w1=>x.cell m
    have z:=fun x:Wb w1=>x.cell q
    have A:=fun x:Wb w1=>x.cell f
    go_upto_region 5 with fail
    clear E l m q f;refine ae (by kernel_rfl) (by kernel_rfl) ?_
    repeat (go_big_quiet_step (fail))
    refine wpQuiet_nil ?_;intro W2 b;have c:=az b;have i:=Hd (e.o.trans (c.mono e.o.size));clear b c v y z A;go_wp2_with fail
    go_ret;exact⟨by rw[g.o];first|rfl|simp_all,i.o⟩
  ·have g:Hid (res=false):=by show _=_;rw[D.o,oc H];simp
   have B:¬((n:Int)=0):=by omega
   have P:((n:Int)==0)=false:=by simpa using B
   have Q:decide ((n:Int)=0)=false:=oc B;have v:=fun x:Wb w1=>x.cell l
   have y:=fun x:Wb w1=>x.cell m
   have z:=fun x:Wb w1=>x.cell q
   have A:=fun x:Wb w1=>x.cell f
   go_upto_region 5 with fail
   clear E l m q f;refine ae (by kernel_rfl) (by kernel_rfl) ?_
   repeat (go_big_quiet_step (fail))
   refine wpQuiet_nil ?_;intro W2 b;have c:=az b;have i:=Hd (e.o.trans (c.mono e.o.size));clear b c v y z A;go_wp2_with fail
   go_ret;exact⟨by rw[g.o];first|rfl|simp_all,i.o⟩
 ·have t:decide (a.type=0)=false:=oc G;have K:(a.type==0)=false:=by simpa using G
  have g:Hid (res=false):=by show _=_;rw[D.o,t];rfl
  have v:=fun x:Wb w1=>x.cell l
  have y:=fun x:Wb w1=>x.cell m
  have z:=fun x:Wb w1=>x.cell q
  have A:=fun x:Wb w1=>x.cell f
  go_upto_region 5 with fail
  clear E l m q f;refine ae (by kernel_rfl) (by kernel_rfl) ?_
  repeat (go_big_quiet_step (fail))
  refine wpQuiet_nil ?_;intro W2 b;have c:=az b;have i:=Hd (e.o.trans (c.mono e.o.size));clear b c v y z A;go_wp2_with fail
  go_ret;exact⟨by rw[g.o];first|rfl|simp_all,i.o⟩
theorem Bb(F:Nat→Prop)(S d:Nat)(types:List ai)(rules:List aj)(vT vR:Value)(nv nf:Int)(a:aT)(s:Value)(w:World)(hw:SuW F S d types rules vT vR nv nf w)(b:(ay d).row w F a.exprs s) :
  Calls Tryz.prog 36 #[.pointer (some ⟨S,0,none⟩),.agg #[int .u8 a.kind,int i64 a.type,int i64 a.which,s]] w (ap (bf d types (nv,nf) a) w):=by
 obtain⟨p,c,rfl⟩:=Rd.row_shape b
 by_cases e:a.kind=1
 ·exact Ao F S d types rules vT vR nv nf a p _ c w hw rfl e b
 by_cases f:a.kind=2
 ·exact Az F S d types rules vT vR nv nf a p _ c w hw rfl f
 by_cases g:a.kind=3
 ·exact wk F S d types rules vT vR nv nf a p _ c w hw rfl g b
 by_cases h:a.kind=4
 ·exact xO F S d types rules vT vR nv nf a p _ c w hw rfl h
 ·exact ve F S d types rules vT vR nv nf a p _ c w hw rfl ⟨e,f,g,h⟩
theorem zq(F:Nat→Prop)(S d:Nat)(types:List ai)(rules:List aj)(vT vR:Value)(nv nf:Int)(a:aT)(s:Value)(T:Nat)(w:World)(hw:SuW F S d types rules vT vR nv nf w)(k:w.cell? ⟨T,0,none⟩=some (.pointer (some ⟨S,0,none⟩)))(i:(ay d).row w F a.exprs s) :
  Calls Tryz.prog 35 #[.agg #[int .u8 a.kind,int i64 a.type,int i64 a.which,s],.pointer (some ⟨T,0,none⟩)] w (ap (!bf d types (nv,nf) a) w):=by
 obtain⟨p,c,l⟩:=Rd.row_shape i;have g:Ft w (w.alloc (.cells #[int .u8 a.kind,int i64 a.type,int i64 a.which,s] 58)):=(EB _ w).alloc (EA _) _;have r:=(g.cell (p:=⟨T,0,none⟩) (dG k)).trans k;have m:=Hd (Bb F S d types rules vT vR nv nf a s _ (hw.below g) (Rd.row_keep (fun b e o t=>(g.block b (hw.f b e).1).trans t) i));have n:=Hd g;obtain⟨q,h⟩:=zzy (a.exprs.length);rw[h]at l;subst l;clear g i hw h
 go_enter Tryz.func35,Tryz.ntmps35
 go_wp2_with fail
 refine m.o.mono ?_;rintro u W2 ⟨rfl,e⟩;have j:=Hd (n.o.trans (e.mono n.o.size));clear e m;go_wp2_with fail
 go_ret;exact⟨rfl,j.o⟩
theorem BB(F:Nat→Prop)(S d:Nat)(types:List ai)(rules:List aj)(vT vR:Value)(nv nf:Int)(l:List aT)(v:Value)(T:Nat)(w:World)(hw:SuW F S d types rules vT vR nv nf w)(O:w.cell? ⟨T,0,none⟩=some (.pointer (some ⟨S,0,none⟩)))(M:(bS d).row w F l v) :
  Calls Tryz.prog 62 #[v,.func (.func 35) #[] #[.pointer (some ⟨T,0,none⟩)]] w (fun e w'=>e=.returned (int i64 (dR (iO (fun x=>!bf d types (nv,nf) x) l 0)))∧Ft w w'):=by
 obtain⟨p,c,P⟩:=Rd.row_shape M;have y:=Rd.row_len M;subst P;obtain⟨n,Q⟩:=zzy (l.length);have HV:=Hd (fun W (C:Ft w W)=>Rd.row_below M (fun b m=>(hw.f b m).1) C);have R:=Hd (fun W (C:Ft w W)=>(C.cell (p:=⟨T,0,none⟩) (dG O)).trans O);have U:=Hd (fun W (C:Ft w W)=>hw.below C);obtain⟨q,r⟩:∃q:aT→Bool,q=fun x=>!bf d types (nv,nf) x:=⟨_,rfl⟩
 have V:Hid (∀x,q x = !bf d types (nv,nf) x):=fun x=>by rw[r]
 rw[←r];rw[Q]at HV y ⊢;have X:=Hd Q;have ak:(n:Int)≤9223372036854775807:=by unfold maxLen at y;omega
 clear M Q O hw r y
 go_enter Tryz.func62,Tryz.ntmps62
 go_wp2
 go_loopw [8] (zG w n l q) (fun i _=>n-(intOf i).toNat)
 case atStart=>exact⟨0,EM _,rfl,EB _ _,fun j z hj=>by omega⟩
 case round =>
  obtain⟨k,hk,rfl,m,D⟩:=hrel;have an:(0:Int)≤k:=by omega
  have Y:=Hd m;have A:=Hd D;clear D
  by_cases Z:k<n
  ·have aq:(k:Int)<n:=by omega
   obtain⟨a,ha⟩:∃a,l[k]?=some a:=⟨_,EE (by rw[X.o];exact Z)⟩;have t:=HV.o wr m;have E:=Rd.row_at t ha;rw[X.o]at E;obtain⟨b,off,cap,vs,ad,_,_,_,_,G,g⟩:=E;rw[qO]at g;injection ad with e1 _ e3
   subst e1;subst e3;obtain⟨_,_,_,s,rfl,B⟩:=eB.1 G;have af:=Rd.row_shape B;obtain⟨ps,H,hs⟩:=af;obtain⟨N,I⟩:=zzy (a.exprs.length);rw[I]at hs;subst hs;have c0:wr.cell? ⟨b,off+k*4,none⟩=some (int .u8 a.kind):=g 0 _ rfl;have c1:wr.cell? ⟨b,off+k*4+1,none⟩=some (int i64 a.type):=g 1 _ rfl;have c2:wr.cell? ⟨b,off+k*4+2,none⟩=some (int i64 a.which):=g 2 _ rfl;have c3:wr.cell? ⟨b,off+k*4+3,none⟩=some (.slice ps N H):=g 3 _ rfl;have HK:=Hd (zq F S d types rules vT vR nv nf a (.slice ps N H) T wr (U.o wr m) (R.o wr m) B);have J:Hid (l[k]?=some a):=ha;rw[←V.o a]at HK;clear t G g ha m B I;go_wp2_with fail
   refine HK.o.mono ?_;rintro e2 w1 ⟨rfl,K⟩;have L:=Hd (Y.o.trans (K.mono Y.o.size));clear K c0 c1 c2 c3
   cases r:q a with
   | true =>
    have HH:=Hd (pg q l 0 k a J.o r A.o);clear r;go_wp2_with fail
    go_ret;exact⟨by rw[HH.o,Nat.zero_add];rfl,L.o⟩
   | false =>
    have HQ:=Hd r;clear r;go_wp2_with fail
    exact⟨⟨k+1,by omega,by go_num,L.o,fun j z hj u=>by
     by_cases h:j=k
     ·subst h;rw[J.o]at u;injection u with u
      rw[←u];exact HQ.o
     ·exact A.o j z (by omega) u⟩,by simp[intOf];omega⟩
  ·have HH:Hid (iO q l 0=none):=mK _ l 0 (fun j z u=>A.o j z (by
    have:=(EP.1 u).1;rw[X.o]at this
    omega) u)
   clear m;go_wp2_with fail
   go_ret;exact⟨by rw[HH.o];rfl,Y.o⟩
theorem zX(F:Nat→Prop)(S d:Nat)(types:List ai)(rules:List aj)(vT vR:Value)(nv nf:Int)(l:List aT)(v:Value)(T:Nat)(w:World)(hw:SuW F S d types rules vT vR nv nf w)(j:w.cell? ⟨T,0,none⟩=some (.pointer (some ⟨S,0,none⟩)))(h:(bS d).row w F l v) :
  Calls Tryz.prog 34 #[v,.func (.func 35) #[] #[.pointer (some ⟨T,0,none⟩)]] w (ap (!(l.all (bf d types (nv,nf)))) w):=by
 have b:=Hd (BB F S d types rules vT vR nv nf l v T w hw j h);rw[←oy (bf d types (nv,nf)) l 0];obtain⟨p,c,f⟩:=Rd.row_shape h;obtain⟨n,m⟩:=zzy (l.length);rw[m]at f;subst f;clear h j hw m
 cases g:iO (fun x=>!bf d types (nv,nf) x) l 0 with
 | none =>
  rw[g]at b;have b:Hid (Calls Tryz.prog 62 #[.slice p n c,.func (.func 35) #[] #[.pointer (some ⟨T,0,none⟩)]] w (fun e w'=>e=.returned (int i64 (-1))∧Ft w w')):=b;clear g
  go_enter Tryz.func34,Tryz.ntmps34
  go_wp2_with fail
  refine b.o.mono ?_;rintro e w1 ⟨rfl,a⟩;have i:=Hd a;clear a b;go_wp2_with fail
  go_ret;exact⟨rfl,i.o⟩
 | some k =>
  rw[g]at b;have b:Hid (Calls Tryz.prog 62 #[.slice p n c,.func (.func 35) #[] #[.pointer (some ⟨T,0,none⟩)]] w (fun e w'=>e=.returned (int i64 (k:Int))∧Ft w w')):=b;have q:(0:Int)≤k:=by omega
  clear g
  go_enter Tryz.func34,Tryz.ntmps34
  go_wp2_with fail
  refine b.o.mono ?_;rintro e w1 ⟨rfl,a⟩;have i:=Hd a;clear a b;go_wp2_with fail
  go_ret;exact⟨rfl,i.o⟩
