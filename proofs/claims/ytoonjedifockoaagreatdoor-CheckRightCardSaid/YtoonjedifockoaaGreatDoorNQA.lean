/- Parts of one proof, joined; conditions stand in each theorem. -/
import Derived.Test.YtoonjedifockoaaGreatDoorMD
import Derived.Test.YtoonjedifockoaaGreatDoorNA0
import Derived.Test.YtoonjedifockoaaGreatDoorNA
import Derived.Test.YtoonjedifockoaaGreatDoorNH
namespace Go.Proofs.YtoonjedifockoaaGreatDoor
open Go.IntKind(i64)
open Go.Value(int string slice)
set_option maxHeartbeats 8000000
set_option maxRecDepth 100000
open Go.RowKit
theorem xK(t:ByteArray):(t.toList=[])↔t.data.toList.isEmpty=true:=by rw[EN,List.isEmpty_iff]
theorem Bw(n:Nat):((n:Int)==0)=decide (n=0):=by rw[Fc];simp
theorem DW(l:List UInt8):l.isEmpty=decide (l=[]):=by cases l<;>rfl
theorem nZ(v:gY)(w:World)(i:v.text.size≤maxLen):Calls Tryz.prog 64 #[.agg #[int .u8 v.kind,int i64 v.num,.string v.text]] w (ap (cJ v) w):=by
 have d:Ft w (w.alloc (.cells #[int .u8 v.kind,int i64 v.num,.string v.text] 46)):=(EB _ w).alloc (EA _) _;have b:=Hd d;have c:=Hd (lD v.text (w.alloc (.cells #[int .u8 v.kind,int i64 v.num,.string v.text] 46)) i);clear d
 by_cases g:v.kind=1
 ·have a:Hid (cJ v=decide (v.text.toList=[])):=by
   show _=_
   unfold cJ;rw[g,show decide (v.text.toList=[])=v.text.data.toList.isEmpty by rw[Fc,ot];exact xK _];rfl
  rw[a.o];rw[g]at b ⊢;clear a c
  go_enter Tryz.func64,Tryz.ntmps64
  go_wp2
  all_goals (go_ret;exact⟨by simp_all [DW],by first|exact b.o|(have:=b.o;simp_all)⟩)
 by_cases f:v.kind=2
 ·by_cases h:v.num=0
  ·have a:Hid (cJ v=bv v.text.data.toList):=by
    show _=_
    unfold cJ;rw[f,h];rfl
   rw[a.o];rw[f,h]at b c ⊢;clear a
   go_enter Tryz.func64,Tryz.ntmps64
   go_wp2_with fail
   refine c.o.mono ?_;rintro e W2 ⟨rfl,rfl⟩;clear c;go_wp2_with fail
   go_ret;exact⟨rfl,b.o⟩
  ·have a:Hid (cJ v=false):=by
    show _=_
    unfold cJ;rw[f,show (v.num==0)=false by simpa using h];rfl
   rw[a.o];rw[f]at b ⊢;clear a c
   go_enter Tryz.func64,Tryz.ntmps64
   go_wp2
   all_goals (go_ret;exact⟨by simp_all,by first|exact b.o|(have:=b.o;simp_all)⟩)
 ·have a:Hid (cJ v=false):=by
   show _=_
   unfold cJ;rw[show (v.kind==1)=false by simpa using g,show (v.kind==2)=false by simpa using f];rfl
  rw[a.o];clear a c
  go_enter Tryz.func64,Tryz.ntmps64
  go_wp2
  all_goals (go_ret;exact⟨by simp_all,by first|exact b.o|(have:=b.o;simp_all)⟩)
theorem qn(e:ag)(p:Option Addr)(n c:Nat)(w:World)(b:e.kids.length=n) :
  Calls Tryz.prog 38 #[.agg #[int .u8 e.kind,int .u8 e.val.kind,int i64 e.val.num,.string e.val.text,int i64 e.var,int .u8 e.op,.slice p n c]] w (ap (zeroE e) w):=by
 have a:Hid (Ft w ((w.alloc (.cells #[int .u8 e.kind,int .u8 e.val.kind,int i64 e.val.num,.string e.val.text,int i64 e.var,int .u8 e.op,.slice p n c] 50)).alloc (.cells #[int .u8 0,int i64 0,string ⟨#[]⟩] 46))):=bz w _ _;have d:Hid (e.kids.isEmpty=decide (n=0)):=by
  show _=_
  rw[←b]
  cases e.kids<;>rfl
 have f:Hid (zeroE e=(e.kind==0&&(e.val.kind==0&&e.val.num==0&&decide (e.val.text.toList=[]))&&e.var==0&&e.op==0&&decide (n=0))):=by
  show _=_
  unfold zeroE zeroV;rw[d.o,show decide (e.val.text.toList=[])=e.val.text.data.toList.isEmpty by rw[Fc,ot];exact xK _]
 rw[f.o];obtain⟨h,g,er,i,es⟩:=e;obtain⟨j,k,l⟩:=g;simp only[ag.kind,ag.val,ag.var,ag.op]at a ⊢;clear b d f
 go_enter Tryz.func38,Tryz.ntmps38
 go_wp2
 all_goals first
  | (go_ret;exact⟨by simp_all [Bw],by simp_all;exact a.o⟩)
  | (go_ret;exact⟨by simp_all [],by first|exact a.o|(have:=a.o;simp_all)⟩)
theorem iN(F:Nat→Prop)(types:List ai)(vT:Value)(k m:Int)(w:World)(g:bo.row w F types vT) :
  Calls Tryz.prog 37 #[vT,int i64 k,int i64 m] w (ap (aF types k m) w):=by
 obtain⟨p,c,s⟩:=Rd.row_shape g;have d:=Rd.row_len g;obtain⟨n,h⟩:=zzy (types.length);rw[h]at s d;subst s;have u:(n:Int)≤9223372036854775807:=by unfold maxLen at d;omega
 by_cases o:0≤k
 ·obtain⟨j,rfl⟩:∃j:Nat,k=j:=⟨k.toNat,by omega⟩
  by_cases v:j<n
  ·obtain⟨t,f⟩:∃t,types[j]?=some t:=⟨_,EE (by rw[h];exact v)⟩;have a:aF types (j:Int) m=(t.fields==m):=by
    unfold aF;rw[decide_eq_true o,decide_eq_true (by omega),Int.toNat_natCast,f];rfl
   rw[a];have i:=Rd.row_at g f;rw[h]at i;obtain⟨b,off,cap,vs,q,_,_,_,_,l,e⟩:=i;injection q with x _ y
   subst x;subst y;obtain⟨rfl,_,_⟩:=dN.1 l;have z:w.cell? ⟨b,off+j*2+1,none⟩=some (int i64 t.fields):=e 1 _ rfl;have r:(j:Int)<n:=by omega
   clear g l e a h d f
   go_enter Tryz.func37,Tryz.ntmps37
   go_wp2_with fail
   go_ret;exact⟨rfl,EB _ _⟩
  ·have a:aF types (j:Int) m=false:=by
    unfold aF;rw[decide_eq_true o,oc (show ¬(j:Int)<types.length by omega)];rfl
   rw[a];have r:¬(j:Int)<n:=by omega
   clear g a h d
   go_enter Tryz.func37,Tryz.ntmps37
   go_wp2_with fail
   go_ret;exact⟨rfl,EB _ _⟩
 ·have a:aF types k m=false:=by
   unfold aF;rw[oc o];rfl
  rw[a];clear g a h d
  go_enter Tryz.func37,Tryz.ntmps37
  go_wp2_with fail
  go_ret;exact⟨rfl,EB _ _⟩
theorem qs(a c:Int)(b:ByteArray):(a≠0∧zeroV ⟨a,c,b⟩=false)∨(a=0∧c≠0∧zeroV ⟨a,c,b⟩=false)∨(a=0∧c=0∧b.toList≠[]∧zeroV ⟨a,c,b⟩=false)∨(a=0∧c=0∧b.toList=[]∧zeroV ⟨a,c,b⟩=true):=by
 have e:zeroV ⟨a,c,b⟩=(a==0&&c==0&&decide (b.toList=[])):=by
  unfold zeroV;rw[show decide (b.toList=[])=b.data.toList.isEmpty by rw[Fc,ot];exact xK _]
 rw[e]
 by_cases d:a=0
 ·by_cases f:c=0
  ·by_cases g:b.toList=[]
   ·exact Or.inr (Or.inr (Or.inr ⟨d,f,g,by simp[d,f,g]⟩))
   ·exact Or.inr (Or.inr (Or.inl ⟨d,f,g,by simp[d,f,g]⟩))
  ·exact Or.inr (Or.inl ⟨d,f,by simp[f]⟩)
 ·exact Or.inl ⟨d,by simp[d]⟩
def fJ(n:Int) (res:Option Int) (w:World) (e:Ending) (w':World):Prop:=
 e=.returned (.tuple #[int i64 n,.bool res.isSome])∧Ft w w'
theorem cj{res:Option Int}{n:Int}{b:Bool}{w w':World}(h:res=if b then some n else none)(a:Ft w w'):fJ n res w (.returned (.tuple #[int i64 n,.bool b])) w':=
 ⟨by rw[h];cases b<;>rfl,a⟩
def qD(nv:Int) (a:cg):Int:=if a.kind=2 then nv+1 else nv
theorem xd{binds:Bool}{nv v:Int}{a:cg}(h:aY binds nv a=some v):v=qD nv a:=by
 unfold aY at h;unfold qD
 by_cases b:a.kind=2
 ·rw[n9 b];rw[b]at h;have h:(if binds&&a.var==nv&&zeroV a.val then some (nv+1) else none)=some v:=h
  split at h
  ·injection h with h;exact h.symm
  ·cases h
 ·rw[n8 b];rw[show (a.kind==2)=false by simpa using b]at h
  repeat' split at h
  all_goals first|contradiction|(injection h with h;exact h.symm)|cases h
theorem zx(f g h nv:Int)(i:ByteArray)(binds:Bool)(w:World):Calls Tryz.prog 39 #[.agg #[int .u8 1,int i64 f,int .u8 g,int i64 h,.string i],int i64 nv,.bool binds] w (fJ nv (aY binds nv ⟨1,f,g,h,i⟩) w):=by
 obtain⟨w1,k⟩:=zzx ((w.alloc (.cells #[int .u8 1,int i64 f,int .u8 g,int i64 h,.string i] 55)).alloc (.cells #[int .u8 0,int i64 0,string ⟨#[]⟩] 46));obtain⟨l,m,_⟩:=am w (.cells #[int .u8 1,int i64 f,int .u8 g,int i64 h,.string i] 55) (.cells #[int .u8 0,int i64 0,string ⟨#[]⟩] 46);have n:=bz w (.cells #[int .u8 1,int i64 f,int .u8 g,int i64 h,.string i] 55) (.cells #[int .u8 0,int i64 0,string ⟨#[]⟩] 46);rw[←k]at l m n;have d:=Hd n;obtain⟨C,D,E,F,G⟩:=cells5 l;obtain⟨z0,H,z2,_⟩:=cells3 m;clear l m n;have p:Hid (aY binds nv ⟨1,f,g,h,i⟩=if f==0&&zeroV ⟨g,h,i⟩ then some nv else none):=rfl;obtain⟨res,j⟩:=zzy (aY binds nv ⟨1,f,g,h,i⟩);rw[j]at p ⊢;have J:=qs g h i;generalize zeroV ⟨g,h,i⟩=z at *;clear j;have q:=fun x:Wb w1=>x.cell C
 have r:=fun x:Wb w1=>x.cell D
 have s:=fun x:Wb w1=>x.cell E
 have t:=fun x:Wb w1=>x.cell F
 have u:=fun x:Wb w1=>x.cell G
 have v:=fun x:Wb w1=>x.cell z0
 have y:=fun x:Wb w1=>x.cell H
 have A:=fun x:Wb w1=>x.cell z2
 go_enter Tryz.func39,Tryz.ntmps39
 go_upto_region 2 with fail
 change Code.wp _ _ _ _ ((w.alloc (.cells #[int .u8 1,int i64 f,int .u8 g,int i64 h,.string i] 55)).alloc (.cells #[int .u8 0,int i64 0,string ⟨#[]⟩] 46));rw[←k];clear k;go_upto_region 4 with fail
 clear C D E F G z0 H z2
 by_cases I:f=0
 ·subst I;rcases J with ⟨L,rfl⟩|⟨rfl,M,rfl⟩|⟨rfl,rfl,K,rfl⟩|⟨rfl,rfl,K,rfl⟩
  ·refine ae (by kernel_rfl) (by kernel_rfl) ?_
   repeat (go_big_quiet_step (fail))
   refine wpQuiet_nil ?_;intro W2 a;have c:=az a;have e:=Hd (d.o.trans (c.mono d.o.size));clear a c q r s t u v y A;go_wp2_with fail
   exact⟨rfl,_,results_tmp2 rfl _ _ _,cj (b:=false) (by rw[p.o];rfl) e.o⟩
  ·refine ae (by kernel_rfl) (by kernel_rfl) ?_
   repeat (go_big_quiet_step (fail))
   refine wpQuiet_nil ?_;intro W2 a;have c:=az a;have e:=Hd (d.o.trans (c.mono d.o.size));clear a c q r s t u v y A;go_wp2_with fail
   exact⟨rfl,_,results_tmp2 rfl _ _ _,cj (b:=false) (by rw[p.o];rfl) e.o⟩
  ·refine ae (by kernel_rfl) (by kernel_rfl) ?_
   repeat (go_big_quiet_step (fail))
   refine wpQuiet_nil ?_;intro W2 a;have c:=az a;have e:=Hd (d.o.trans (c.mono d.o.size));clear a c q r s t u v y A;go_wp2_with fail
   exact⟨rfl,_,results_tmp2 rfl _ _ _,cj (b:=false) (by rw[p.o];rfl) e.o⟩
  ·refine ae (by kernel_rfl) (by kernel_rfl) ?_
   repeat (go_big_quiet_step (fail))
   refine wpQuiet_nil ?_;intro W2 a;have c:=az a;have e:=Hd (d.o.trans (c.mono d.o.size));clear a c q r s t u v y A;go_wp2_with fail
   exact⟨rfl,_,results_tmp2 rfl _ _ _,cj (b:=true) (by rw[p.o];rfl) e.o⟩
 ·have B:(f==0)=false:=by simpa using I
  refine ae (by kernel_rfl) (by kernel_rfl) ?_
  repeat (go_big_quiet_step (fail))
  refine wpQuiet_nil ?_;intro W2 a;have c:=az a;have e:=Hd (d.o.trans (c.mono d.o.size));clear a c q r s t u v y A;go_wp2_with fail
  exact⟨rfl,_,results_tmp2 rfl _ _ _,cj (b:=false) (by rw[p.o,B];rfl) e.o⟩
theorem zm(g h i nv:Int)(j:ByteArray)(binds:Bool)(w:World)(C:0≤nv∧nv≤1000000):Calls Tryz.prog 39 #[.agg #[int .u8 2,int i64 g,int .u8 h,int i64 i,.string j],int i64 nv,.bool binds] w (fJ (nv+1) (aY binds nv ⟨2,g,h,i,j⟩) w):=by
 obtain⟨w1,l⟩:=zzx ((w.alloc (.cells #[int .u8 2,int i64 g,int .u8 h,int i64 i,.string j] 55)).alloc (.cells #[int .u8 0,int i64 0,string ⟨#[]⟩] 46));obtain⟨m,n,_⟩:=am w (.cells #[int .u8 2,int i64 g,int .u8 h,int i64 i,.string j] 55) (.cells #[int .u8 0,int i64 0,string ⟨#[]⟩] 46);have p:=bz w (.cells #[int .u8 2,int i64 g,int .u8 h,int i64 i,.string j] 55) (.cells #[int .u8 0,int i64 0,string ⟨#[]⟩] 46);rw[←l]at m n p;have d:=Hd p;obtain⟨D,E,F,G,H⟩:=cells5 m;obtain⟨z0,I,z2,_⟩:=cells3 n;clear m n p;have q:Hid (aY binds nv ⟨2,g,h,i,j⟩=if binds&&g==nv&&zeroV ⟨h,i,j⟩ then some (nv+1) else none):=rfl;obtain⟨res,k⟩:=zzy (aY binds nv ⟨2,g,h,i,j⟩);rw[k]at q ⊢;have K:=qs h i j;generalize zeroV ⟨h,i,j⟩=z at *;clear k;have r:=fun x:Wb w1=>x.cell D
 have s:=fun x:Wb w1=>x.cell E
 have t:=fun x:Wb w1=>x.cell F
 have u:=fun x:Wb w1=>x.cell G
 have v:=fun x:Wb w1=>x.cell H
 have y:=fun x:Wb w1=>x.cell z0
 have A:=fun x:Wb w1=>x.cell I
 have B:=fun x:Wb w1=>x.cell z2
 go_enter Tryz.func39,Tryz.ntmps39
 go_upto_region 2 with fail
 change Code.wp _ _ _ _ ((w.alloc (.cells #[int .u8 2,int i64 g,int .u8 h,int i64 i,.string j] 55)).alloc (.cells #[int .u8 0,int i64 0,string ⟨#[]⟩] 46));rw[←l];clear l;go_upto_region 6 with fail
 clear D E F G H z0 I z2;obtain⟨L,M⟩:=C
 cases binds with
 | false =>
  refine ae (by kernel_rfl) (by kernel_rfl) ?_
  repeat (go_big_quiet_step (fail))
  refine wpQuiet_nil ?_;intro W2 a;have c:=az a;have e:=Hd (d.o.trans (c.mono d.o.size));clear a c r s t u v y A B;go_wp2_with fail
  exact⟨rfl,_,results_tmp2 rfl _ _ _,cj (b:=false) (by rw[q.o];rfl) e.o⟩
 | true =>
  by_cases J:g=nv
  ·have f:(g==nv)=true:=by simpa using J
   rcases K with ⟨O,rfl⟩|⟨rfl,P,rfl⟩|⟨rfl,rfl,N,rfl⟩|⟨rfl,rfl,N,rfl⟩
   ·refine ae (by kernel_rfl) (by kernel_rfl) ?_
    repeat (go_big_quiet_step (fail))
    refine wpQuiet_nil ?_;intro W2 a;have c:=az a;have e:=Hd (d.o.trans (c.mono d.o.size));clear a c r s t u v y A B;go_wp2_with fail
    exact⟨rfl,_,results_tmp2 rfl _ _ _,cj (b:=false) (by rw[q.o,f];rfl) e.o⟩
   ·refine ae (by kernel_rfl) (by kernel_rfl) ?_
    repeat (go_big_quiet_step (fail))
    refine wpQuiet_nil ?_;intro W2 a;have c:=az a;have e:=Hd (d.o.trans (c.mono d.o.size));clear a c r s t u v y A B;go_wp2_with fail
    exact⟨rfl,_,results_tmp2 rfl _ _ _,cj (b:=false) (by rw[q.o,f];rfl) e.o⟩
   ·refine ae (by kernel_rfl) (by kernel_rfl) ?_
    repeat (go_big_quiet_step (fail))
    refine wpQuiet_nil ?_;intro W2 a;have c:=az a;have e:=Hd (d.o.trans (c.mono d.o.size));clear a c r s t u v y A B;go_wp2_with fail
    exact⟨rfl,_,results_tmp2 rfl _ _ _,cj (b:=false) (by rw[q.o,f];rfl) e.o⟩
   ·refine ae (by kernel_rfl) (by kernel_rfl) ?_
    repeat (go_big_quiet_step (fail))
    refine wpQuiet_nil ?_;intro W2 a;have c:=az a;have e:=Hd (d.o.trans (c.mono d.o.size));clear a c r s t u v y A B;go_wp2_with fail
    exact⟨rfl,_,results_tmp2 rfl _ _ _,cj (b:=true) (by rw[q.o,f];rfl) e.o⟩
  ·have f:(g==nv)=false:=by simpa using J
   refine ae (by kernel_rfl) (by kernel_rfl) ?_
   repeat (go_big_quiet_step (fail))
   refine wpQuiet_nil ?_;intro W2 a;have c:=az a;have e:=Hd (d.o.trans (c.mono d.o.size));clear a c r s t u v y A B;go_wp2_with fail
   exact⟨rfl,_,results_tmp2 rfl _ _ _,cj (b:=false) (by rw[q.o,f];rfl) e.o⟩
theorem wm(f i j nv:Int)(k:ByteArray)(binds:Bool)(w:World):Calls Tryz.prog 39 #[.agg #[int .u8 3,int i64 f,int .u8 i,int i64 j,.string k],int i64 nv,.bool binds] w (fJ nv (aY binds nv ⟨3,f,i,j,k⟩) w):=by
 obtain⟨w1,m⟩:=zzx ((w.alloc (.cells #[int .u8 3,int i64 f,int .u8 i,int i64 j,.string k] 55)).alloc (.cells #[int .u8 0,int i64 0,string ⟨#[]⟩] 46));obtain⟨n,p,_⟩:=am w (.cells #[int .u8 3,int i64 f,int .u8 i,int i64 j,.string k] 55) (.cells #[int .u8 0,int i64 0,string ⟨#[]⟩] 46);have q:=bz w (.cells #[int .u8 3,int i64 f,int .u8 i,int i64 j,.string k] 55) (.cells #[int .u8 0,int i64 0,string ⟨#[]⟩] 46);rw[←m]at n p q;have d:=Hd q;obtain⟨D,E,F,G,H⟩:=cells5 n;obtain⟨z0,I,z2,_⟩:=cells3 p;clear n p q;have r:Hid (aY binds nv ⟨3,f,i,j,k⟩=if decide (0≤f)&&decide (f<nv)&&zeroV ⟨i,j,k⟩ then some nv else none):=rfl;obtain⟨res,l⟩:=zzy (aY binds nv ⟨3,f,i,j,k⟩);rw[l]at r ⊢;have L:=qs i j k;generalize zeroV ⟨i,j,k⟩=z at *;clear l;have s:=fun x:Wb w1=>x.cell D
 have t:=fun x:Wb w1=>x.cell E
 have u:=fun x:Wb w1=>x.cell F
 have v:=fun x:Wb w1=>x.cell G
 have y:=fun x:Wb w1=>x.cell H
 have A:=fun x:Wb w1=>x.cell z0
 have B:=fun x:Wb w1=>x.cell I
 have C:=fun x:Wb w1=>x.cell z2
 go_enter Tryz.func39,Tryz.ntmps39
 go_upto_region 2 with fail
 change Code.wp _ _ _ _ ((w.alloc (.cells #[int .u8 3,int i64 f,int .u8 i,int i64 j,.string k] 55)).alloc (.cells #[int .u8 0,int i64 0,string ⟨#[]⟩] 46));rw[←m];clear m;go_upto_region 8 with fail
 clear D E F G H z0 I z2
 by_cases J:0≤f
 ·have g:decide (0≤f)=true:=decide_eq_true J
  by_cases K:f<nv
  ·have h:decide (f<nv)=true:=decide_eq_true K;rcases L with ⟨N,rfl⟩|⟨rfl,O,rfl⟩|⟨rfl,rfl,M,rfl⟩|⟨rfl,rfl,M,rfl⟩
   ·refine ae (by kernel_rfl) (by kernel_rfl) ?_
    repeat (go_big_quiet_step (fail))
    refine wpQuiet_nil ?_;intro W2 a;have c:=az a;have e:=Hd (d.o.trans (c.mono d.o.size));clear a c s t u v y A B C;go_wp2_with fail
    exact⟨rfl,_,results_tmp2 rfl _ _ _,cj (b:=false) (by rw[r.o,g,h];rfl) e.o⟩
   ·refine ae (by kernel_rfl) (by kernel_rfl) ?_
    repeat (go_big_quiet_step (fail))
    refine wpQuiet_nil ?_;intro W2 a;have c:=az a;have e:=Hd (d.o.trans (c.mono d.o.size));clear a c s t u v y A B C;go_wp2_with fail
    exact⟨rfl,_,results_tmp2 rfl _ _ _,cj (b:=false) (by rw[r.o,g,h];rfl) e.o⟩
   ·refine ae (by kernel_rfl) (by kernel_rfl) ?_
    repeat (go_big_quiet_step (fail))
    refine wpQuiet_nil ?_;intro W2 a;have c:=az a;have e:=Hd (d.o.trans (c.mono d.o.size));clear a c s t u v y A B C;go_wp2_with fail
    exact⟨rfl,_,results_tmp2 rfl _ _ _,cj (b:=false) (by rw[r.o,g,h];rfl) e.o⟩
   ·refine ae (by kernel_rfl) (by kernel_rfl) ?_
    repeat (go_big_quiet_step (fail))
    refine wpQuiet_nil ?_;intro W2 a;have c:=az a;have e:=Hd (d.o.trans (c.mono d.o.size));clear a c s t u v y A B C;go_wp2_with fail
    exact⟨rfl,_,results_tmp2 rfl _ _ _,cj (b:=true) (by rw[r.o,g,h];rfl) e.o⟩
  ·have h:decide (f<nv)=false:=oc K;refine ae (by kernel_rfl) (by kernel_rfl) ?_
   repeat (go_big_quiet_step (fail))
   refine wpQuiet_nil ?_;intro W2 a;have c:=az a;have e:=Hd (d.o.trans (c.mono d.o.size));clear a c s t u v y A B C;go_wp2_with fail
   exact⟨rfl,_,results_tmp2 rfl _ _ _,cj (b:=false) (by rw[r.o,g,h];rfl) e.o⟩
 ·have g:decide (0≤f)=false:=oc J;refine ae (by kernel_rfl) (by kernel_rfl) ?_
  repeat (go_big_quiet_step (fail))
  refine wpQuiet_nil ?_;intro W2 a;have c:=az a;have e:=Hd (d.o.trans (c.mono d.o.size));clear a c s t u v y A B C;go_wp2_with fail
  exact⟨rfl,_,results_tmp2 rfl _ _ _,cj (b:=false) (by rw[r.o,g];rfl) e.o⟩
theorem xR(a d f g nv:Int)(c:ByteArray)(binds:Bool)(w:World)(p:c.size≤maxLen)(s:a≠1)(n2:a≠2)(t:a≠3):Calls Tryz.prog 39 #[.agg #[int .u8 a,int i64 d,int .u8 f,int i64 g,.string c],int i64 nv,.bool binds] w (fJ nv (aY binds nv ⟨a,d,f,g,c⟩) w):=by
 have hm:aY binds nv ⟨a,d,f,g,c⟩=if a==4&&d==0&&cJ ⟨f,g,c⟩ then some nv else none:=by
  unfold aY;dsimp only;rw[show (a==1)=false by simpa using s,show (a==2)=false by simpa using n2,show (a==3)=false by simpa using t];rfl
 have j:=Hd hm;have u:=Hd (fun W=>nZ ⟨f,g,c⟩ W p);have k:=Hd (bz w (.cells #[int .u8 a,int i64 d,int .u8 f,int i64 g,.string c] 55) (.cells #[int .u8 0,int i64 0,string ⟨#[]⟩] 46));obtain⟨res,h⟩:=zzy (aY binds nv ⟨a,d,f,g,c⟩);rw[h]at j ⊢;generalize cJ ⟨f,g,c⟩=ok at *;clear h hm p
 by_cases q:a=4
 ·subst q
  by_cases r:d=0
  ·subst r
   go_enter Tryz.func39,Tryz.ntmps39
   go_wp2_with fail
   refine (u.o _).mono ?_;rintro e W2 ⟨rfl,i⟩;have l:=Hd (k.o.trans (i.mono k.o.size));clear i;go_wp2_with fail
   exact⟨rfl,_,results_tmp2 rfl _ _ _,cj (b:=ok) (by rw[j.o];rfl) l.o⟩
  ·have m:(d==0)=false:=by simpa using r
   go_enter Tryz.func39,Tryz.ntmps39
   go_wp2_with fail
   exact⟨rfl,_,results_tmp2 rfl _ _ _,cj (b:=false) (by rw[j.o,m];rfl) k.o⟩
 ·have n:(a==4)=false:=by simpa using q
  go_enter Tryz.func39,Tryz.ntmps39
  go_wp2_with fail
  exact⟨rfl,_,results_tmp2 rfl _ _ _,cj (b:=false) (by rw[j.o,n];rfl) k.o⟩
theorem rS(a:cg)(nv:Int)(binds:Bool)(w:World)(g:0≤nv∧nv≤1000000)(k:a.val.text.size≤maxLen) :
  Calls Tryz.prog 39 #[.agg #[int .u8 a.kind,int i64 a.var,int .u8 a.val.kind,int i64 a.val.num,.string a.val.text],int i64 nv,.bool binds] w (fJ (qD nv a) (aY binds nv a) w):=by
 obtain⟨b,c,d,e,f⟩:=a
 by_cases i:b=1
 ·subst i;show Calls _ _ _ _ (fJ nv _ w);exact zx c d e nv f binds w
 by_cases h:b=2
 ·subst h;show Calls _ _ _ _ (fJ (nv+1) _ w);exact zm c d e nv f binds w g
 by_cases j:b=3
 ·subst j;show Calls _ _ _ _ (fJ nv _ w);exact wm c d e nv f binds w
 rw[show qD nv ⟨b,c,d,e,f⟩=nv from n8 h];exact xR b c d e nv f binds w k i h j
theorem xG{e:ag}(nv:Int)(a:e.kind≠1)(n2:e.kind≠2)(b:e.kind≠3):aS nv e=false:=by
 unfold aS;rw[show (e.kind==1)=false by simpa using a,show (e.kind==2)=false by simpa using n2,show (e.kind==3)=false by simpa using b];rfl
theorem nQ(l:List ag):l.isEmpty=decide (l.length=0):=by cases l<;>rfl
theorem yA(b d er f nv:Int)(a:ByteArray)(es:List ag)(p:Option Addr)(n c:Nat)(w:World)(t:es.length=n)(u:a.size≤maxLen) :
  Calls Tryz.prog 40 #[.agg #[int .u8 1,int .u8 b,int i64 d,.string a,int i64 er,int .u8 f,.slice p n c],int i64 nv] w (ap (aS nv ⟨1,⟨b,d,a⟩,er,f,es⟩) w):=by
 have hm:aS nv ⟨1,⟨b,d,a⟩,er,f,es⟩=(cJ ⟨b,d,a⟩&&(er==0&&(f==0&&decide (n=0)))):=by
  unfold aS;simp only[ag.kind,ag.val,ag.var,ag.op,ag.kids];rw[nQ,t]
  cases (er==0)<;>cases (f==0)<;>cases decide (n=0)<;>cases cJ ⟨b,d,a⟩<;>rfl
 rw[hm];have v:=Hd (fun W=>nZ ⟨b,d,a⟩ W u);generalize cJ ⟨b,d,a⟩=ok at *;obtain⟨w1,i⟩:=zzx ((w.alloc (.cells #[int .u8 1,int .u8 b,int i64 d,.string a,int i64 er,int .u8 f,.slice p n c] 50)).alloc (.cells #[int .u8 0,int i64 0,string ⟨#[]⟩] 46));obtain⟨g,j,_⟩:=am w (.cells #[int .u8 1,int .u8 b,int i64 d,.string a,int i64 er,int .u8 f,.slice p n c] 50) (.cells #[int .u8 0,int i64 0,string ⟨#[]⟩] 46);have k:=bz w (.cells #[int .u8 1,int .u8 b,int i64 d,.string a,int i64 er,int .u8 f,.slice p n c] 50) (.cells #[int .u8 0,int i64 0,string ⟨#[]⟩] 46);rw[←i]at g j k;have l:=Hd g;have m:=Hd k;obtain⟨x,y,z,A,B,C,D⟩:=cD g;obtain⟨z0,H,z2,_⟩:=cells3 j;clear g j k;clear hm t u
 go_enter Tryz.func40,Tryz.ntmps40
 go_upto_region 2 with fail
 change Code.wp _ _ _ _ ((w.alloc (.cells #[int .u8 1,int .u8 b,int i64 d,.string a,int i64 er,int .u8 f,.slice p n c] 50)).alloc (.cells #[int .u8 0,int i64 0,string ⟨#[]⟩] 46));rw[←i];clear i;go_wp2_with fail
 refine (v.o _).mono ?_;rintro e W2 ⟨rfl,q⟩;have h:=Hd (m.o.trans (q.mono m.o.size));have E:=aa q l.o (Ez.1 l.o).1;clear q x y z A B C D z0 H z2;obtain⟨x,y,z,A,B,C,D⟩:=cD E;clear E
 cases ok with
 | false =>
  go_wp2_with fail
  go_ret;exact⟨rfl,h.o⟩
 | true =>
  clear l v m
  by_cases F:er=0
  ·subst F
   by_cases G:f=0
   ·subst G;have I:=Bw n;go_wp2_with fail
    go_ret;exact⟨by simp,h.o⟩
   ·have r:(f==0)=false:=by simpa using G
    go_wp2_with fail
    go_ret;exact⟨by simp[r],h.o⟩
  ·have s:(er==0)=false:=by simpa using F
   go_wp2_with fail
   go_ret;exact⟨by simp[s],h.o⟩
theorem Cn(b d er e nv:Int)(f:ByteArray)(es:List ag)(p:Option Addr)(n c:Nat)(w:World)(r:es.length=n) :
  Calls Tryz.prog 40 #[.agg #[int .u8 2,int .u8 b,int i64 d,.string f,int i64 er,int .u8 e,.slice p n c],int i64 nv] w (ap (aS nv ⟨2,⟨b,d,f⟩,er,e,es⟩) w):=by
 have hm:aS nv ⟨2,⟨b,d,f⟩,er,e,es⟩=(zeroV ⟨b,d,f⟩&&e==0&&decide (n=0)&&decide (0≤er)&&decide (er<nv)):=by
  rw[←r,←nQ];rfl
 rw[hm];have v:=qs b d f;generalize zeroV ⟨b,d,f⟩=z at *;obtain⟨w1,h⟩:=zzx ((w.alloc (.cells #[int .u8 2,int .u8 b,int i64 d,.string f,int i64 er,int .u8 e,.slice p n c] 50)).alloc (.cells #[int .u8 0,int i64 0,string ⟨#[]⟩] 46));obtain⟨g,i,_⟩:=am w (.cells #[int .u8 2,int .u8 b,int i64 d,.string f,int i64 er,int .u8 e,.slice p n c] 50) (.cells #[int .u8 0,int i64 0,string ⟨#[]⟩] 46);have j:=bz w (.cells #[int .u8 2,int .u8 b,int i64 d,.string f,int i64 er,int .u8 e,.slice p n c] 50) (.cells #[int .u8 0,int i64 0,string ⟨#[]⟩] 46);rw[←h]at g i j;have m:=Hd g;have a:=Hd j;obtain⟨y,A,B,C,D,E,F⟩:=cD g;obtain⟨z0,G,z2,_⟩:=cells3 i;clear g i j;clear hm r m
 go_enter Tryz.func40,Tryz.ntmps40
 go_upto_region 2 with fail
 change Code.wp _ _ _ _ ((w.alloc (.cells #[int .u8 2,int .u8 b,int i64 d,.string f,int i64 er,int .u8 e,.slice p n c] 50)).alloc (.cells #[int .u8 0,int i64 0,string ⟨#[]⟩] 46));rw[←h];clear h;rcases v with ⟨H,rfl⟩|⟨rfl,I,rfl⟩|⟨rfl,rfl,x,rfl⟩|⟨rfl,rfl,x,rfl⟩
 ·go_wp2_with fail
  go_ret;exact⟨by simp,a.o⟩
 ·go_wp2_with fail
  go_ret;exact⟨by simp,a.o⟩
 ·go_wp2_with fail
  go_ret;exact⟨by simp,a.o⟩
 ·by_cases s:0≤er
  ·have k:decide (0≤er)=true:=decide_eq_true s
   by_cases t:er<nv
   ·have l:decide (er<nv)=true:=decide_eq_true t
    by_cases u:e=0
    ·subst u;go_wp2_with fail
     go_ret;exact⟨by simp[Bw,k,l],a.o⟩
    ·have q:(e==0)=false:=by simpa using u
     go_wp2_with fail
     go_ret;exact⟨by simp[q],a.o⟩
   ·have l:decide (er<nv)=false:=oc t;go_wp2_with fail
    go_ret;exact⟨by simp,a.o⟩
  ·have k:decide (0≤er)=false:=oc s;go_wp2_with fail
   go_ret;exact⟨by simp,a.o⟩
theorem xX(a b d er f nv:Int)(g:ByteArray)(es:List ag)(p:Option Addr)(n c:Nat)(w:World)(_hn:es.length=n)(h:a≠1)(n2:a≠2)(i:a≠3) :
  Calls Tryz.prog 40 #[.agg #[int .u8 a,int .u8 b,int i64 d,.string g,int i64 er,int .u8 f,.slice p n c],int i64 nv] w (ap (aS nv ⟨a,⟨b,d,g⟩,er,f,es⟩) w):=by
 have hm:aS nv ⟨a,⟨b,d,g⟩,er,f,es⟩=false:=xG (e:=⟨a,⟨b,d,g⟩,er,f,es⟩) nv h n2 i;rw[hm];have j:=Hd (bz w (.cells #[int .u8 a,int .u8 b,int i64 d,.string g,int i64 er,int .u8 f,.slice p n c] 50) (.cells #[int .u8 0,int i64 0,string ⟨#[]⟩] 46));clear hm
 go_enter Tryz.func40,Tryz.ntmps40
 go_wp2_with fail
 go_ret;exact⟨rfl,j.o⟩
theorem Dv(d f er a nv:Int)(g:ByteArray)(es:List ag)(p:Option Addr)(n c:Nat)(w:World)(H:es.length=n)
  (all:Bool) (hex:n≠0→∀W,Ft w W→Calls Tryz.prog 41 #[.slice p n c,int i64 nv] W (ap all W)) :
  Calls Tryz.prog 40 #[.agg #[int .u8 3,int .u8 d,int i64 f,.string g,int i64 er,int .u8 a,.slice p n c],int i64 nv] w (ap (aS nv ⟨3,⟨d,f,g⟩,er,a,es⟩&&all) w):=by
 obtain⟨want,hw⟩:∃want:Nat,(if a==4||a==11 then 1 else 2)=want:=⟨_,rfl⟩;have m:0<want:=by rw[←hw];split<;>omega
 have hm:(aS nv ⟨3,⟨d,f,g⟩,er,a,es⟩&&all)=(zeroV ⟨d,f,g⟩&&er==0&&decide (1≤a)&&decide (a≤11)&&n==want&&all):=by
  rw[←H,←hw];rfl
 rw[hm];have L:=qs d f g;generalize zeroV ⟨d,f,g⟩=z at *;have u:=Hd hex;have v:=Hd m;obtain⟨w1,i⟩:=zzx ((w.alloc (.cells #[int .u8 3,int .u8 d,int i64 f,.string g,int i64 er,int .u8 a,.slice p n c] 50)).alloc (.cells #[int .u8 0,int i64 0,string ⟨#[]⟩] 46));obtain⟨h,j,_⟩:=am w (.cells #[int .u8 3,int .u8 d,int i64 f,.string g,int i64 er,int .u8 a,.slice p n c] 50) (.cells #[int .u8 0,int i64 0,string ⟨#[]⟩] 46);have k:=bz w (.cells #[int .u8 3,int .u8 d,int i64 f,.string g,int i64 er,int .u8 a,.slice p n c] 50) (.cells #[int .u8 0,int i64 0,string ⟨#[]⟩] 46);rw[←i]at h j k;have x:=Hd h;have b:=Hd k;obtain⟨P,Q,R,S,T,U,V⟩:=cD h;obtain⟨z0,X,z2,_⟩:=cells3 j;clear h j k;clear hm H x hex m
 go_enter Tryz.func40,Tryz.ntmps40
 go_upto_region 2 with fail
 change Code.wp _ _ _ _ ((w.alloc (.cells #[int .u8 3,int .u8 d,int i64 f,.string g,int i64 er,int .u8 a,.slice p n c] 50)).alloc (.cells #[int .u8 0,int i64 0,string ⟨#[]⟩] 46));rw[←i];clear i;have l:((a==4)=true∧want=1)∨((a==4)=false∧(a==11)=true∧want=1)∨((a==4)=false∧(a==11)=false∧want=2):=by cases t:(a==4)<;>cases y:(a==11)<;>rw[t,y]at hw<;>simp_all
 clear hw;rcases l with ⟨t,A⟩|⟨t,y,A⟩|⟨t,y,A⟩
 all_goals
  rcases L with ⟨Y,rfl⟩|⟨rfl,Z,rfl⟩|⟨rfl,rfl,M,rfl⟩|⟨rfl,rfl,M,rfl⟩
  ·go_wp2_with fail
   go_ret;exact⟨by simp,b.o⟩
  ·go_wp2_with fail
   go_ret;exact⟨by simp,b.o⟩
  ·go_wp2_with fail
   go_ret;exact⟨by simp,b.o⟩
  ·by_cases I:er=0
   ·subst I
    by_cases J:1≤a
    ·have q:decide (1≤a)=true:=decide_eq_true J
     by_cases K:a≤11
     ·have r:decide (a≤11)=true:=decide_eq_true K
      by_cases B:n=want
      ·have C:Hid ((n==want)=true):=by show _=_;simpa using B
       have N:(n=1∨n=2):=by omega
       rcases N with rfl|rfl
       all_goals first
        | (exfalso;omega)
        | (clear B A;have O:=Hd (u.o (by have:=v.o;omega) _ b.o);go_wp2_with fail;refine O.o.mono ?_;rintro e W2 ⟨rfl,s⟩;have D:=Hd (b.o.trans (s.mono b.o.size));clear s;go_wp2_with fail;go_ret;exact⟨by rw[C.o];simp[q,r],D.o⟩)
      ·have E:(n==want)=false:=by simpa using B
       first|have F:((n:Int)==1)=false:=by simp;omega|have F:((n:Int)==2)=false:=by simp;omega
       go_wp2_with fail
       go_ret;exact⟨by simp[E],b.o⟩
     ·have r:decide (a≤11)=false:=oc K;go_wp2_with fail
      go_ret;exact⟨by simp,b.o⟩
    ·have q:decide (1≤a)=false:=oc J;go_wp2_with fail
     go_ret;exact⟨by simp,b.o⟩
   ·have G:(er==0)=false:=by simpa using I
    go_wp2_with fail
    go_ret;exact⟨by simp[G],b.o⟩
theorem tW{nv:Int}{e:ag}(a:e.kind≠3)(h:aS nv e=true):e.kids=[]:=by
 unfold aS at h
 split at h
 ·simp only[EQ,List.isEmpty_iff]at h;exact h.1.2
 ·split at h
  ·simp only[EQ,List.isEmpty_iff]at h;exact h.1.1.2
  ·rw[show (e.kind==3)=false by simpa using a]at h;cases h
theorem vO{nv:Int}{d:Nat}{e:ag}(a:e.kind≠3):bK nv d e=aS nv e:=by
 cases d with
 | zero=>rfl
 | succ d =>
  show (aS nv e&&e.kids.all (bK nv d))=_
  cases h:aS nv e with
  | false=>rfl
  | true=>rw[tW a h];rfl
def DI{α:Type} (f:α→Bool) (l:List α) (w:World) (n:Nat) (i:Value) (W:World):Prop:=
 ∃(a:World) (k:Nat),a=W∧k≤n∧i=int i64 k∧(l.take k).all f=true∧Ft w a
theorem rj{α:Type}{f:α→Bool}{l:List α}{k:Nat}{x:α}(a:l[k]?=some x)(h:(l.take k).all f=true)(b:f x=true):(l.take (k+1)).all f=true:=by
 rw[Fg,a,List.all_append,h];simp[b]
theorem rh{α:Type}{f:α→Bool}{l:List α}{k:Nat}{x:α}(a:l[k]?=some x)(b:f x=false):l.all f=false:=
 List.all_eq_false.2 ⟨x,EU a,by rw[b];decide⟩
def qj(nv:Int) (d:Nat) (f:ag→Bool):Prop:=∀(e:ag) (s:Value) (w:World),ep e→cu w (fun b=>b<w.heap.size) d e.kids s→
 Calls Tryz.prog 40 #[.agg #[int .u8 e.kind,int .u8 e.val.kind,int i64 e.val.num,.string e.val.text,int i64 e.var,int .u8 e.op,s],int i64 nv] w (ap (f e) w)
theorem tV(nv:Int)(d:Nat)(f:ag→Bool)(O:qj nv d f)(l:List ag)(v:Value)(w:World)(H:(ay d).row w (fun b=>b<w.heap.size) l v) :
  Calls Tryz.prog 41 #[v,int i64 nv] w (ap (l.all f) w):=by
 obtain⟨p,c,I⟩:=Rd.row_shape H;have u:=Rd.row_len H;subst I;obtain⟨n,J⟩:=zzy (l.length);have P:=Hd (fun W (V:Ft w W)=>Rd.row_below H (fun _ h=>h) V);obtain⟨res,j⟩:=zzy (l.all f);rw[j];rw[J]at P u ⊢;have K:=Hd J;have Q:=Hd j;have X:=Hd O;have Y:(n:Int)≤9223372036854775807:=by unfold maxLen at u;omega
 clear H J j O u
 go_enter Tryz.func41,Tryz.ntmps41
 go_wp2
 go_loopw [5] (DI f l w n) (fun i _=>n-(intOf i).toNat)
 case atStart=>exact⟨_,0,rfl,EM _,rfl,rfl,EB _ _⟩
 case round =>
  obtain⟨q,k,rfl,hk,rfl,r,B⟩:=hrel;have Z:(0:Int)≤k:=by omega
  have R:=Hd r;have C:=Hd B;clear r
  by_cases L:k<n
  ·have ad:(k:Int)<n:=by omega
   obtain⟨x,M⟩:∃x,l[k]?=some x:=⟨_,EE (by rw[K.o];exact L)⟩;have D:=Rd.row_at (P.o q B) M;rw[K.o]at D;obtain⟨b,off,cap,vs,N,_,_,af,_,E,a⟩:=D;injection N with e1 _ e3
   subst e1;subst e3;obtain⟨t,s,rfl,y⟩:=bZ.1 E;rw[cB]at a;have d0:q.cell? ⟨b,off+k*7,none⟩=some (int .u8 x.kind):=a 0 _ rfl;have d1:q.cell? ⟨b,off+k*7+1,none⟩=some (int .u8 x.val.kind):=a 1 _ rfl;have d2:q.cell? ⟨b,off+k*7+2,none⟩=some (int i64 x.val.num):=a 2 _ rfl;have d3:q.cell? ⟨b,off+k*7+3,none⟩=some (.string x.val.text):=a 3 _ rfl;have d4:q.cell? ⟨b,off+k*7+4,none⟩=some (int i64 x.var):=a 4 _ rfl;have d5:q.cell? ⟨b,off+k*7+5,none⟩=some (int .u8 x.op):=a 5 _ rfl;have d6:q.cell? ⟨b,off+k*7+6,none⟩=some s:=a 6 _ rfl;obtain⟨ps,cs,S⟩:=aI y;have A:=Hd (X.o x s q t (eh (fun b (h:b<w.heap.size)=>EF h B.size) y));have T:=Hd M;obtain⟨U,F⟩:=zzy (x.kids.length);rw[F]at S;subst S;clear E a y t M B F
   cases g:f x with
   | false =>
    rw[g]at A;have G:Hid (res=false):=Q.o.symm.trans (rh T.o g);clear g;go_wp2_with fail
    refine A.o.mono ?_;rintro e W2 ⟨rfl,m⟩;have z:=Hd (C.o.trans (m.mono C.o.size));clear m A d0 d1 d2 d3 d4 d5 d6;go_wp2_with fail
    go_ret;exact⟨by rw[G.o];rfl,z.o⟩
   | true =>
    rw[g]at A;have G:=Hd (rj T.o R.o g);clear g;go_wp2_with fail
    refine A.o.mono ?_;rintro e W2 ⟨rfl,m⟩;have z:=Hd (C.o.trans (m.mono C.o.size));clear m A d0 d1 d2 d3 d4 d5 d6;go_wp2_with fail
    exact⟨⟨_,k+1,rfl,by omega,by go_num,G.o,z.o⟩,by simp[intOf];omega⟩
  ·obtain rfl:k=n:=by omega
   have G:Hid (res=true):=by
    show _=_
    rw[←Q.o];have:=R.o
    rwa [ER (by rw[K.o];exact EA _)]at this
   clear B;go_wp2_with fail
   go_ret;exact⟨by rw[G.o];rfl,C.o⟩
theorem sX(nv:Int)(d:Nat)(v:∀d',d=d'+1→qj nv d' (bK nv d')):qj nv d (bK nv d):=by
 intro e s w a f;obtain⟨p,c,x⟩:=aI f;subst x
 by_cases g:e.kind=3
 ·have n:bK nv d e=(aS nv e&&(match d with|0=>true|d'+1=>e.kids.all (bK nv d'))):=by
   cases d with
   | zero=>show aS nv e=_;rw[Bool.and_true]
   | succ d=>rfl
  rw[n];obtain⟨i,o,er,j,es⟩:=e;obtain⟨k,l,m⟩:=o;have g:i=3:=g;subst g;refine Dv k l er j nv m es p es.length c w rfl _ fun q W r=>?_
  cases d with
  | zero=>exact absurd (by rw[show es=[] from f.1];rfl) q
  | succ d =>
   have f:(ay d).row w (fun b=>b<w.heap.size) es (.slice p es.length c):=f;exact tV nv d _ (v d rfl) es _ W (Rd.row_sub (fun b (y:b<w.heap.size)=>EF y r.size) (Rd.row_below f (fun _ h=>h) r))
 ·rw[vO g];obtain⟨i,o,er,j,es⟩:=e;obtain⟨k,l,m⟩:=o
  by_cases t:i=1
  ·subst t;exact yA k l er j nv m es p es.length c w rfl a.2.1.2.2
  by_cases u:i=2
  ·subst u;exact Cn k l er j nv m es p es.length c w rfl
  exact xX i k l er j nv m es p es.length c w rfl t u g
theorem oJ(nv:Int):∀d,qj nv d (bK nv d)
 | 0=>sX nv 0 (fun d' h=>by omega)
 | d+1=>sX nv (d+1) (fun d' h=>by
  obtain rfl:d'=d:=by omega
  exact oJ nv d')
theorem kC(nv:Int)(d:Nat)(l:List ag)(v:Value)(w:World)(a:(ay d).row w (fun b=>b<w.heap.size) l v) :
  Calls Tryz.prog 41 #[v,int i64 nv] w (ap (l.all (bK nv d)) w):=tV nv d _ (oJ nv d) l v w a
