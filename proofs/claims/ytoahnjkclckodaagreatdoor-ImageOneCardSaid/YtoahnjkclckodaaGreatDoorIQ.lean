/- Parts of one proof, joined; conditions stand in each theorem. -/
import Derived.Test.YtoahnjkclckodaaGreatDoorIA
import Derived.Test.YtoahnjkclckodaaGreatDoorIJ
import Derived.Test.YtoahnjkclckodaaGreatDoorIP
import Derived.Test.YtoahnjkclckodaaGreatDoorNO
import Derived.Test.YtoahnjkclckodaaGreatDoorIH
import Derived.Test.YtoahnjkclckodaaGreatDoorIK
open Bool renaming false→va
open Go renaming Value→tT,World→J
open Go.Value renaming func→z7,agg→xk,int→I,string→tS,slice→O,pointer→vv
open Go.IntKind renaming i64→U,u8→tF
open Go.Proofs.Tryz renaming prog→vo
open Go.Obj renaming cells→r9
open Option renaming some→A,none→Y
namespace Go.Proofs.YtoahnjkclckodaaGreatDoor
set_option maxHeartbeats 4000000
set_option maxRecDepth 100000
open Go.RowKit
theorem sL(t:ByteArray):(bW t).length=4+t.size:=by
 unfold bW;rw[FT,aU,F6];rfl
theorem Bn{s:WSt}(a:(cE s).2.2=va):(13+(cE s).1.h.size)+13*(cE s).2.1.length≤13*s.1.length:=by
 unfold cE at a ⊢;dsimp only at a ⊢
 by_cases b:(aD 1 s).1=1
 ·simp only[oE b]at a ⊢;obtain⟨a1,a2⟩:=dp (k:=8) (by omega) a;obtain⟨g,c⟩:=dp (k:=1) (by omega) a1;have d:=o8 List.length a2;have e:=o8 List.length c;rw[FT,aU]at d e;rw[a];simp only[F4,o1];have:(⟨#[]⟩:ByteArray).size=0:=rfl;omega
 ·by_cases f:(aD 1 s).1=2
  ·simp only[oB b,oE f]at a ⊢;obtain⟨a1,a2⟩:=kr a;obtain⟨g,c⟩:=dp (k:=1) (by omega) a1;have d:=o8 List.length a2;have e:=o8 List.length c;rw[FT,sL]at d;rw[FT,aU]at e;rw[a];simp only[F4,o1];omega
  ·simp only[oB b,oB f]at a
   cases a
theorem tw{α:Type}{one:WSt→α×WSt}{g:α→List UInt8}{z:α→Nat}(b:∀s,(one s).2.2=va→s.2=va∧g (one s).1++(one s).2.1=s.1)(c:∀s,(one s).2.2=va→z (one s).1+13*(one s).2.1.length≤13*s.1.length) :
  ∀(n:Nat) (s:WSt),(cK one n s).2.2=va→((cK one n s).1.map z).sum+13*(cK one n s).2.1.length≤13*s.1.length
 | 0,s,h=>by simp[cK]
 | n+1,s,h=>by
  unfold cK at h ⊢
  split at h
  ·rename_i a;rw[a]at h;cases h
  ·rename_i a
   rw[oB a];have d:=tw b c n (one s).2 h;have e:=c s (lD b n (one s).2 h).1;simp only[List.map_cons,List.sum_cons];omega
theorem rA{α:Type}{one:WSt→α×WSt}{g:α→List UInt8}{z:α→Nat}(b:∀s,(one s).2.2=va→s.2=va∧g (one s).1++(one s).2.1=s.1)(c:∀s,(one s).2.2=va→z (one s).1+13*(one s).2.1.length≤13*s.1.length){s:WSt}(a:(eE one s).2.2=va) :
  52+((eE one s).1.map z).sum+13*(eE one s).2.1.length≤13*s.1.length:=by
 unfold eE at a ⊢;dsimp only at a ⊢;have f:=tw b c _ _ a;obtain⟨h,d⟩:=lJ (lD b _ _ a).1;have e:=o8 List.length d;rw[FT,aU]at e;rw[a];simp only[F4,o1];omega
theorem ko{k:Nat}{s:WSt}(a:k≤8)(b:(aD k s).2.2=va):s.2=va∧k+(aD k s).2.1.length=s.1.length:=by
 obtain⟨c,d⟩:=dp a b;have e:=o8 List.length d;rw[FT,aU]at e;exact⟨c,e⟩
theorem rh{s:WSt}(a:(gr s).2.2=va):52+szV (gr s).1+13*(gr s).2.1.length≤13*s.1.length:=rA (g:=gB) (z:=fun v=>13+v.h.size) (fun _ h=>sV h) (fun _ h=>Bn h) a
theorem qW{s:WSt}(a:(cI s).2.2=va):szF (cI s).1+13*(cI s).2.1.length≤13*s.1.length:=by
 unfold cI at a ⊢;dsimp only at a ⊢;have d:=rh a;obtain⟨b,_⟩:=kH a;obtain⟨c,e⟩:=ko (k:=8) (by omega) b;obtain⟨f,g⟩:=ko (k:=8) (by omega) c;rw[a];simp only[F4,o1];unfold szF;dsimp only;omega
theorem vS{s:WSt}(a:(eq s).2.2=va):szR (eq s).1+13*(eq s).2.1.length≤13*s.1.length:=by
 unfold eq at a ⊢;dsimp only at a ⊢;have e:=rh a;obtain⟨b,_⟩:=kH a;have f:=rA (g:=bJ) (z:=szF) (fun _ h=>kp h) (fun _ h=>qW h) b;obtain⟨c,_⟩:=mK (g:=bJ) (fun _ h=>kp h) b;obtain⟨d,i⟩:=ko (k:=8) (by omega) c;obtain⟨j,l⟩:=ko (k:=8) (by omega) d;rw[a];simp only[F4,o1];unfold szR;dsimp only;omega
theorem qB{α:Type}{one:ISt→α×ISt}{g:α→List UInt8}{z:α→Nat}(b:∀s,ok2 (one s).2→ok2 s∧g (one s).1++(one s).2.1.1=s.1.1)(c:∀s,ok2 (one s).2→z (one s).1+13*(one s).2.1.1.length≤13*s.1.1.length) :
  ∀(n:Nat) (s:ISt),ok2 (cG one n s).2→((cG one n s).1.map z).sum+13*(cG one n s).2.1.1.length≤13*s.1.1.length
 | 0,s,h=>by simp[cG]
 | n+1,s,h=>by
  unfold cG at h ⊢
  split at h
  ·rename_i a
   have:=h.1;rw[show (([(one s).1],(one s).2):List α×ISt).2=(one s).2 from rfl,a]at this
   cases this
  ·rename_i a
   rw[oB a];have d:=qB b c n (one s).2 h;have e:=c s (kD b n (one s).2 h).1;simp only[List.map_cons,List.sum_cons];omega
theorem zC{most:Int}{s:ISt}(a:ok2 (fq most s).2):ok2 s∧8+(fq most s).2.1.1.length=s.1.1.length:=by
 obtain⟨b,c⟩:=mD a;have e:=o8 List.length c;rw[FT,aU]at e;exact⟨b,e⟩
theorem lV{α:Type}{one:ISt→α×ISt}{g:α→List UInt8}{z:α→Nat}(b:∀s,ok2 (one s).2→ok2 s∧g (one s).1++(one s).2.1.1=s.1.1)(c:∀s,ok2 (one s).2→z (one s).1+13*(one s).2.1.1.length≤13*s.1.1.length){most:Int}{s:ISt}(a:ok2 (dC one most s).2) :
  ((dC one most s).1.map z).sum+13*(dC one most s).2.1.1.length≤13*s.1.1.length:=by
 unfold dC at a ⊢;have d:=qB b c _ _ a;obtain⟨_,e⟩:=zC (kD b _ _ a).1;omega
theorem zm{s:ISt}(a:ok2 (fp s).2):szT (fp s).1+13*(fp s).2.1.1.length≤13*s.1.1.length:=by
 obtain⟨_,h⟩:=ky a;have e:=o8 List.length h;rw[FT,mo]at e;omega
theorem xh{s:ISt}(a:ok2 (dV s).2):szS (dV s).1+13*(dV s).2.1.1.length≤13*s.1.1.length:=by
 unfold dV at a ⊢;dsimp only at a ⊢;have h:=vS a.1;obtain⟨b,_⟩:=pH a.1;obtain⟨c,d⟩:=eT (s:=(bT s).2) ⟨b,a.2⟩;obtain⟨i,e⟩:=eT c;have f:=o8 List.length d;have g:=o8 List.length e;rw[FT,aU]at f g;unfold szS;dsimp only;omega
theorem yd{s:ISt}(a:ok2 (dT s).2):szM (dT s).1+13*(dT s).2.1.1.length≤60+13*s.1.1.length:=by
 unfold dT at a ⊢;dsimp only at a ⊢;have k:=lV (g:=fH) (z:=szS) (fun _ h=>lL h) (fun _ h=>xh h) a;obtain⟨l,_⟩:=gv (g:=fH) (fun _ h=>lL h) a;obtain⟨d,m⟩:=eT l;have z2:=lV (g:=fR) (z:=szT) (fun _ h=>ky h) (fun _ h=>zm h) d;obtain⟨e,_⟩:=gv (g:=fR) (fun _ h=>ky h) d;have z3:=lV (g:=bJ) (z:=szF) (fun _ h=>lK h) (fun _ h=>qW h.1) e;obtain⟨n,_⟩:=gv (g:=bJ) (fun _ h=>lK h) e;obtain⟨o,b⟩:=eT (s:=((ez s.1).2,s.2)) n;obtain⟨p,c⟩:=kr o.1;have f:=o8 List.length m;have i:=o8 List.length b;have j:=o8 List.length c;rw[FT,aU]at f i;rw[FT,sL]at j;unfold szM;dsimp only at f i j k z2 z3 ⊢;omega
theorem yW{m:aQ}{s:fo}(a:s∈m.g):szR s.a≤szM m:=by
 obtain⟨i,hi⟩:=List.getElem?_of_mem a;have:=kP szS m.g i s hi;have b:szR s.a≤szS s:=by unfold szS;omega
 unfold szM;omega
theorem pP(a b c:tT)(f0 f1 f2:Fn)(p:Array tT)(w:J)(d:a=z7 f0 p #[])(e:b=z7 f1 p #[])(f:c=z7 f2 p #[]) :
  (Instr.index 70 (xk #[a,b,c]) (I U 0)).run vo w=.ok a w∧(Instr.index 70 (xk #[a,b,c]) (I U 1)).run vo w=.ok b w∧(Instr.index 70 (xk #[a,b,c]) (I U 2)).run vo w=.ok c w:=by
 have hu:=Tryz.underlying70;subst d e f;refine⟨?_,?_,?_⟩<;>simp[Instr.index,run_underlying hu,asIntOf,go_sem,part]
def qw(R:de) (m:aQ):Nat→Bool
 | 0=>l5 R m.a
 | 1=>l9 R m
 | _=>jI m
theorem Cw(R:de)(m:aQ):([0,1,2]:List Nat).all (qw R m)=(l5 R m.a&&l9 R m&&jI m):=by simp[qw,Bool.and_assoc]
theorem jY{m:aQ}{vs:List tT}{w:J}(hm:bG.at_ w (fun b=>b<w.heap.size) m vs)(ht:aB w)(H:szM m≤140737488355328):Calls vo 8 #[xk vs.toArray] w (fun e w'=>e=Ending.returned (Value.bool (jg cx m))∧Gl w w'):=by
 have b2:∀(fn:Fn) (first cap:Array tT) (w:J),(Instr.makeFunc fn first cap).run vo w=.ok (z7 fn first cap) w:=fun _ _ _ _=>rfl
 obtain⟨bt,bB,bR,sf,st,ss,b0,L,M,N⟩:=eY.1 hm;subst b0;obtain⟨pf,cf,P⟩:=Rd.q L;obtain⟨pt,ct,Q⟩:=Rd.q M;obtain⟨ps,cs,S⟩:=Rd.q N;obtain⟨nf,T⟩:=zzy (m.a.length);obtain⟨nt,V⟩:=zzy (m.e.length);obtain⟨ns,X⟩:=zzy (m.g.length);rw[T]at P;rw[V]at Q;rw[X]at S;subst P;subst Q;subst S;obtain⟨tx,ad⟩:=zzy (m.c);obtain⟨nx,af⟩:=zzy (m.d);obtain⟨mn,aq⟩:=zzy (m.f);rw[ad,af,aq]at hm ⊢;obtain⟨W1,C⟩:=zzx (w.alloc (r9 #[tS tx,I U nx,O pf nf cf,O pt nt ct,O ps ns cs,I U mn] 28));have v:Gl w W1:=by rw[C];exact (Fz _ w).alloc (Fy _) _
 have ar:W1.heap[w.heap.size]?=A (r9 #[tS tx,I U nx,O pf nf cf,O pt nt ct,O ps ns cs,I U mn] 28 (0,0)):=by rw[C];exact oA w _
 have a6:=Hd (Af (w:=W1) (bG.D (fun b (h:b<w.heap.size)=>FG h v.size) (bG.t (fun b (h:b<w.heap.size) o ho=>(v.block b h).trans ho) hm)) (ht.C v));have b1:=Hd (fun s (hs:s∈m.g)=>FH (yW hs) H);obtain⟨ba,bb⟩:=zz2 v C;obtain⟨r,hr⟩:=zzy (jg cx m);rw[hr];have HR:=Hd hr;obtain⟨⟨a0,a1,a2,a3,a4,a5⟩,_⟩:=aH ar;clear hm ht H bt bB bR L M N T V X ad af aq v C ar hr
 go_enter Tryz.func8,Tryz.ntmps8
 go_upto_region 1 with fail
 change Code.wp _ _ _ _ (w.alloc (r9 #[tS tx,I U nx,O pf nf cf,O pt nt ct,O ps ns cs,I U mn] 28));rw[←bb.o];clear bb;go_wp2_with fail
 refine a6.o.mono ?_;rintro e W2 ⟨bd,K,ok,rfl,j⟩;have c:=Hd (ba.o.trans (bd.mono ba.o.size));have u:ok=va→r=false:=fun h=>by
  rw[←HR.o];unfold jg;rcases j with ⟨er,D,_⟩|⟨R,D,h2,_⟩
  ·rw[D]
  ·rw[D];dsimp only;rw[←h2,h];rfl
 have y:ok=true→∃R,jh W2 K m R∧r=([0,1,2]:List Nat).all (qw R m):=fun h=>by
  rcases j with ⟨er,_,D⟩|⟨R,D,h2,h3⟩
  ·rw[h]at D;cases D
  ·refine⟨R,h3 h,?_⟩;rw[Cw,←HR.o];unfold jg;rw[D];dsimp only;rw[←h2,h,Bool.true_and]
 clear j bd a6 a0 a1 a2 a3 a4 a5
 cases ok with
 | false =>
  have q:=Hd (u Z);clear u y;go_wp2_with fail
  go_ret;exact⟨by rw[q.o];rfl,c.o⟩
 | true =>
  obtain⟨R,hL,bk⟩:=y Z;have HL:=Hd (fun W (hW:Gl W2 W)=>hL.C hW);have bl:=Hd bk;clear u y hL bk;go_wp2_with fail
  go_loopw [21] (ee W2 3 (qw R m) ([0,1,2]:List Nat)) (fun i _=>3-(intOf i).toNat)
  case atStart=>exact ee.start
  case round =>
   obtain⟨G,k,rfl,hk,rfl,E,u⟩:=hrel;obtain⟨bm,t⟩:=zz2 u E;clear u;have F:=Hd (fun W (hW:Gl W2 W) (hk:k<3) h=>ee.on (p:=qw R m) (l:=[0,1,2]) (x:=k) (W:=W) hW hk bm.o (by rcases k with _|_|_|k<;>first|rfl|omega) h)
   have z:=Hd (fun (hk:k<3) h=>bl.o.trans (kM (p:=qw R m) (l:=[0,1,2]) (k:=k) (x:=k) (by rcases k with _|_|_|k<;>first|rfl|omega) h))
   have bn:=Hd (fun (h:k=3)=>bl.o.trans (jC (p:=qw R m) (l:=[0,1,2]) (n:=k) (by rw[h];rfl) bm.o));rcases k with _|_|_|_|k
   ·have bq:=(pP (z7 (.func 25) #[vv (A ⟨K,0,Y⟩)] #[]) (z7 (.func 26) #[vv (A ⟨K,0,Y⟩)] #[]) (z7 (.func 27) #[vv (A ⟨K,0,Y⟩)] #[]) _ _ _ #[vv (A ⟨K,0,Y⟩)] G Z Z Z).1;have B:=Hd (zA (HL.o G E));obtain⟨b,a⟩:=zzy (l5 R m.a);rw[a]at B;have d:=Hd a;clear E a;go_wp2_with fail
    refine B.o.mono ?_;rintro e W4 ⟨rfl,f⟩;have g:=Hd (t.o.trans (f.mono t.o.size));clear f B
    cases b with
    | true =>
     have q:=Hd (F.o W4 g.o (by decide) d.o);go_wp2_with fail
     exact q.o
    | false =>
     have q:=Hd (z.o (by decide) d.o);go_wp2_with fail
     go_ret;exact⟨by rw[q.o];rfl,c.o.trans (g.o.mono c.o.size)⟩
   ·have bq:=(pP (z7 (.func 25) #[vv (A ⟨K,0,Y⟩)] #[]) (z7 (.func 26) #[vv (A ⟨K,0,Y⟩)] #[]) (z7 (.func 27) #[vv (A ⟨K,0,Y⟩)] #[]) _ _ _ #[vv (A ⟨K,0,Y⟩)] G Z Z Z).2.1;have B:=Hd (Ax (HL.o G E));obtain⟨b,a⟩:=zzy (l9 R m);rw[a]at B;have d:=Hd a;clear E a;go_wp2_with fail
    refine B.o.mono ?_;rintro e W4 ⟨rfl,f⟩;have g:=Hd (t.o.trans (f.mono t.o.size));clear f B
    cases b with
    | true =>
     have q:=Hd (F.o W4 g.o (by decide) d.o);go_wp2_with fail
     exact q.o
    | false =>
     have q:=Hd (z.o (by decide) d.o);go_wp2_with fail
     go_ret;exact⟨by rw[q.o];rfl,c.o.trans (g.o.mono c.o.size)⟩
   ·have bq:=(pP (z7 (.func 25) #[vv (A ⟨K,0,Y⟩)] #[]) (z7 (.func 26) #[vv (A ⟨K,0,Y⟩)] #[]) (z7 (.func 27) #[vv (A ⟨K,0,Y⟩)] #[]) _ _ _ #[vv (A ⟨K,0,Y⟩)] G Z Z Z).2.2;have B:=Hd (vD (HL.o G E) b1.o);obtain⟨b,a⟩:=zzy (jI m);rw[a]at B;have d:=Hd a;clear E a;go_wp2_with fail
    refine B.o.mono ?_;rintro e W4 ⟨rfl,f⟩;have g:=Hd (t.o.trans (f.mono t.o.size));clear f B
    cases b with
    | true =>
     have q:=Hd (F.o W4 g.o (by decide) d.o);go_wp2_with fail
     exact q.o
    | false =>
     have q:=Hd (z.o (by decide) d.o);go_wp2_with fail
     go_ret;exact⟨by rw[q.o];rfl,c.o.trans (g.o.mono c.o.size)⟩
   ·have q:=Hd (bn.o Z);clear E;go_wp2_with fail
    go_ret;exact⟨by rw[q.o];rfl,c.o.trans (t.o.mono c.o.size)⟩
   ·omega
def okS:aQ→Bool:=jg cx
def bZ:aQ:=⟨⟨#[]⟩,1,[],[],[],1⟩
def qS:aQ:=⟨⟨#[]⟩,0,[],[],[],1⟩
def lX:bj:=⟨1,1,⟨#[]⟩⟩
def pN:bj:=⟨2,0,⟨#[98,101,101]⟩⟩
def li:ByteArray:=⟨#[102,97,99,116,32,104,105,118,101,40,97,44,32,98,41,59,32,102,97,99,116,32,110,111,110,101,40,41,59,32,114,117,108,101,32,114,32,123,32,104,105,118,101,40,63,120,44,32,95,41,59,32,110,111,116,32,110,111,110,101,40,41,59,32,116,101,115,116,32,63,120,32,60,32,57,59,32,61,62,32,97,115,115,101,114,116,32,110,111,110,101,40,41,59,32,125,32,114,117,108,101,32,113,32,123,32,110,111,110,101,40,41,59,32,104,105,118,101,40,63,120,44,32,63,121,41,59,32,104,105,118,101,40,63,121,44,32,63,120,41,59,32,61,62,32,115,97,121,32,63,120,59,32,125,32,114,117,108,101,32,122,32,123,32,61,62,32,104,97,108,116,59,32,125]⟩
def rr:List am:=[⟨2,0,[lX,pN]⟩,⟨5,1,[]⟩,⟨8,0,[pN,lX]⟩]
def Ao:List jz:=[⟨0,[2]⟩,⟨1,[5,2,8]⟩,⟨2,[]⟩]
def DG:List fo:=[⟨1,3,⟨0,4,[],[lX]⟩⟩,⟨6,0,⟨300,0,rr,[]⟩⟩]
def a9:aQ:=⟨li,9,rr,Ao,DG,7⟩
theorem yz:okS bZ=true:=by kernel_rfl
theorem Dv:okS qS=false:=by kernel_rfl
theorem xw:okS a9=true:=by kernel_rfl
theorem wB:gI okS bZ=(dW bZ,0):=by unfold gI;rw[yz];rfl
theorem AP:gI okS qS=([],4):=by unfold gI;rw[Dv];rfl
theorem CQ:gI okS a9=(dW a9,0):=by unfold gI;rw[xw];rfl
theorem wM:lZ okS (dW bZ)=(bZ,0):=by kernel_rfl
theorem Do:lZ okS (dW a9)=(a9,0):=by kernel_rfl
theorem jV:(dW bZ).length=44:=by kernel_rfl
theorem zD:(dW bZ)[11]?=A 1:=by kernel_rfl
theorem za:(dW bZ)[35]?=A 1:=by kernel_rfl
theorem vF:(dW a9).length≤20000:=by decide +kernel
theorem ym:szM bZ≤140737488355328:=by decide +kernel
theorem Cb:szM qS≤140737488355328:=by decide +kernel
theorem xH:szM a9≤140737488355328:=by decide +kernel
def ef:J→List Obj→J
 | w,[]=>w
 | w,o::l=>ef (w.alloc o) l
theorem kW:∀(l:List Obj) (w:J),Gl w (ef w l)
 | [],w=>Fz _ _
 | o::l,w=>by
  have a:Gl w (w.alloc o):=(Fz _ w).alloc (Fy _) _;exact a.trans ((kW l (w.alloc o)).mono a.size)
theorem dx:∀(l:List Obj) (w:J) (i:Nat) (o:Obj),l[i]?=A o→(ef w l).heap[w.heap.size+i]?=A o
 | [],_,i,o,h=>by simp at h
 | p::l,w,0,o,h=>by
  have h:p=o:=by simpa using h
  subst h;have a:(w.alloc p).heap[w.heap.size]?=A p:=oA w p;exact aa (kW l (w.alloc p)) a (Fx.1 a).1
 | p::l,w,i+1,o,h=>by
  have b:=dx l (w.alloc p) i o (by simpa using h);rw[o5]at b;rw[show w.heap.size+(i+1)=w.heap.size+1+i by omega];exact b
theorem kb{α:Type}{r:Rd α}{w:J}{F:Nat→Prop}{xs:List α}{us:List tT}{b n:Nat}{ty:TypeId}(a:w.heap[b]?=A (r9 us.toArray ty (0,0)))(c:r.z w F xs us)(hF:F b)(d:xs.length=n)(e:xs≠[])(f:n≤maxLen):r.h w F xs (O (A ⟨b,0,Y⟩) n n):=by
 subst d;refine Or.inr ⟨b,0,xs.length,e,hF,(Fx.1 a).1,Fy _,f,Z,fun i x hi=>?_⟩;obtain⟨vs,g,h⟩:=c.2 i x hi;exact⟨vs,g,fun m u hu=>by rw[Gk _ _ _ _ _ _ a,Nat.zero_add];simpa using h m u hu⟩
theorem wX(w:J):Calls vo 14 #[] w (fun e w'=>∃vs,e=Ending.returned (xk vs.toArray)∧Gl w w'∧bG.at_ w' (fun b=>b<w'.heap.size) bZ vs):=by
 go_enter Tryz.func14,Tryz.ntmps14
 go_wp2_with fail
 refine oG Tryz.results14 (by simp[go_sem]) (by simp[go_sem]) Z (oA w _) ⟨[tS ⟨#[]⟩,I U 1,O Y 0 0,O Y 0 0,O Y 0 0,I U 1],Z,(Fz _ w).alloc (Fy _) _,?_⟩;exact eY.2 ⟨FR _,(by decide:(-9223372036854775808:Int)≤1∧(1:Int)<9223372036854775808),(by decide:(-9223372036854775808:Int)≤1∧(1:Int)<9223372036854775808),_,_,_,Z,Rd.th,Rd.th,Rd.th⟩
theorem Bw{w W:J}(a:W=ef w [r9 #[tS li,I U 9,O (A ⟨w.heap.size+1+1+1+1+1,0,Y⟩) 3 3,O (A ⟨w.heap.size+1+1+1+1+1+1+1+1,0,Y⟩) 3 3,O (A ⟨w.heap.size+1+1+1+1+1+1+1+1+1+1+1,0,Y⟩) 2 2,I U 7] 28,r9 #[I tF 1,I U 1,tS ⟨#[]⟩] 88,r9 #[I tF 2,I U 0,tS ⟨#[98,101,101]⟩] 88,r9 #[I tF 1,I U 1,tS ⟨#[]⟩,I tF 2,I U 0,tS ⟨#[98,101,101]⟩] 88,r9 #[I tF 2,I U 0,tS ⟨#[98,101,101]⟩,I tF 1,I U 1,tS ⟨#[]⟩] 88,r9 #[I U 2,I U 0,O (A ⟨w.heap.size+1+1+1,0,Y⟩) 2 2,I U 5,I U 1,O Y 0 0,I U 8,I U 0,O (A ⟨w.heap.size+1+1+1+1,0,Y⟩) 2 2] 47,r9 #[I U 2] 3,r9 #[I U 5,I U 2,I U 8] 3,r9 #[I U 0,O (A ⟨w.heap.size+1+1+1+1+1+1,0,Y⟩) 1 1,I U 1,O (A ⟨w.heap.size+1+1+1+1+1+1+1,0,Y⟩) 3 3,I U 2,O Y 0 0] 50,r9 #[tS li,I U 9,O (A ⟨w.heap.size+1+1+1+1+1,0,Y⟩) 3 3,O (A ⟨w.heap.size+1+1+1+1+1+1+1+1,0,Y⟩) 3 3] 25,r9 #[I tF 1,I U 1,tS ⟨#[]⟩] 88,r9 #[I U 1,I U 3,I U 0,I U 4,O Y 0 0,O (A ⟨w.heap.size+1+1+1+1+1+1+1+1+1+1,0,Y⟩) 1 1,I U 6,I U 0,I U 300,I U 0,O (A ⟨w.heap.size+1+1+1+1+1,0,Y⟩) 3 3,O Y 0 0] 54]) :
  bG.at_ W (fun b=>b<W.heap.size) a9 [tS li,I U 9,O (A ⟨w.heap.size+1+1+1+1+1,0,Y⟩) 3 3,O (A ⟨w.heap.size+1+1+1+1+1+1+1+1,0,Y⟩) 3 3,O (A ⟨w.heap.size+1+1+1+1+1+1+1+1+1+1+1,0,Y⟩) 2 2,I U 7]:=by
 have x:W.heap[w.heap.size]?=A (r9 #[tS li,I U 9,O (A ⟨w.heap.size+1+1+1+1+1,0,Y⟩) 3 3,O (A ⟨w.heap.size+1+1+1+1+1+1+1+1,0,Y⟩) 3 3,O (A ⟨w.heap.size+1+1+1+1+1+1+1+1+1+1+1,0,Y⟩) 2 2,I U 7] 28 (0,0)):=by rw[a];exact dx _ w 0 _ Z
 have y:W.heap[w.heap.size+1]?=A (r9 #[I tF 1,I U 1,tS ⟨#[]⟩] 88 (0,0)):=by rw[a];exact dx _ w 1 _ Z
 have z:W.heap[w.heap.size+1+1]?=A (r9 #[I tF 2,I U 0,tS ⟨#[98,101,101]⟩] 88 (0,0)):=by rw[a];exact dx _ w 2 _ Z
 have i:W.heap[w.heap.size+1+1+1]?=A (r9 #[I tF 1,I U 1,tS ⟨#[]⟩,I tF 2,I U 0,tS ⟨#[98,101,101]⟩] 88 (0,0)):=by rw[a];exact dx _ w 3 _ Z
 have j:W.heap[w.heap.size+1+1+1+1]?=A (r9 #[I tF 2,I U 0,tS ⟨#[98,101,101]⟩,I tF 1,I U 1,tS ⟨#[]⟩] 88 (0,0)):=by rw[a];exact dx _ w 4 _ Z
 have k:W.heap[w.heap.size+1+1+1+1+1]?=A (r9 #[I U 2,I U 0,O (A ⟨w.heap.size+1+1+1,0,Y⟩) 2 2,I U 5,I U 1,O Y 0 0,I U 8,I U 0,O (A ⟨w.heap.size+1+1+1+1,0,Y⟩) 2 2] 47 (0,0)):=by rw[a];exact dx _ w 5 _ Z
 have l:W.heap[w.heap.size+1+1+1+1+1+1]?=A (r9 #[I U 2] 3 (0,0)):=by rw[a];exact dx _ w 6 _ Z
 have m:W.heap[w.heap.size+1+1+1+1+1+1+1]?=A (r9 #[I U 5,I U 2,I U 8] 3 (0,0)):=by rw[a];exact dx _ w 7 _ Z
 have n:W.heap[w.heap.size+1+1+1+1+1+1+1+1]?=A (r9 #[I U 0,O (A ⟨w.heap.size+1+1+1+1+1+1,0,Y⟩) 1 1,I U 1,O (A ⟨w.heap.size+1+1+1+1+1+1+1,0,Y⟩) 3 3,I U 2,O Y 0 0] 50 (0,0)):=by rw[a];exact dx _ w 8 _ Z
 have B:W.heap[w.heap.size+1+1+1+1+1+1+1+1+1]?=A (r9 #[tS li,I U 9,O (A ⟨w.heap.size+1+1+1+1+1,0,Y⟩) 3 3,O (A ⟨w.heap.size+1+1+1+1+1+1+1+1,0,Y⟩) 3 3] 25 (0,0)):=by rw[a];exact dx _ w 9 _ Z
 have c:W.heap[w.heap.size+1+1+1+1+1+1+1+1+1+1]?=A (r9 #[I tF 1,I U 1,tS ⟨#[]⟩] 88 (0,0)):=by rw[a];exact dx _ w 10 _ Z
 have d:W.heap[w.heap.size+1+1+1+1+1+1+1+1+1+1+1]?=A (r9 #[I U 1,I U 3,I U 0,I U 4,O Y 0 0,O (A ⟨w.heap.size+1+1+1+1+1+1+1+1+1+1,0,Y⟩) 1 1,I U 6,I U 0,I U 300,I U 0,O (A ⟨w.heap.size+1+1+1+1+1,0,Y⟩) 3 3,O Y 0 0] 54 (0,0)):=by rw[a];exact dx _ w 11 _ Z
 clear a;have lt:∀{b:Nat} {o:Obj},W.heap[b]?=A o→b<W.heap.size:=fun h=>(Fx.1 h).1
 have e:=(eh.2 ⟨Z,(by decide:(0:Int)≤1∧(1:Int)<256),(by decide:(-9223372036854775808:Int)≤1∧(1:Int)<9223372036854775808),FR _⟩:bL.at_ W (fun b=>b<W.heap.size) lX [I tF 1,I U 1,tS ⟨#[]⟩]);have p:=(eh.2 ⟨Z,(by decide:(0:Int)≤2∧(2:Int)<256),(by decide:(-9223372036854775808:Int)≤0∧(0:Int)<9223372036854775808),(by decide +kernel:(⟨#[98,101,101]⟩:ByteArray).size≤maxLen)⟩:bL.at_ W (fun b=>b<W.heap.size) pN [I tF 2,I U 0,tS ⟨#[98,101,101]⟩]);have r:bL.h W (fun b=>b<W.heap.size) [lX,pN] (O (A ⟨w.heap.size+1+1+1,0,Y⟩) 2 2):=kb i (Rd.sI (Rd.sI Rd.tk e) p) (lt i) Z (by decide) (by decide +kernel);have r4:bL.h W (fun b=>b<W.heap.size) [pN,lX] (O (A ⟨w.heap.size+1+1+1+1,0,Y⟩) 2 2):=kb j (Rd.sI (Rd.sI Rd.tk p) e) (lt j) Z (by decide) (by decide +kernel);have f:bL.h W (fun b=>b<W.heap.size) [lX] (O (A ⟨w.heap.size+1+1+1+1+1+1+1+1+1+1,0,Y⟩) 1 1):=kb c (Rd.sI Rd.tk e) (lt c) Z (by decide) (by decide +kernel);have q:aC.h W (fun b=>b<W.heap.size) rr (O (A ⟨w.heap.size+1+1+1+1+1,0,Y⟩) 3 3):=kb k (Rd.sI (Rd.sI (Rd.sI Rd.tk (bY.2 ⟨(by decide:(-9223372036854775808:Int)≤2∧(2:Int)<9223372036854775808),(by decide:(-9223372036854775808:Int)≤0∧(0:Int)<9223372036854775808),_,Z,r⟩:aC.at_ W (fun b=>b<W.heap.size) ⟨2,0,[lX,pN]⟩ [I U 2,I U 0,O (A ⟨w.heap.size+1+1+1,0,Y⟩) 2 2])) (bY.2 ⟨(by decide:(-9223372036854775808:Int)≤5∧(5:Int)<9223372036854775808),(by decide:(-9223372036854775808:Int)≤1∧(1:Int)<9223372036854775808),_,Z,Rd.th⟩:aC.at_ W (fun b=>b<W.heap.size) ⟨5,1,[]⟩ [I U 5,I U 1,O Y 0 0])) (bY.2 ⟨(by decide:(-9223372036854775808:Int)≤8∧(8:Int)<9223372036854775808),(by decide:(-9223372036854775808:Int)≤0∧(0:Int)<9223372036854775808),_,Z,r4⟩:aC.at_ W (fun b=>b<W.heap.size) ⟨8,0,[pN,lX]⟩ [I U 8,I U 0,O (A ⟨w.heap.size+1+1+1+1,0,Y⟩) 2 2])) (lt k) Z (by decide) (by decide +kernel);have s:Rd.int.h W (fun b=>b<W.heap.size) [2] (O (A ⟨w.heap.size+1+1+1+1+1+1,0,Y⟩) 1 1):=kb l (Rd.sI Rd.tk (⟨Z,(by decide:(-9223372036854775808:Int)≤2∧(2:Int)<9223372036854775808)⟩:Rd.int.at_ W (fun b=>b<W.heap.size) 2 [I U 2])) (lt l) Z (by decide) (by decide +kernel);have t:Rd.int.z W (fun b=>b<W.heap.size) ([]++[5]++[2]++[8]) ([]++[I U 5]++[I U 2]++[I U 8]):=(Rd.sI (Rd.sI (Rd.sI Rd.tk (⟨Z,(by decide:(-9223372036854775808:Int)≤5∧(5:Int)<9223372036854775808)⟩:Rd.int.at_ W (fun b=>b<W.heap.size) 5 [I U 5])) (⟨Z,(by decide:(-9223372036854775808:Int)≤2∧(2:Int)<9223372036854775808)⟩:Rd.int.at_ W (fun b=>b<W.heap.size) 2 [I U 2])) (⟨Z,(by decide:(-9223372036854775808:Int)≤8∧(8:Int)<9223372036854775808)⟩:Rd.int.at_ W (fun b=>b<W.heap.size) 8 [I U 8]));have u:Rd.int.h W (fun b=>b<W.heap.size) [5,2,8] (O (A ⟨w.heap.size+1+1+1+1+1+1+1,0,Y⟩) 3 3):=kb m t (lt m) Z (by decide) (by decide +kernel);have v:dA.h W (fun b=>b<W.heap.size) Ao (O (A ⟨w.heap.size+1+1+1+1+1+1+1+1,0,Y⟩) 3 3):=kb n (Rd.sI (Rd.sI (Rd.sI Rd.tk (hH.2 ⟨(by decide:(-9223372036854775808:Int)≤0∧(0:Int)<9223372036854775808),_,Z,s⟩:dA.at_ W (fun b=>b<W.heap.size) ⟨0,[2]⟩ [I U 0,O (A ⟨w.heap.size+1+1+1+1+1+1,0,Y⟩) 1 1])) (hH.2 ⟨(by decide:(-9223372036854775808:Int)≤1∧(1:Int)<9223372036854775808),_,Z,u⟩:dA.at_ W (fun b=>b<W.heap.size) ⟨1,[5,2,8]⟩ [I U 1,O (A ⟨w.heap.size+1+1+1+1+1+1+1,0,Y⟩) 3 3])) (hH.2 ⟨(by decide:(-9223372036854775808:Int)≤2∧(2:Int)<9223372036854775808),_,Z,Rd.th⟩:dA.at_ W (fun b=>b<W.heap.size) ⟨2,[]⟩ [I U 2,O Y 0 0])) (lt n) Z (by decide) (by decide +kernel);have g:dX.h W (fun b=>b<W.heap.size) DG (O (A ⟨w.heap.size+1+1+1+1+1+1+1+1+1+1+1,0,Y⟩) 2 2):=kb d (Rd.sI (Rd.sI Rd.tk (iv.2 ⟨(by decide:(-9223372036854775808:Int)≤1∧(1:Int)<9223372036854775808),(by decide:(-9223372036854775808:Int)≤3∧(3:Int)<9223372036854775808),_,Z,db.2 ⟨(by decide:(-9223372036854775808:Int)≤0∧(0:Int)<9223372036854775808),(by decide:(-9223372036854775808:Int)≤4∧(4:Int)<9223372036854775808),_,_,Z,Rd.th,f⟩⟩:dX.at_ W (fun b=>b<W.heap.size) ⟨1,3,⟨0,4,[],[lX]⟩⟩ [I U 1,I U 3,I U 0,I U 4,O Y 0 0,O (A ⟨w.heap.size+1+1+1+1+1+1+1+1+1+1,0,Y⟩) 1 1])) (iv.2 ⟨(by decide:(-9223372036854775808:Int)≤6∧(6:Int)<9223372036854775808),(by decide:(-9223372036854775808:Int)≤0∧(0:Int)<9223372036854775808),_,Z,db.2 ⟨(by decide:(-9223372036854775808:Int)≤300∧(300:Int)<9223372036854775808),(by decide:(-9223372036854775808:Int)≤0∧(0:Int)<9223372036854775808),_,_,Z,q,Rd.th⟩⟩:dX.at_ W (fun b=>b<W.heap.size) ⟨6,0,⟨300,0,rr,[]⟩⟩ [I U 6,I U 0,I U 300,I U 0,O (A ⟨w.heap.size+1+1+1+1+1,0,Y⟩) 3 3,O Y 0 0])) (lt d) Z (by decide) (by decide +kernel)
 exact eY.2 ⟨(by decide +kernel:li.size≤maxLen),(by decide:(-9223372036854775808:Int)≤9∧(9:Int)<9223372036854775808),(by decide:(-9223372036854775808:Int)≤7∧(7:Int)<9223372036854775808),_,_,_,Z,q,v,g⟩
theorem nJ(w:J):Calls vo 15 #[] w (fun e w'=>∃vs,e=Ending.returned (xk vs.toArray)∧Gl w w'∧bG.at_ w' (fun b=>b<w'.heap.size) a9 vs):=by
 obtain⟨W,a⟩:=zzx (ef w [r9 #[tS li,I U 9,O (A ⟨w.heap.size+1+1+1+1+1,0,Y⟩) 3 3,O (A ⟨w.heap.size+1+1+1+1+1+1+1+1,0,Y⟩) 3 3,O (A ⟨w.heap.size+1+1+1+1+1+1+1+1+1+1+1,0,Y⟩) 2 2,I U 7] 28,r9 #[I tF 1,I U 1,tS ⟨#[]⟩] 88,r9 #[I tF 2,I U 0,tS ⟨#[98,101,101]⟩] 88,r9 #[I tF 1,I U 1,tS ⟨#[]⟩,I tF 2,I U 0,tS ⟨#[98,101,101]⟩] 88,r9 #[I tF 2,I U 0,tS ⟨#[98,101,101]⟩,I tF 1,I U 1,tS ⟨#[]⟩] 88,r9 #[I U 2,I U 0,O (A ⟨w.heap.size+1+1+1,0,Y⟩) 2 2,I U 5,I U 1,O Y 0 0,I U 8,I U 0,O (A ⟨w.heap.size+1+1+1+1,0,Y⟩) 2 2] 47,r9 #[I U 2] 3,r9 #[I U 5,I U 2,I U 8] 3,r9 #[I U 0,O (A ⟨w.heap.size+1+1+1+1+1+1,0,Y⟩) 1 1,I U 1,O (A ⟨w.heap.size+1+1+1+1+1+1+1,0,Y⟩) 3 3,I U 2,O Y 0 0] 50,r9 #[tS li,I U 9,O (A ⟨w.heap.size+1+1+1+1+1,0,Y⟩) 3 3,O (A ⟨w.heap.size+1+1+1+1+1+1+1+1,0,Y⟩) 3 3] 25,r9 #[I tF 1,I U 1,tS ⟨#[]⟩] 88,r9 #[I U 1,I U 3,I U 0,I U 4,O Y 0 0,O (A ⟨w.heap.size+1+1+1+1+1+1+1+1+1+1,0,Y⟩) 1 1,I U 6,I U 0,I U 300,I U 0,O (A ⟨w.heap.size+1+1+1+1+1,0,Y⟩) 3 3,O Y 0 0] 54]);have c:W.heap[w.heap.size]?=A (r9 #[tS li,I U 9,O (A ⟨w.heap.size+1+1+1+1+1,0,Y⟩) 3 3,O (A ⟨w.heap.size+1+1+1+1+1+1+1+1,0,Y⟩) 3 3,O (A ⟨w.heap.size+1+1+1+1+1+1+1+1+1+1+1,0,Y⟩) 2 2,I U 7] 28 (0,0)):=by rw[a];exact dx _ w 0 _ Z
 have d:Gl w W:=by rw[a];exact kW _ w
 obtain⟨f,g,h,i⟩:=zz4 (Bw a) c d a;clear c d a
 go_enter Tryz.func15,Tryz.ntmps15
 go_wp2_with fail
 have a:=i.o;unfold ef ef ef ef ef ef ef ef ef ef ef ef ef li at a;rw[←a];exact oG Tryz.results15 (by simp[go_sem]) (by simp[go_sem]) Z g.o ⟨_,Z,h.o,f.o⟩
