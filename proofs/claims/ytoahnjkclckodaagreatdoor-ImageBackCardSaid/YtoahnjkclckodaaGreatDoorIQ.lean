/- Parts of one proof, joined; conditions stand in each theorem. -/
import Derived.Test.YtoahnjkclckodaaGreatDoorIA
import Derived.Test.YtoahnjkclckodaaGreatDoorIJ
import Derived.Test.YtoahnjkclckodaaGreatDoorIP
import Derived.Test.YtoahnjkclckodaaGreatDoorNO
import Derived.Test.YtoahnjkclckodaaGreatDoorIH
import Derived.Test.YtoahnjkclckodaaGreatDoorIK
open Bool renaming false→ur
open Go renaming Value→tS,World→J
open Go.Value renaming func→z6,agg→wP,int→I,string→r9,slice→O,pointer→vo
open Go.IntKind renaming i64→U,u8→r8
open Go.Proofs.Tryz renaming prog→va
open Go.Obj renaming cells→r7
open Option renaming some→A,none→Y
namespace Go.Proofs.YtoahnjkclckodaaGreatDoor
set_option maxHeartbeats 4000000
set_option maxRecDepth 100000
open Go.RowKit
theorem mc(t:ByteArray):(cz t).length=4+t.size:=by
 unfold cz;rw[J2,aO,Kc];rfl
theorem EH{s:WSt}(a:(bP s).2.2=ur):(13+(bP s).1.h.size)+13*(bP s).2.1.length≤13*s.1.length:=by
 unfold bP at a ⊢;dsimp only at a ⊢
 by_cases b:(aw 1 s).1=1
 ·simp only[oj b]at a ⊢;obtain⟨a1,a2⟩:=dG (k:=8) (by omega) a;obtain⟨g,c⟩:=dG (k:=1) (by omega) a1;have d:=o4 List.length a2;have e:=o4 List.length c;rw[J2,aO]at d e;rw[a];simp only[Ka,oF];have:(⟨#[]⟩:ByteArray).size=0:=rfl;omega
 ·by_cases f:(aw 1 s).1=2
  ·simp only[oe b,oj f]at a ⊢;obtain⟨a1,a2⟩:=nV a;obtain⟨g,c⟩:=dG (k:=1) (by omega) a1;have d:=o4 List.length a2;have e:=o4 List.length c;rw[J2,mc]at d;rw[J2,aO]at e;rw[a];simp only[Ka,oF];omega
  ·simp only[oe b,oe f]at a
   cases a
theorem vX{α:Type}{one:WSt→α×WSt}{g:α→List UInt8}{z:α→Nat}(b:∀s,(one s).2.2=ur→s.2=ur∧g (one s).1++(one s).2.1=s.1)(c:∀s,(one s).2.2=ur→z (one s).1+13*(one s).2.1.length≤13*s.1.length) :
  ∀(n:Nat) (s:WSt),(bQ one n s).2.2=ur→((bQ one n s).1.map z).sum+13*(bQ one n s).2.1.length≤13*s.1.length
 | 0,s,h=>by simp[bQ]
 | n+1,s,h=>by
  unfold bQ at h ⊢
  split at h
  ·rename_i a;rw[a]at h;cases h
  ·rename_i a
   rw[oe a];have d:=vX b c n (one s).2 h;have e:=c s (my b n (one s).2 h).1;simp only[List.map_cons,List.sum_cons];omega
theorem t9{α:Type}{one:WSt→α×WSt}{g:α→List UInt8}{z:α→Nat}(b:∀s,(one s).2.2=ur→s.2=ur∧g (one s).1++(one s).2.1=s.1)(c:∀s,(one s).2.2=ur→z (one s).1+13*(one s).2.1.length≤13*s.1.length){s:WSt}(a:(dp one s).2.2=ur) :
  52+((dp one s).1.map z).sum+13*(dp one s).2.1.length≤13*s.1.length:=by
 unfold dp at a ⊢;dsimp only at a ⊢;have f:=vX b c _ _ a;obtain⟨h,d⟩:=mG (my b _ _ a).1;have e:=o4 List.length d;rw[J2,aO]at e;rw[a];simp only[Ka,oF];omega
theorem kY{k:Nat}{s:WSt}(a:k≤8)(b:(aw k s).2.2=ur):s.2=ur∧k+(aw k s).2.1.length=s.1.length:=by
 obtain⟨c,d⟩:=dG a b;have e:=o4 List.length d;rw[J2,aO]at e;exact⟨c,e⟩
theorem tK{s:WSt}(a:(eH s).2.2=ur):52+szV (eH s).1+13*(eH s).2.1.length≤13*s.1.length:=t9 (g:=fp) (z:=fun v=>13+v.h.size) (fun _ h=>qc h) (fun _ h=>EH h) a
theorem tj{s:WSt}(a:(bT s).2.2=ur):szF (bT s).1+13*(bT s).2.1.length≤13*s.1.length:=by
 unfold bT at a ⊢;dsimp only at a ⊢;have d:=tK a;obtain⟨b,_⟩:=j3 a;obtain⟨c,e⟩:=kY (k:=8) (by omega) b;obtain⟨f,g⟩:=kY (k:=8) (by omega) c;rw[a];simp only[Ka,oF];unfold szF;dsimp only;omega
theorem zc{s:WSt}(a:(dh s).2.2=ur):szR (dh s).1+13*(dh s).2.1.length≤13*s.1.length:=by
 unfold dh at a ⊢;dsimp only at a ⊢;have e:=tK a;obtain⟨b,_⟩:=j3 a;have f:=t9 (g:=bD) (z:=szF) (fun _ h=>jO h) (fun _ h=>tj h) b;obtain⟨c,_⟩:=oz (g:=bD) (fun _ h=>jO h) b;obtain⟨d,i⟩:=kY (k:=8) (by omega) c;obtain⟨j,l⟩:=kY (k:=8) (by omega) d;rw[a];simp only[Ka,oF];unfold szR;dsimp only;omega
theorem sH{α:Type}{one:ISt→α×ISt}{g:α→List UInt8}{z:α→Nat}(b:∀s,ok2 (one s).2→ok2 s∧g (one s).1++(one s).2.1.1=s.1.1)(c:∀s,ok2 (one s).2→z (one s).1+13*(one s).2.1.1.length≤13*s.1.1.length) :
  ∀(n:Nat) (s:ISt),ok2 (co one n s).2→((co one n s).1.map z).sum+13*(co one n s).2.1.1.length≤13*s.1.1.length
 | 0,s,h=>by simp[co]
 | n+1,s,h=>by
  unfold co at h ⊢
  split at h
  ·rename_i a
   have:=h.1;rw[show (([(one s).1],(one s).2):List α×ISt).2=(one s).2 from rfl,a]at this
   cases this
  ·rename_i a
   rw[oe a];have d:=sH b c n (one s).2 h;have e:=c s (lq b n (one s).2 h).1;simp only[List.map_cons,List.sum_cons];omega
theorem Cz{most:Int}{s:ISt}(a:ok2 (eE most s).2):ok2 s∧8+(eE most s).2.1.1.length=s.1.1.length:=by
 obtain⟨b,c⟩:=om a;have e:=o4 List.length c;rw[J2,aO]at e;exact⟨b,e⟩
theorem mQ{α:Type}{one:ISt→α×ISt}{g:α→List UInt8}{z:α→Nat}(b:∀s,ok2 (one s).2→ok2 s∧g (one s).1++(one s).2.1.1=s.1.1)(c:∀s,ok2 (one s).2→z (one s).1+13*(one s).2.1.1.length≤13*s.1.1.length){most:Int}{s:ISt}(a:ok2 (da one most s).2) :
  ((da one most s).1.map z).sum+13*(da one most s).2.1.1.length≤13*s.1.1.length:=by
 unfold da at a ⊢;have d:=sH b c _ _ a;obtain⟨_,e⟩:=Cz (lq b _ _ a).1;omega
theorem Cm{s:ISt}(a:ok2 (eD s).2):szT (eD s).1+13*(eD s).2.1.1.length≤13*s.1.1.length:=by
 obtain⟨_,h⟩:=ol a;have e:=o4 List.length h;rw[J2,lH]at e;omega
theorem Ab{s:ISt}(a:ok2 (dz s).2):szS (dz s).1+13*(dz s).2.1.1.length≤13*s.1.1.length:=by
 unfold dz at a ⊢;dsimp only at a ⊢;have h:=zc a.1;obtain⟨b,_⟩:=rx a.1;obtain⟨c,d⟩:=gG (s:=(bL s).2) ⟨b,a.2⟩;obtain⟨i,e⟩:=gG c;have f:=o4 List.length d;have g:=o4 List.length e;rw[J2,aO]at f g;unfold szS;dsimp only;omega
theorem sG{s:ISt}(a:ok2 (ei s).2):szM (ei s).1+13*(ei s).2.1.1.length≤60+13*s.1.1.length:=by
 unfold ei at a ⊢;dsimp only at a ⊢;have k:=mQ (g:=fc) (z:=szS) (fun _ h=>rb h) (fun _ h=>Ab h) a;obtain⟨l,_⟩:=mT (g:=fc) (fun _ h=>rb h) a;obtain⟨d,m⟩:=gG l;have z2:=mQ (g:=fu) (z:=szT) (fun _ h=>ol h) (fun _ h=>Cm h) d;obtain⟨e,_⟩:=mT (g:=fu) (fun _ h=>ol h) d;have z3:=mQ (g:=bD) (z:=szF) (fun _ h=>qZ h) (fun _ h=>tj h.1) e;obtain⟨n,_⟩:=mT (g:=bD) (fun _ h=>qZ h) e;obtain⟨o,b⟩:=gG (s:=((dO s.1).2,s.2)) n;obtain⟨p,c⟩:=nV o.1;have f:=o4 List.length m;have i:=o4 List.length b;have j:=o4 List.length c;rw[J2,aO]at f i;rw[J2,mc]at j;unfold szM;dsimp only at f i j k z2 z3 ⊢;omega
theorem BW{m:au}{s:dM}(a:s∈m.e):szR s.a≤szM m:=by
 obtain⟨i,hi⟩:=List.getElem?_of_mem a;have:=lG szS m.e i s hi;have b:szR s.a≤szS s:=by unfold szS;omega
 unfold szM;omega
theorem rG(a b c:tS)(f0 f1 f2:Fn)(p:Array tS)(w:J)(d:a=z6 f0 p #[])(e:b=z6 f1 p #[])(f:c=z6 f2 p #[]) :
  (Instr.index 70 (wP #[a,b,c]) (I U 0)).run va w=.ok a w∧(Instr.index 70 (wP #[a,b,c]) (I U 1)).run va w=.ok b w∧(Instr.index 70 (wP #[a,b,c]) (I U 2)).run va w=.ok c w:=by
 have hu:=Tryz.underlying70;subst d e f;refine⟨?_,?_,?_⟩<;>simp[Instr.index,run_underlying hu,asIntOf,go_sem,part]
def sw(R:dc) (m:au):Nat→Bool
 | 0=>mY R m.a
 | 1=>lL R m
 | _=>jv m
theorem Gi(R:dc)(m:au):([0,1,2]:List Nat).all (sw R m)=(mY R m.a&&lL R m&&jv m):=by simp[sw,Bool.and_assoc]
theorem mS{m:au}{vs:List tS}{w:J}(hm:bG.at_ w (fun b=>b<w.heap.size) m vs)(ht:aI w)(H:szM m≤140737488355328):Calls va 8 #[wP vs.toArray] w (fun e w'=>e=Ending.returned (Value.bool (jH cd m))∧Kr w w'):=by
 have b1:∀(fn:Fn) (first cap:Array tS) (w:J),(Instr.makeFunc fn first cap).run va w=.ok (z6 fn first cap) w:=fun _ _ _ _=>rfl
 obtain⟨bq,bt,bB,sf,st,ss,bR,L,M,N⟩:=fC.1 hm;subst bR;obtain⟨pf,cf,P⟩:=Rd.q L;obtain⟨pt,ct,Q⟩:=Rd.q M;obtain⟨ps,cs,S⟩:=Rd.q N;obtain⟨nf,T⟩:=zzy (m.a.length);obtain⟨nt,V⟩:=zzy (m.d.length);obtain⟨ns,X⟩:=zzy (m.e.length);rw[T]at P;rw[V]at Q;rw[X]at S;subst P;subst Q;subst S;obtain⟨tx,ad⟩:=zzy (m.c);obtain⟨nx,af⟩:=zzy (m.g);obtain⟨mn,aq⟩:=zzy (m.h);rw[ad,af,aq]at hm ⊢;obtain⟨W1,C⟩:=zzx (w.alloc (r7 #[r9 tx,I U nx,O pf nf cf,O pt nt ct,O ps ns cs,I U mn] 28));have v:Kr w W1:=by rw[C];exact (JO _ w).alloc (JM _) _
 have ar:W1.heap[w.heap.size]?=A (r7 #[r9 tx,I U nx,O pf nf cf,O pt nt ct,O ps ns cs,I U mn] 28 (0,0)):=by rw[C];exact oc w _
 have a6:=Hd (Dl (w:=W1) (bG.N (fun b (h:b<w.heap.size)=>JS h v.size) (bG.K (fun b (h:b<w.heap.size) o ho=>(v.block b h).trans ho) hm)) (ht.C v));have b0:=Hd (fun s (hs:s∈m.e)=>JU (BW hs) H);obtain⟨ba,bb⟩:=zz2 v C;obtain⟨r,hr⟩:=zzy (jH cd m);rw[hr];have HR:=Hd hr;obtain⟨⟨a0,a1,a2,a3,a4,a5⟩,_⟩:=aC ar;clear hm ht H bq bt bB L M N T V X ad af aq v C ar hr
 go_enter Tryz.func8,Tryz.ntmps8
 go_upto_region 1 with fail
 change Code.wp _ _ _ _ (w.alloc (r7 #[r9 tx,I U nx,O pf nf cf,O pt nt ct,O ps ns cs,I U mn] 28));rw[←bb.o];clear bb;go_wp2_with fail
 refine a6.o.mono ?_;rintro e W2 ⟨bd,K,ok,rfl,j⟩;have c:=Hd (ba.o.trans (bd.mono ba.o.size));have u:ok=ur→r=false:=fun h=>by
  rw[←HR.o];unfold jH;rcases j with ⟨er,D,_⟩|⟨R,D,h2,_⟩
  ·rw[D]
  ·rw[D];dsimp only;rw[←h2,h];rfl
 have y:ok=true→∃R,jI W2 K m R∧r=([0,1,2]:List Nat).all (sw R m):=fun h=>by
  rcases j with ⟨er,_,D⟩|⟨R,D,h2,h3⟩
  ·rw[h]at D;cases D
  ·refine⟨R,h3 h,?_⟩;rw[Gi,←HR.o];unfold jH;rw[D];dsimp only;rw[←h2,h,Bool.true_and]
 clear j bd a6 a0 a1 a2 a3 a4 a5
 cases ok with
 | false =>
  have q:=Hd (u Z);clear u y;go_wp2_with fail
  go_ret;exact⟨by rw[q.o];rfl,c.o⟩
 | true =>
  obtain⟨R,hL,bg⟩:=y Z;have HL:=Hd (fun W (hW:Kr W2 W)=>hL.C hW);have bk:=Hd bg;clear u y hL bg;go_wp2_with fail
  go_loopw [21] (eC W2 3 (sw R m) ([0,1,2]:List Nat)) (fun i _=>3-(intOf i).toNat)
  case atStart=>exact eC.start
  case round =>
   obtain⟨G,k,rfl,hk,rfl,E,u⟩:=hrel;obtain⟨bl,t⟩:=zz2 u E;clear u;have F:=Hd (fun W (hW:Kr W2 W) (hk:k<3) h=>eC.on (p:=sw R m) (l:=[0,1,2]) (x:=k) (W:=W) hW hk bl.o (by rcases k with _|_|_|k<;>first|rfl|omega) h)
   have z:=Hd (fun (hk:k<3) h=>bk.o.trans (lD (p:=sw R m) (l:=[0,1,2]) (k:=k) (x:=k) (by rcases k with _|_|_|k<;>first|rfl|omega) h))
   have bm:=Hd (fun (h:k=3)=>bk.o.trans (j8 (p:=sw R m) (l:=[0,1,2]) (n:=k) (by rw[h];rfl) bl.o));rcases k with _|_|_|_|k
   ·have bn:=(rG (z6 (.func 25) #[vo (A ⟨K,0,Y⟩)] #[]) (z6 (.func 26) #[vo (A ⟨K,0,Y⟩)] #[]) (z6 (.func 27) #[vo (A ⟨K,0,Y⟩)] #[]) _ _ _ #[vo (A ⟨K,0,Y⟩)] G Z Z Z).1;have B:=Hd (Cx (HL.o G E));obtain⟨b,a⟩:=zzy (mY R m.a);rw[a]at B;have d:=Hd a;clear E a;go_wp2_with fail
    refine B.o.mono ?_;rintro e W4 ⟨rfl,f⟩;have g:=Hd (t.o.trans (f.mono t.o.size));clear f B
    cases b with
    | true =>
     have q:=Hd (F.o W4 g.o (by decide) d.o);go_wp2_with fail
     exact q.o
    | false =>
     have q:=Hd (z.o (by decide) d.o);go_wp2_with fail
     go_ret;exact⟨by rw[q.o];rfl,c.o.trans (g.o.mono c.o.size)⟩
   ·have bn:=(rG (z6 (.func 25) #[vo (A ⟨K,0,Y⟩)] #[]) (z6 (.func 26) #[vo (A ⟨K,0,Y⟩)] #[]) (z6 (.func 27) #[vo (A ⟨K,0,Y⟩)] #[]) _ _ _ #[vo (A ⟨K,0,Y⟩)] G Z Z Z).2.1;have B:=Hd (DJ (HL.o G E));obtain⟨b,a⟩:=zzy (lL R m);rw[a]at B;have d:=Hd a;clear E a;go_wp2_with fail
    refine B.o.mono ?_;rintro e W4 ⟨rfl,f⟩;have g:=Hd (t.o.trans (f.mono t.o.size));clear f B
    cases b with
    | true =>
     have q:=Hd (F.o W4 g.o (by decide) d.o);go_wp2_with fail
     exact q.o
    | false =>
     have q:=Hd (z.o (by decide) d.o);go_wp2_with fail
     go_ret;exact⟨by rw[q.o];rfl,c.o.trans (g.o.mono c.o.size)⟩
   ·have bn:=(rG (z6 (.func 25) #[vo (A ⟨K,0,Y⟩)] #[]) (z6 (.func 26) #[vo (A ⟨K,0,Y⟩)] #[]) (z6 (.func 27) #[vo (A ⟨K,0,Y⟩)] #[]) _ _ _ #[vo (A ⟨K,0,Y⟩)] G Z Z Z).2.2;have B:=Hd (yL (HL.o G E) b0.o);obtain⟨b,a⟩:=zzy (jv m);rw[a]at B;have d:=Hd a;clear E a;go_wp2_with fail
    refine B.o.mono ?_;rintro e W4 ⟨rfl,f⟩;have g:=Hd (t.o.trans (f.mono t.o.size));clear f B
    cases b with
    | true =>
     have q:=Hd (F.o W4 g.o (by decide) d.o);go_wp2_with fail
     exact q.o
    | false =>
     have q:=Hd (z.o (by decide) d.o);go_wp2_with fail
     go_ret;exact⟨by rw[q.o];rfl,c.o.trans (g.o.mono c.o.size)⟩
   ·have q:=Hd (bm.o Z);clear E;go_wp2_with fail
    go_ret;exact⟨by rw[q.o];rfl,c.o.trans (t.o.mono c.o.size)⟩
   ·omega
def okS:au→Bool:=jH cd
def cH:au:=⟨⟨#[]⟩,1,[],[],[],1⟩
def ta:au:=⟨⟨#[]⟩,0,[],[],[],1⟩
def mU:aE:=⟨1,1,⟨#[]⟩⟩
def rE:aE:=⟨2,0,⟨#[98,101,101]⟩⟩
def lZ:ByteArray:=⟨#[102,97,99,116,32,104,105,118,101,40,97,44,32,98,41,59,32,102,97,99,116,32,110,111,110,101,40,41,59,32,114,117,108,101,32,114,32,123,32,104,105,118,101,40,63,120,44,32,95,41,59,32,110,111,116,32,110,111,110,101,40,41,59,32,116,101,115,116,32,63,120,32,60,32,57,59,32,61,62,32,97,115,115,101,114,116,32,110,111,110,101,40,41,59,32,125,32,114,117,108,101,32,113,32,123,32,110,111,110,101,40,41,59,32,104,105,118,101,40,63,120,44,32,63,121,41,59,32,104,105,118,101,40,63,121,44,32,63,120,41,59,32,61,62,32,115,97,121,32,63,120,59,32,125,32,114,117,108,101,32,122,32,123,32,61,62,32,104,97,108,116,59,32,125]⟩
def tZ:List ai:=[⟨2,0,[mU,rE]⟩,⟨5,1,[]⟩,⟨8,0,[rE,mU]⟩]
def Dw:List io:=[⟨0,[2]⟩,⟨1,[5,2,8]⟩,⟨2,[]⟩]
def Hv:List dM:=[⟨1,3,⟨0,4,[],[mU]⟩⟩,⟨6,0,⟨300,0,tZ,[]⟩⟩]
def aY:au:=⟨lZ,9,tZ,Dw,Hv,7⟩
theorem Bv:okS cH=true:=by kernel_rfl
theorem Hl:okS ta=false:=by kernel_rfl
theorem Ak:okS aY=true:=by kernel_rfl
theorem zw:it okS cH=(bV cH,0):=by unfold it;rw[Bv];rfl
theorem Ee:it okS ta=([],4):=by unfold it;rw[Hl];rfl
theorem GA:it okS aY=(bV aY,0):=by unfold it;rw[Ak];rfl
theorem zJ:lY okS (bV cH)=(cH,0):=by kernel_rfl
theorem Hf:lY okS (bV aY)=(aY,0):=by kernel_rfl
theorem kz:(bV cH).length=44:=by kernel_rfl
theorem CB:(bV cH)[11]?=A 1:=by kernel_rfl
theorem B5:(bV cH)[35]?=A 1:=by kernel_rfl
theorem yO:(bV aY).length≤20000:=by decide +kernel
theorem Bf:szM cH≤140737488355328:=by decide +kernel
theorem FT:szM ta≤140737488355328:=by decide +kernel
theorem Ax:szM aY≤140737488355328:=by decide +kernel
def eF:J→List Obj→J
 | w,[]=>w
 | w,o::l=>eF (w.alloc o) l
theorem lR:∀(l:List Obj) (w:J),Kr w (eF w l)
 | [],w=>JO _ _
 | o::l,w=>by
  have a:Kr w (w.alloc o):=(JO _ w).alloc (JM _) _;exact a.trans ((lR l (w.alloc o)).mono a.size)
theorem dJ:∀(l:List Obj) (w:J) (i:Nat) (o:Obj),l[i]?=A o→(eF w l).heap[w.heap.size+i]?=A o
 | [],_,i,o,h=>by simp at h
 | p::l,w,0,o,h=>by
  have h:p=o:=by simpa using h
  subst h;have a:(w.alloc p).heap[w.heap.size]?=A p:=oc w p;exact aa (lR l (w.alloc p)) a (JL.1 a).1
 | p::l,w,i+1,o,h=>by
  have b:=dJ l (w.alloc p) i o (by simpa using h);rw[o3]at b;rw[show w.heap.size+(i+1)=w.heap.size+1+i by omega];exact b
theorem kO{α:Type}{r:Rd α}{w:J}{F:Nat→Prop}{xs:List α}{us:List tS}{b n:Nat}{ty:TypeId}(a:w.heap[b]?=A (r7 us.toArray ty (0,0)))(c:r.z w F xs us)(hF:F b)(d:xs.length=n)(e:xs≠[])(f:n≤maxLen):r.h w F xs (O (A ⟨b,0,Y⟩) n n):=by
 subst d;refine Or.inr ⟨b,0,xs.length,e,hF,(JL.1 a).1,JM _,f,Z,fun i x hi=>?_⟩;obtain⟨vs,g,h⟩:=c.2 i x hi;exact⟨vs,g,fun m u hu=>by rw[Kq _ _ _ _ _ _ a,Nat.zero_add];simpa using h m u hu⟩
theorem zS(w:J):Calls va 14 #[] w (fun e w'=>∃vs,e=Ending.returned (wP vs.toArray)∧Kr w w'∧bG.at_ w' (fun b=>b<w'.heap.size) cH vs):=by
 go_enter Tryz.func14,Tryz.ntmps14
 go_wp2_with fail
 refine qz Tryz.results14 (by simp[go_sem]) (by simp[go_sem]) Z (oc w _) ⟨[r9 ⟨#[]⟩,I U 1,O Y 0 0,O Y 0 0,O Y 0 0,I U 1],Z,(JO _ w).alloc (JM _) _,?_⟩;exact fC.2 ⟨J0 _,(by decide:(-9223372036854775808:Int)≤1∧(1:Int)<9223372036854775808),(by decide:(-9223372036854775808:Int)≤1∧(1:Int)<9223372036854775808),_,_,_,Z,Rd.tk,Rd.tk,Rd.tk⟩
theorem ES{w W:J}(a:W=eF w [r7 #[r9 lZ,I U 9,O (A ⟨w.heap.size+1+1+1+1+1,0,Y⟩) 3 3,O (A ⟨w.heap.size+1+1+1+1+1+1+1+1,0,Y⟩) 3 3,O (A ⟨w.heap.size+1+1+1+1+1+1+1+1+1+1+1,0,Y⟩) 2 2,I U 7] 28,r7 #[I r8 1,I U 1,r9 ⟨#[]⟩] 88,r7 #[I r8 2,I U 0,r9 ⟨#[98,101,101]⟩] 88,r7 #[I r8 1,I U 1,r9 ⟨#[]⟩,I r8 2,I U 0,r9 ⟨#[98,101,101]⟩] 88,r7 #[I r8 2,I U 0,r9 ⟨#[98,101,101]⟩,I r8 1,I U 1,r9 ⟨#[]⟩] 88,r7 #[I U 2,I U 0,O (A ⟨w.heap.size+1+1+1,0,Y⟩) 2 2,I U 5,I U 1,O Y 0 0,I U 8,I U 0,O (A ⟨w.heap.size+1+1+1+1,0,Y⟩) 2 2] 47,r7 #[I U 2] 3,r7 #[I U 5,I U 2,I U 8] 3,r7 #[I U 0,O (A ⟨w.heap.size+1+1+1+1+1+1,0,Y⟩) 1 1,I U 1,O (A ⟨w.heap.size+1+1+1+1+1+1+1,0,Y⟩) 3 3,I U 2,O Y 0 0] 50,r7 #[r9 lZ,I U 9,O (A ⟨w.heap.size+1+1+1+1+1,0,Y⟩) 3 3,O (A ⟨w.heap.size+1+1+1+1+1+1+1+1,0,Y⟩) 3 3] 25,r7 #[I r8 1,I U 1,r9 ⟨#[]⟩] 88,r7 #[I U 1,I U 3,I U 0,I U 4,O Y 0 0,O (A ⟨w.heap.size+1+1+1+1+1+1+1+1+1+1,0,Y⟩) 1 1,I U 6,I U 0,I U 300,I U 0,O (A ⟨w.heap.size+1+1+1+1+1,0,Y⟩) 3 3,O Y 0 0] 54]) :
  bG.at_ W (fun b=>b<W.heap.size) aY [r9 lZ,I U 9,O (A ⟨w.heap.size+1+1+1+1+1,0,Y⟩) 3 3,O (A ⟨w.heap.size+1+1+1+1+1+1+1+1,0,Y⟩) 3 3,O (A ⟨w.heap.size+1+1+1+1+1+1+1+1+1+1+1,0,Y⟩) 2 2,I U 7]:=by
 have x:W.heap[w.heap.size]?=A (r7 #[r9 lZ,I U 9,O (A ⟨w.heap.size+1+1+1+1+1,0,Y⟩) 3 3,O (A ⟨w.heap.size+1+1+1+1+1+1+1+1,0,Y⟩) 3 3,O (A ⟨w.heap.size+1+1+1+1+1+1+1+1+1+1+1,0,Y⟩) 2 2,I U 7] 28 (0,0)):=by rw[a];exact dJ _ w 0 _ Z
 have y:W.heap[w.heap.size+1]?=A (r7 #[I r8 1,I U 1,r9 ⟨#[]⟩] 88 (0,0)):=by rw[a];exact dJ _ w 1 _ Z
 have z:W.heap[w.heap.size+1+1]?=A (r7 #[I r8 2,I U 0,r9 ⟨#[98,101,101]⟩] 88 (0,0)):=by rw[a];exact dJ _ w 2 _ Z
 have i:W.heap[w.heap.size+1+1+1]?=A (r7 #[I r8 1,I U 1,r9 ⟨#[]⟩,I r8 2,I U 0,r9 ⟨#[98,101,101]⟩] 88 (0,0)):=by rw[a];exact dJ _ w 3 _ Z
 have j:W.heap[w.heap.size+1+1+1+1]?=A (r7 #[I r8 2,I U 0,r9 ⟨#[98,101,101]⟩,I r8 1,I U 1,r9 ⟨#[]⟩] 88 (0,0)):=by rw[a];exact dJ _ w 4 _ Z
 have k:W.heap[w.heap.size+1+1+1+1+1]?=A (r7 #[I U 2,I U 0,O (A ⟨w.heap.size+1+1+1,0,Y⟩) 2 2,I U 5,I U 1,O Y 0 0,I U 8,I U 0,O (A ⟨w.heap.size+1+1+1+1,0,Y⟩) 2 2] 47 (0,0)):=by rw[a];exact dJ _ w 5 _ Z
 have l:W.heap[w.heap.size+1+1+1+1+1+1]?=A (r7 #[I U 2] 3 (0,0)):=by rw[a];exact dJ _ w 6 _ Z
 have m:W.heap[w.heap.size+1+1+1+1+1+1+1]?=A (r7 #[I U 5,I U 2,I U 8] 3 (0,0)):=by rw[a];exact dJ _ w 7 _ Z
 have n:W.heap[w.heap.size+1+1+1+1+1+1+1+1]?=A (r7 #[I U 0,O (A ⟨w.heap.size+1+1+1+1+1+1,0,Y⟩) 1 1,I U 1,O (A ⟨w.heap.size+1+1+1+1+1+1+1,0,Y⟩) 3 3,I U 2,O Y 0 0] 50 (0,0)):=by rw[a];exact dJ _ w 8 _ Z
 have B:W.heap[w.heap.size+1+1+1+1+1+1+1+1+1]?=A (r7 #[r9 lZ,I U 9,O (A ⟨w.heap.size+1+1+1+1+1,0,Y⟩) 3 3,O (A ⟨w.heap.size+1+1+1+1+1+1+1+1,0,Y⟩) 3 3] 25 (0,0)):=by rw[a];exact dJ _ w 9 _ Z
 have c:W.heap[w.heap.size+1+1+1+1+1+1+1+1+1+1]?=A (r7 #[I r8 1,I U 1,r9 ⟨#[]⟩] 88 (0,0)):=by rw[a];exact dJ _ w 10 _ Z
 have d:W.heap[w.heap.size+1+1+1+1+1+1+1+1+1+1+1]?=A (r7 #[I U 1,I U 3,I U 0,I U 4,O Y 0 0,O (A ⟨w.heap.size+1+1+1+1+1+1+1+1+1+1,0,Y⟩) 1 1,I U 6,I U 0,I U 300,I U 0,O (A ⟨w.heap.size+1+1+1+1+1,0,Y⟩) 3 3,O Y 0 0] 54 (0,0)):=by rw[a];exact dJ _ w 11 _ Z
 clear a;have lt:∀{b:Nat} {o:Obj},W.heap[b]?=A o→b<W.heap.size:=fun h=>(JL.1 h).1
 have e:=(dX.2 ⟨Z,(by decide:(0:Int)≤1∧(1:Int)<256),(by decide:(-9223372036854775808:Int)≤1∧(1:Int)<9223372036854775808),J0 _⟩:bK.at_ W (fun b=>b<W.heap.size) mU [I r8 1,I U 1,r9 ⟨#[]⟩]);have p:=(dX.2 ⟨Z,(by decide:(0:Int)≤2∧(2:Int)<256),(by decide:(-9223372036854775808:Int)≤0∧(0:Int)<9223372036854775808),(by decide +kernel:(⟨#[98,101,101]⟩:ByteArray).size≤maxLen)⟩:bK.at_ W (fun b=>b<W.heap.size) rE [I r8 2,I U 0,r9 ⟨#[98,101,101]⟩]);have r:bK.h W (fun b=>b<W.heap.size) [mU,rE] (O (A ⟨w.heap.size+1+1+1,0,Y⟩) 2 2):=kO i (Rd.th (Rd.th Rd.tv e) p) (lt i) Z (by decide) (by decide +kernel);have r4:bK.h W (fun b=>b<W.heap.size) [rE,mU] (O (A ⟨w.heap.size+1+1+1+1,0,Y⟩) 2 2):=kO j (Rd.th (Rd.th Rd.tv p) e) (lt j) Z (by decide) (by decide +kernel);have f:bK.h W (fun b=>b<W.heap.size) [mU] (O (A ⟨w.heap.size+1+1+1+1+1+1+1+1+1+1,0,Y⟩) 1 1):=kO c (Rd.th Rd.tv e) (lt c) Z (by decide) (by decide +kernel);have q:aG.h W (fun b=>b<W.heap.size) tZ (O (A ⟨w.heap.size+1+1+1+1+1,0,Y⟩) 3 3):=kO k (Rd.th (Rd.th (Rd.th Rd.tv (bW.2 ⟨(by decide:(-9223372036854775808:Int)≤2∧(2:Int)<9223372036854775808),(by decide:(-9223372036854775808:Int)≤0∧(0:Int)<9223372036854775808),_,Z,r⟩:aG.at_ W (fun b=>b<W.heap.size) ⟨2,0,[mU,rE]⟩ [I U 2,I U 0,O (A ⟨w.heap.size+1+1+1,0,Y⟩) 2 2])) (bW.2 ⟨(by decide:(-9223372036854775808:Int)≤5∧(5:Int)<9223372036854775808),(by decide:(-9223372036854775808:Int)≤1∧(1:Int)<9223372036854775808),_,Z,Rd.tk⟩:aG.at_ W (fun b=>b<W.heap.size) ⟨5,1,[]⟩ [I U 5,I U 1,O Y 0 0])) (bW.2 ⟨(by decide:(-9223372036854775808:Int)≤8∧(8:Int)<9223372036854775808),(by decide:(-9223372036854775808:Int)≤0∧(0:Int)<9223372036854775808),_,Z,r4⟩:aG.at_ W (fun b=>b<W.heap.size) ⟨8,0,[rE,mU]⟩ [I U 8,I U 0,O (A ⟨w.heap.size+1+1+1+1,0,Y⟩) 2 2])) (lt k) Z (by decide) (by decide +kernel);have s:Rd.int.h W (fun b=>b<W.heap.size) [2] (O (A ⟨w.heap.size+1+1+1+1+1+1,0,Y⟩) 1 1):=kO l (Rd.th Rd.tv (⟨Z,(by decide:(-9223372036854775808:Int)≤2∧(2:Int)<9223372036854775808)⟩:Rd.int.at_ W (fun b=>b<W.heap.size) 2 [I U 2])) (lt l) Z (by decide) (by decide +kernel);have t:Rd.int.z W (fun b=>b<W.heap.size) ([]++[5]++[2]++[8]) ([]++[I U 5]++[I U 2]++[I U 8]):=(Rd.th (Rd.th (Rd.th Rd.tv (⟨Z,(by decide:(-9223372036854775808:Int)≤5∧(5:Int)<9223372036854775808)⟩:Rd.int.at_ W (fun b=>b<W.heap.size) 5 [I U 5])) (⟨Z,(by decide:(-9223372036854775808:Int)≤2∧(2:Int)<9223372036854775808)⟩:Rd.int.at_ W (fun b=>b<W.heap.size) 2 [I U 2])) (⟨Z,(by decide:(-9223372036854775808:Int)≤8∧(8:Int)<9223372036854775808)⟩:Rd.int.at_ W (fun b=>b<W.heap.size) 8 [I U 8]));have u:Rd.int.h W (fun b=>b<W.heap.size) [5,2,8] (O (A ⟨w.heap.size+1+1+1+1+1+1+1,0,Y⟩) 3 3):=kO m t (lt m) Z (by decide) (by decide +kernel);have v:dx.h W (fun b=>b<W.heap.size) Dw (O (A ⟨w.heap.size+1+1+1+1+1+1+1+1,0,Y⟩) 3 3):=kO n (Rd.th (Rd.th (Rd.th Rd.tv (gz.2 ⟨(by decide:(-9223372036854775808:Int)≤0∧(0:Int)<9223372036854775808),_,Z,s⟩:dx.at_ W (fun b=>b<W.heap.size) ⟨0,[2]⟩ [I U 0,O (A ⟨w.heap.size+1+1+1+1+1+1,0,Y⟩) 1 1])) (gz.2 ⟨(by decide:(-9223372036854775808:Int)≤1∧(1:Int)<9223372036854775808),_,Z,u⟩:dx.at_ W (fun b=>b<W.heap.size) ⟨1,[5,2,8]⟩ [I U 1,O (A ⟨w.heap.size+1+1+1+1+1+1+1,0,Y⟩) 3 3])) (gz.2 ⟨(by decide:(-9223372036854775808:Int)≤2∧(2:Int)<9223372036854775808),_,Z,Rd.tk⟩:dx.at_ W (fun b=>b<W.heap.size) ⟨2,[]⟩ [I U 2,O Y 0 0])) (lt n) Z (by decide) (by decide +kernel);have g:ea.h W (fun b=>b<W.heap.size) Hv (O (A ⟨w.heap.size+1+1+1+1+1+1+1+1+1+1+1,0,Y⟩) 2 2):=kO d (Rd.th (Rd.th Rd.tv (gx.2 ⟨(by decide:(-9223372036854775808:Int)≤1∧(1:Int)<9223372036854775808),(by decide:(-9223372036854775808:Int)≤3∧(3:Int)<9223372036854775808),_,Z,cY.2 ⟨(by decide:(-9223372036854775808:Int)≤0∧(0:Int)<9223372036854775808),(by decide:(-9223372036854775808:Int)≤4∧(4:Int)<9223372036854775808),_,_,Z,Rd.tk,f⟩⟩:ea.at_ W (fun b=>b<W.heap.size) ⟨1,3,⟨0,4,[],[mU]⟩⟩ [I U 1,I U 3,I U 0,I U 4,O Y 0 0,O (A ⟨w.heap.size+1+1+1+1+1+1+1+1+1+1,0,Y⟩) 1 1])) (gx.2 ⟨(by decide:(-9223372036854775808:Int)≤6∧(6:Int)<9223372036854775808),(by decide:(-9223372036854775808:Int)≤0∧(0:Int)<9223372036854775808),_,Z,cY.2 ⟨(by decide:(-9223372036854775808:Int)≤300∧(300:Int)<9223372036854775808),(by decide:(-9223372036854775808:Int)≤0∧(0:Int)<9223372036854775808),_,_,Z,q,Rd.tk⟩⟩:ea.at_ W (fun b=>b<W.heap.size) ⟨6,0,⟨300,0,tZ,[]⟩⟩ [I U 6,I U 0,I U 300,I U 0,O (A ⟨w.heap.size+1+1+1+1+1,0,Y⟩) 3 3,O Y 0 0])) (lt d) Z (by decide) (by decide +kernel)
 exact fC.2 ⟨(by decide +kernel:lZ.size≤maxLen),(by decide:(-9223372036854775808:Int)≤9∧(9:Int)<9223372036854775808),(by decide:(-9223372036854775808:Int)≤7∧(7:Int)<9223372036854775808),_,_,_,Z,q,v,g⟩
theorem pF(w:J):Calls va 15 #[] w (fun e w'=>∃vs,e=Ending.returned (wP vs.toArray)∧Kr w w'∧bG.at_ w' (fun b=>b<w'.heap.size) aY vs):=by
 obtain⟨W,a⟩:=zzx (eF w [r7 #[r9 lZ,I U 9,O (A ⟨w.heap.size+1+1+1+1+1,0,Y⟩) 3 3,O (A ⟨w.heap.size+1+1+1+1+1+1+1+1,0,Y⟩) 3 3,O (A ⟨w.heap.size+1+1+1+1+1+1+1+1+1+1+1,0,Y⟩) 2 2,I U 7] 28,r7 #[I r8 1,I U 1,r9 ⟨#[]⟩] 88,r7 #[I r8 2,I U 0,r9 ⟨#[98,101,101]⟩] 88,r7 #[I r8 1,I U 1,r9 ⟨#[]⟩,I r8 2,I U 0,r9 ⟨#[98,101,101]⟩] 88,r7 #[I r8 2,I U 0,r9 ⟨#[98,101,101]⟩,I r8 1,I U 1,r9 ⟨#[]⟩] 88,r7 #[I U 2,I U 0,O (A ⟨w.heap.size+1+1+1,0,Y⟩) 2 2,I U 5,I U 1,O Y 0 0,I U 8,I U 0,O (A ⟨w.heap.size+1+1+1+1,0,Y⟩) 2 2] 47,r7 #[I U 2] 3,r7 #[I U 5,I U 2,I U 8] 3,r7 #[I U 0,O (A ⟨w.heap.size+1+1+1+1+1+1,0,Y⟩) 1 1,I U 1,O (A ⟨w.heap.size+1+1+1+1+1+1+1,0,Y⟩) 3 3,I U 2,O Y 0 0] 50,r7 #[r9 lZ,I U 9,O (A ⟨w.heap.size+1+1+1+1+1,0,Y⟩) 3 3,O (A ⟨w.heap.size+1+1+1+1+1+1+1+1,0,Y⟩) 3 3] 25,r7 #[I r8 1,I U 1,r9 ⟨#[]⟩] 88,r7 #[I U 1,I U 3,I U 0,I U 4,O Y 0 0,O (A ⟨w.heap.size+1+1+1+1+1+1+1+1+1+1,0,Y⟩) 1 1,I U 6,I U 0,I U 300,I U 0,O (A ⟨w.heap.size+1+1+1+1+1,0,Y⟩) 3 3,O Y 0 0] 54]);have c:W.heap[w.heap.size]?=A (r7 #[r9 lZ,I U 9,O (A ⟨w.heap.size+1+1+1+1+1,0,Y⟩) 3 3,O (A ⟨w.heap.size+1+1+1+1+1+1+1+1,0,Y⟩) 3 3,O (A ⟨w.heap.size+1+1+1+1+1+1+1+1+1+1+1,0,Y⟩) 2 2,I U 7] 28 (0,0)):=by rw[a];exact dJ _ w 0 _ Z
 have d:Kr w W:=by rw[a];exact lR _ w
 obtain⟨f,g,h,i⟩:=zz4 (ES a) c d a;clear c d a
 go_enter Tryz.func15,Tryz.ntmps15
 go_wp2_with fail
 have a:=i.o;unfold eF eF eF eF eF eF eF eF eF eF eF eF eF lZ at a;rw[←a];exact qz Tryz.results15 (by simp[go_sem]) (by simp[go_sem]) Z g.o ⟨_,Z,h.o,f.o⟩
