/- Parts of one proof, joined; conditions stand in each theorem. -/
import Derived.Test.YtmpekinjoeibbaaGreatDoorNV
open Go renaming Value→r3,World→p7,wpQuiet_nil→vk
open Go.Value renaming bool→ur,int→I,pointer→tv,agg→s3,string→p9,slice→O
open Go.IntKind renaming i64→Y,u8→J
open Option renaming some→A,none→V
open Go.Obj renaming cells→p8
open Bool renaming false→r7,true→r5
open Decidable renaming decide→r8
namespace Go.Proofs.YtmpekinjoeibbaaGreatDoor
set_option maxHeartbeats 16000000
set_option maxRecDepth 100000
open Go.RowKit
def Ca(F:Nat→Prop) (S d:Nat) (types:List ap) (rules:List au) (vT vR:r3) (b:Bool) (w:p7) (e:Ending) (w':p7):Prop:=
 Chg (fun b=>b=S) w w'∧e=Ending.returned (ur b)∧∃a c,SuW F S d types rules vT vR a c w'
def vB(F:Nat→Prop) (S d:Nat) (types:List ap) (rules:List au) (vT vR:r3) (r:au) (a:Nat) (w:p7) (rc:Array r3) (i:r3) (W:p7):Prop:=
 ∃(j:Nat) (nv nf:Int),j≤a∧i=I Y (j:Int)∧dO d types (0,0) (r.d.take j)=A (nv,nf)∧0≤nv∧nv≤6*j∧0≤nf∧nf≤j∧
  W.heap[w.heap.size]?=A (p8 #[tv (A ⟨S,0,V⟩)] 72 (0,0))∧W.heap[w.heap.size+1]?=A (p8 rc 39 (0,0))∧SuW F S d types rules vT vR nv nf W∧Chg (fun b=>b=S) w W
theorem As{d:Nat}{types:List ap}{s f:Int×Int}{c:aK}(j:∀t∈types,t.b≤6)(h:ci d types s c=A f):s.1≤f.1∧f.1≤s.1+6∧s.2≤f.2∧f.2≤s.2+1:=by
 have args:∀(b:Bool) (l:List dF) (v e:Int),db b v l=A e→v≤e∧e≤v+l.length:=by
  intro b l
  induction l with
  | nil=>intro v e h;injection h with h;subst h;simp
  | cons a l p =>
   intro v e h;unfold db at h
   cases k:bT b v a with
   | none=>rw[k]at h;cases h
   | some u =>
    rw[k]at h;have q:=oP k;have m:=p u e h;simp only[FC];omega
 unfold ci at h
 split at h
 ·split at h
  ·rename_i g
   simp only[Fp]at g;have hlen:(c.c.length:Int)≤6:=by
    have n:=g.1;unfold bz at n;simp only[Fp,oE,pv]at n;obtain⟨⟨q,m⟩,o⟩:=n;have i:c.h.toNat<types.length:=by omega
    rw[EX i]at o;have r:=j _ (List.getElem_mem i);have o:types[c.h.toNat].b=(c.c.length:Int):=o;omega
   split at h
   ·cases h
   ·rename_i v hv
    injection h with h
    have m:=args _ _ _ _ hv;rw[←h];dsimp only;refine⟨m.1,by omega,?_,?_⟩<;>split<;>omega
  ·cases h
 ·split at h
  ·injection h with h;rw[←h];omega
  ·cases h
theorem vJ{d:Nat}{types:List ap}{s a:Int×Int}{l:List aK}{j:Nat}{c:aK}(b:l[j]?=A c)(h:dO d types s (l.take j)=A a):dO d types s (l.take (j+1))=ci d types a c:=by
 rw[FI,b];exact mG d types _ _ _ _ h
theorem nE{d:Nat}{types:List ap}:∀(l:List aK) (s:Int×Int) (j:Nat),dO d types s (l.take j)=V→dO d types s l=V
 | [],s,j,h=>by simp[dO]at h
 | c::l,s,0,h=>by simp[dO]at h
 | c::l,s,j+1,h=>by
  rw[Fg]at h;unfold dO at h ⊢
  cases a:ci d types s c with
  | none=>rfl
  | some b =>
   rw[a]at h;exact nE l b j h
theorem run_store_int(W:p7)(b o:Nat)(x:Int)(u:r3)(a:W.cell? ⟨b,o,V⟩=A u)(c:W.frozen? ⟨b,o,V⟩=r7):(Instr.storeAt 3 (tv (A ⟨b,o,V⟩)) (I Y x)).run Tryz.prog W=.ok () (W.setCell ⟨b,o,V⟩ (I Y x)):=by simp[Instr.storeAt,Instr.sureAddr,go_sem,a,c]
theorem vY(F:Nat→Prop)(S d:Nat)(types:List ap)(rules:List au)(vT vR:r3)(bq N:Int)(r:au)(sc sa:r3)(w:p7)(hw:SuW F S d types rules vT vR bq N w)(br:(ec d).y w F r.d sc)(bt:(fG d).y w F r.e sa)(ck:r.a.size≤maxLen)(cl:∀t∈types,t.b≤6) :
  Calls Tryz.prog 17 #[tv (A ⟨S,0,V⟩),s3 #[p9 r.a,I Y r.c,I Y r.b,sc,sa]] w (Ca F S d types rules vT vR (iR d types r) w):=by
 have hf:∀(fn:Fn) (first cap:Array r3) (w:p7),(Instr.makeFunc fn first cap).run Tryz.prog w=.ok (Value.func fn first cap) w:=fun _ _ _ _=>rfl
 obtain⟨pc,cc,cp⟩:=Rd.b br;obtain⟨pa,ca,cq⟩:=Rd.b bt;obtain⟨y,a7⟩:=zzy (r.d.length);obtain⟨D,a8⟩:=zzy (r.e.length);rw[a7]at cp;rw[a8]at cq;subst cp;subst cq;obtain⟨bB,hg⟩:=zz2 a7 a8;obtain⟨w1,ba⟩:=zzx ((w.alloc (p8 #[tv (A ⟨S,0,V⟩)] 72)).alloc (p8 #[p9 r.a,I Y r.c,I Y r.b,O pc y cc,O pa D ca] 39));obtain⟨P,bR,_⟩:=ay w (p8 #[tv (A ⟨S,0,V⟩)] 72) (p8 #[p9 r.a,I Y r.c,I Y r.b,O pc y cc,O pa D ca] 39);have b1:FS w w1:=by rw[ba];exact ((EU _ w).alloc (ET _) _).alloc (by simp) _
 rw[←ba]at P bR;have B:=hw.C b1;have bk:=Hd hw.lt;have HF:=Hd (fun b (G:F b)=>hw.f b G);obtain⟨gf,gg,cr,ct⟩:=zz4 br bt cl (fun W=>oH r.a W ck);have Q:w1.cell? ⟨S,2,V⟩=A (I Y bq):=B.b;have b2:w1.cell? ⟨S,3,V⟩=A (I Y N):=by rw[FR _ _ _ _ _ _ B.h];rfl
 have cu:=cH B.h;obtain⟨R,K⟩:=zzx (w1.drew.setCell ⟨S,2,V⟩ (I Y 0));obtain⟨wb,T⟩:=zzx (R.setCell ⟨S,3,V⟩ (I Y 0));have cv:SuW F S d types rules vT vR bq N w1.drew:=B.C (EU _ _).drew;have bb:SuW F S d types rules vT vR 0 N R:=by rw[K];exact cv.setV 0
 have gm:Hid (SuW F S d types rules vT vR 0 0 wb):=by show SuW _ _ _ _ _ _ _ _ _ _;rw[T];exact bb.setF 0
 have b3:∀b,b≠S→wb.heap[b]?=w1.heap[b]?:=fun b G=>by rw[T,EW _ _ _ _ G,K,EW _ _ _ _ G];rfl
 have U:wb.heap[w.heap.size]?=A (p8 #[tv (A ⟨S,0,V⟩)] 72 (0,0)):=(b3 _ (by have:=hw.lt;omega)).trans P;have X:wb.heap[w.heap.size+1]?=A (p8 #[p9 r.a,I Y r.c,I Y r.b,O pc y cc,O pa D ca] 39 (0,0)):=(b3 _ (by have:=hw.lt;omega)).trans bR;have gD:Hid (Chg (fun b=>b=S) w wb):=by
  show Chg _ _ _
  rw[T,K];exact Chg.t (F:=fun b=>b=S) (Chg.t (F:=fun b=>b=S) (Chg.b b1.drew) (p:=⟨S,2,V⟩) (Or.inl Z) _) (p:=⟨S,3,V⟩) (Or.inl Z) _
 obtain⟨cx,b4⟩:=zz2 U X;have L:w1.cell? ⟨w.heap.size,0,V⟩=A (tv (A ⟨S,0,V⟩)):=by rw[FR _ _ _ _ _ _ P];rfl
 have P0:=fun x:RE.Two w1.drew R=>RE.Two.b (p:=⟨w.heap.size,0,V⟩) (show w1.drew.cell? ⟨w.heap.size,0,V⟩=_ from L) (by
  have:R.heap[w.heap.size]?=w1.heap[w.heap.size]?:=by rw[K,EW _ _ _ _ (show w.heap.size≠S by have:=hw.lt;omega)];rfl
  rw[FR _ _ _ _ _ _ (this.trans P)];rfl) x
 have cT:Hid (R.cell? ⟨S,3,V⟩=A (I Y N)):=by show _=_;rw[FR _ _ _ _ _ _ bb.h];rfl
 obtain⟨gE,cV⟩:=zz2 (cH bb.h) K;obtain⟨res,ad⟩:=zzx (iR d types r);have HR:Hid (res=(cB r.a.data.toList&&r8 (-1000≤r.c)&&r8 (r.c≤1000)&&r8 (y≤8)&&r8 (D≤8)&&match dO d types (0,0) r.d with|none=>r7|some s=>r.b==s.1&&r8 (s.1≤16)&&r.e.all (bZ d types s))):=by
  show _=_
  rw[ad,←a7,←a8];rfl
 rw[←ad];clear ad P bR b1 B hw br bt cl ck cv bb b3 U X a7 a8
 go_enter Tryz.func17,Tryz.ntmps17
 go_upto_region 1 with fail
 change Code.wp _ _ _ _ ((w.alloc (p8 #[tv (A ⟨S,0,V⟩)] 72)).alloc (p8 #[p9 r.a,I Y r.c,I Y r.b,O pc y cc,O pa D ca] 39));rw[←ba];clear ba K;refine RE.t (by kernel_rfl) 7 [4] [4] (fun s W=>if s=0 then W=w1.drew else W=R) (fun _ _=>True) (fun _ _=>undef) (fun _ _ _=>True) (by kernel_rfl) (fun i h1 h2=>by rw[h1]at h2;cases h2) (fun _ _ _ _ _ _ _=>trivial) Z ?_;simp only[Fg,Fu,Fh,Ft]
 repeat (refine RE.h (fun W=>∃x:RE.Two w1.drew R,W=x.1) RE.y Z Z Z Z ?_;go_big_quiet_step (fail);refine vk ?_)
 refine RE.b Z Z ?_ (fun xs=>?_)
 ·intro W hC hS _;obtain rfl:W=w1.drew:=hS Z;refine RE.upon_skip (w':=w1.drew.setCell ⟨S,2,V⟩ (I Y 0)) ?_ ⟨[],Z,cV.o.symm,trivial,trivial⟩;have gF:=run_store_int w1.drew S 2 0 _ Q (cu 2);simp[execOp,Act.eval,gF]
 simp only[Act.put]
 repeat (refine RE.h (fun W=>∃x:RE.Two w1.drew R,W=x.1) RE.y Z Z Z Z ?_;go_big_quiet_step (fail);refine vk ?_)
 refine RE.q ?_;intro W hS _;have hS:W=R:=hS;rw[hS];clear hS P0 Q b2 cu L;have b2:=cT.o;have fz:=gE.o;go_upto_region 2 with fail
 rw[←T];clear T b2 fz;obtain⟨e0,e1,e2,e3,e4⟩:=cells5 b4.o;go_wp2_with fail
 refine (ct.o wb).mono ?_;rintro e W3 ⟨rfl,af⟩;have HC:Hid (Chg (fun b=>b=S) w W3):=gD.o.h (Chg.b af);have HW:=Hd (gm.o.C af);have cW:=ag af cx.o (ES.1 cx.o).1;have b5:=ag af b4.o (ES.1 b4.o).1;obtain⟨dc,dg⟩:=zz2 cW b5;clear af e0 e1 e2 e3 e4 ct cW;obtain⟨e0,e1,e2,e3,e4⟩:=cells5 b5;clear b5
 cases bc:cB r.a.data.toList with
 | false =>
  have g:Hid (res=r7):=by show _=_;rw[HR.o,bc];rfl
  clear bc;go_wp2_with fail
  go_ret;exact⟨HC.o,by rw[g.o];rfl,_,_,HW.o⟩
 | true =>
 have gH:=Hd bc;clear bc
 by_cases h1:r.c < -1000
 ·have g:Hid (res=r7):=by show _=_;rw[HR.o,oB (show ¬-1000≤r.c by omega)];simp
  go_wp2_with fail
  go_ret;exact⟨HC.o,by rw[g.o];rfl,_,_,HW.o⟩
 by_cases h2:1000<r.c
 ·have g:Hid (res=r7):=by show _=_;rw[HR.o,oB (show ¬r.c≤1000 by omega)];simp
  go_wp2_with fail
  go_ret;exact⟨HC.o,by rw[g.o];rfl,_,_,HW.o⟩
 by_cases h3:8<y
 ·have gL:(8:Int)<y:=by omega
  have g:Hid (res=r7):=by show _=_;rw[HR.o,oB (show ¬y≤8 by omega)];simp
  go_wp2_with fail
  go_ret;exact⟨HC.o,by rw[g.o];rfl,_,_,HW.o⟩
 have gL:¬(8:Int)<y:=by omega
 by_cases h4:8<D
 ·have gM:(8:Int)<D:=by omega
  have g:Hid (res=r7):=by show _=_;rw[HR.o,oB (show ¬D≤8 by omega)];simp
  go_wp2_with fail
  go_ret;exact⟨HC.o,by rw[g.o];rfl,_,_,HW.o⟩
 have gM:¬(8:Int)<D:=by omega
 have dr:Hid (res=match dO d types (0,0) r.d with|none=>r7|some s=>r.b==s.1&&r8 (s.1≤16)&&r.e.all (bZ d types s)):=by
  show _=_
  rw[HR.o,gH.o,decide_eq_true (show -1000≤r.c by omega),decide_eq_true (show r.c≤1000 by omega),decide_eq_true (show y≤8 by omega),decide_eq_true (show D≤8 by omega)];rfl
 clear HR;go_wp2_with fail
 go_loopw [42] (vB F S d types rules vT vR r y w #[p9 r.a,I Y r.c,I Y r.b,O pc y cc,O pa D ca]) (fun i _=>y-(intOf i).toNat)
 case atStart=>exact⟨0,0,0,Fi _,Z,Z,Int.le_refl _,by omega,Int.le_refl _,by omega,dc.o,dg.o,HW.o,HC.o⟩
 case round =>
  obtain⟨j,nv,nf,hj,rfl,ds,hh,hi,hk,hl,U,X,dv,eg⟩:=hrel;have hn:(0:Int)≤j:=by omega
  obtain⟨en,ak,aq,z,E⟩:=zz5 ds U X dv eg;clear ds U X dv eg e0 e1 e2 e3 e4 HW HC dc dg
  by_cases gN:j<y
  ·have hp:(j:Int)<y:=by omega
   obtain⟨c,hc⟩:∃c,r.d[j]?=A c:=⟨_,EX (by rw[bB.o];exact gN)⟩;have bl:(ec d).y wr F r.d (O pc y cc):=Rd.qv (fun b G o ho=>(E.o.q b (HF.o b G).1 (HF.o b G).2).trans ho) gf.o;have eo:=Rd.T bl hc;rw[bB.o]at eo;obtain⟨b,off,cap,vs,gO,_,_,_,_,b6,a⟩:=eo;rw[gr]at a;injection gO with gS _ gT
   subst gS;subst gT;have bn:=b6;obtain⟨_,_,_,hr,s',rfl,er,et⟩:=gh.1 bn;obtain⟨qa,da,ev⟩:=Rd.b er;obtain⟨q,dd,e5⟩:=bY et;obtain⟨ma,e6⟩:=zzy (c.c.length);obtain⟨m,hm⟩:=zzy (c.a.u.length);rw[e6]at ev;rw[hm]at e5;subst ev;subst e5;have c0:wr.cell? ⟨b,off+j*10,V⟩=A (I J c.b):=a 0 _ Z;have c1:wr.cell? ⟨b,off+j*10+1,V⟩=A (I Y c.h):=a 1 _ Z;have c2:wr.cell? ⟨b,off+j*10+2,V⟩=A (O qa ma da):=a 2 _ Z;have c3:wr.cell? ⟨b,off+j*10+3,V⟩=A (I J c.a.b):=a 3 _ Z;have c4:wr.cell? ⟨b,off+j*10+4,V⟩=A (I J c.a.h.b):=a 4 _ Z;have c5:wr.cell? ⟨b,off+j*10+5,V⟩=A (I Y c.a.h.q):=a 5 _ Z;have c6:wr.cell? ⟨b,off+j*10+6,V⟩=A (p9 c.a.h.h):=a 6 _ Z;have c7:wr.cell? ⟨b,off+j*10+7,V⟩=A (I Y c.a.q):=a 7 _ Z;have c8:wr.cell? ⟨b,off+j*10+8,V⟩=A (I J c.a.op):=a 8 _ Z;have c9:wr.cell? ⟨b,off+j*10+9,V⟩=A (O q m dd):=a 9 _ Z;obtain⟨w5,bd⟩:=zzx (wr.alloc (p8 #[I J c.b,I Y c.h,O qa ma da,I J c.a.b,I J c.a.h.b,I Y c.a.h.q,p9 c.a.h.h,I Y c.a.q,I J c.a.op,O q m dd] 53));have M:FS wr w5:=by rw[bd];exact (EU _ wr).alloc (ET _) _
   have e7:w5.heap[wr.heap.size]?=A (p8 #[I J c.b,I Y c.h,O qa ma da,I J c.a.b,I J c.a.h.b,I Y c.a.h.q,p9 c.a.h.h,I Y c.a.q,I J c.a.op,O q m dd] 53 (0,0)):=by rw[bd];exact ot wr _
   have b7:=ag M ak.o (ES.1 ak.o).1;have e8:=ag M aq.o (ES.1 aq.o).1;obtain⟨e9,fe,C⟩:=zz3 b7 e8 (yk F S d types rules vT vR nv nf c (O qa ma da) (O q m dd) w5 (z.o.C M) ((ec d).t (fun b G o ho=>(M.block b (z.o.f b G).1).trans ho) b6) (by omega) (by omega) cr.o);have ha:Hid (Chg (fun b=>b=S) w w5):=E.o.h (Chg.b M);have fm:=Hd (vJ hc en.o);obtain⟨k0,k1,k2,k3,k4,k5,k6,k7,k8,k9⟩:=dS e7;have p0:w5.cell? ⟨w.heap.size,0,V⟩=A (tv (A ⟨S,0,V⟩)):=by rw[FR _ _ _ _ _ _ b7];rfl
   clear bl b6 bn a er et e6 hm hc M e7 b7 e8;go_upto_region 7 with fail
   change Code.wp _ _ _ _ (wr.alloc (p8 #[I J c.b,I Y c.h,O qa ma da,I J c.a.b,I J c.a.h.b,I Y c.a.h.q,p9 c.a.h.h,I Y c.a.q,I J c.a.op,O q m dd] 53));rw[←bd];clear bd c0 c1 c2 c3 c4 c5 c6 c7 c8 c9;go_wp2_with fail
   refine C.o.mono ?_;rintro e W4 ⟨H,rfl,hs,ht,fp,b8⟩;have fr:Hid (Chg (fun b=>b=S) w W4):=ha.o.h H;have b9:=(H.q _ (ES.1 e9.o).1 (by have:=bk.o;omega)).trans e9.o;have cb:=(H.q _ (ES.1 fe.o).1 (by have:=bk.o;omega)).trans fe.o;have fv:=Hd fp;clear H fp k0 k1 k2 k3 k4 k5 k6 k7 k8 k9 p0
   cases hq:ci d types (nv,nf) c with
   | none =>
    have g:Hid (res=r7):=by
     show _=_
     rw[dr.o,nE r.d (0,0) (j+1) (fm.o.trans hq)]
    clear hq b8 b9 cb;go_wp2_with fail
    go_ret;exact⟨fr.o,by rw[g.o];rfl,_,_,fv.o⟩
   | some u =>
    obtain⟨fI,fT⟩:=b8 u hq;have hle:=As cr.o hq;dsimp only at hle;have hd:Hid (vB F S d types rules vT vR r y w #[p9 r.a,I Y r.c,I Y r.b,O (A ⟨b,off,V⟩) y cc,O pa D ca] (I Y ((j+1:Nat):Int)) W4):=
     ⟨j+1,u.1,u.2,by omega,Z,fm.o.trans hq,by omega,by omega,by omega,by omega,b9,cb,by rw[←fI,←fT];exact fv.o,fr.o⟩
    clear hq b8 fI fT hle b9 cb;go_wp2_with fail
    refine⟨hd.o,?_⟩;simp[intOf];omega
  ·have k:dO d types (0,0) r.d=A (nv,nf):=by
    rw[←en.o,Fq (by rw[bB.o];omega)]
   have ch:Hid (res=(r.b==nv&&r8 (nv≤16)&&r.e.all (bZ d types (nv,nf)))):=by show _=_;rw[dr.o,k]
   clear k;obtain⟨e0,e1,e2,e3,e4⟩:=cells5 aq.o;have L:wr.cell? ⟨w.heap.size,0,V⟩=A (tv (A ⟨S,0,V⟩)):=by rw[FR _ _ _ _ _ _ ak.o];rfl
   have Q:wr.cell? ⟨S,2,V⟩=A (I Y nv):=z.o.b;have ar:(fG d).y wr F r.e (O pa D ca):=Rd.qv (fun b G o ho=>(E.o.q b (HF.o b G).1 (HF.o b G).2).trans ho) gg.o;have C:=Hd (fun (x:Wb wr)=>Al F S d types rules vT vR nv nf r.e (O pa D ca) w.heap.size x.1 (z.o.C x.2) (x.b L) (Rd.qv (fun b G o ho=>(x.2.block b (z.o.f b G).1).trans ho) ar));have T0:=fun x:Wb wr=>x.b L
   have R2:=fun x:Wb wr=>x.b e2
   have R4:=fun x:Wb wr=>x.b e4
   have V2:=fun x:Wb wr=>x.b Q
   clear ar;go_upto_region 10 with fail
   clear e0 e1 e2 e3 e4 L Q
   by_cases av:r.b=nv
   ·have a1:(r.b==nv)=true:=by simpa using av
    have ga:r8 (r.b=nv)=true:=decide_eq_true av;have hv:=Hd av
    by_cases gb:nv≤16
    ·have a6:r8 (nv≤16)=true:=decide_eq_true gb;have g:Hid (res=r.e.all (bZ d types (nv,nf))):=by show _=_;rw[ch.o,a1,a6];rfl
     cases k:r.e.all (bZ d types (nv,nf)) with
     | true =>
      rw[k]at C g;clear k;refine aj (by kernel_rfl) (by kernel_rfl) ?_
      repeat (go_big_quiet_step ((go_at_call 35;exact Calls.b (C.o _))))
      refine vk ?_;intro W2 l;have n:=aE l;have v:=Hd n;clear l n T0 R2 R4 V2;go_wp2_with fail
      go_ret;exact⟨E.o.h (Chg.b v.o),by rw[g.o];first|rfl|simp_all,_,_,z.o.C v.o⟩
     | false =>
      rw[k]at C g;clear k;refine aj (by kernel_rfl) (by kernel_rfl) ?_
      repeat (go_big_quiet_step ((go_at_call 35;exact Calls.b (C.o _))))
      refine vk ?_;intro W2 l;have n:=aE l;have v:=Hd n;clear l n T0 R2 R4 V2;go_wp2_with fail
      go_ret;exact⟨E.o.h (Chg.b v.o),by rw[g.o];first|rfl|simp_all,_,_,z.o.C v.o⟩
    ·have a6:r8 (nv≤16)=false:=oB gb;have g:Hid (res=r7):=by show _=_;rw[ch.o,a6];simp
     refine aj (by kernel_rfl) (by kernel_rfl) ?_
     repeat (go_big_quiet_step ((go_at_call 35;exact Calls.below_of (C.o _))))
     refine vk ?_;intro W2 l;have n:=aE l;have v:=Hd n;clear l n T0 R2 R4 V2;go_wp2_with fail
     go_ret;exact⟨E.o.h (Chg.b v.o),by rw[g.o];first|rfl|simp_all,_,_,z.o.C v.o⟩
   ·have a1:(r.b==nv)=false:=by simpa using av
    have ga:r8 (r.b=nv)=false:=oB av;have g:Hid (res=r7):=by show _=_;rw[ch.o,a1];rfl
    refine aj (by kernel_rfl) (by kernel_rfl) ?_
    repeat (go_big_quiet_step ((go_at_call 35;exact Calls.below_of (C.o _))))
    refine vk ?_;intro W2 l;have n:=aE l;have v:=Hd n;clear l n T0 R2 R4 V2;go_wp2_with fail
    go_ret;exact⟨E.o.h (Chg.b v.o),by rw[g.o];first|rfl|simp_all,_,_,z.o.C v.o⟩
theorem mr:∀(l k seen:List ByteArray),apartB seen (l++k)=r5→apartB seen l=r5
 | [],_,_,_=>rfl
 | x::l,k,seen,h=>by
  rw[List.cons_append]at h;unfold apartB at h ⊢;simp only[Fp]at h ⊢;exact⟨h.1,mr l k _ h.2⟩
theorem se(x y:ByteArray):∀(l:List ByteArray) (m j:Nat),l[j]?=A y→(y.data.toList==x.data.toList)=r5→gl x l m=(match gl x (l.take j) m with|some k=>A k|none=>A (m+j))
 | [],m,j,h,_=>by simp at h
 | z::l,m,0,h,he=>by
  simp only[List.getElem?_cons_zero,oF]at h;subst h;rw[Fu];unfold gl;rw[oA he];rfl
 | z::l,m,j+1,h,he=>by
  rw[FN]at h;rw[Fg];unfold gl
  split
  ·rfl
  ·rw[se x y l (m+1) j h he]
   cases gl x (l.take j) (m+1) with
   | none=>simp only;congr 1;omega
   | some k=>rfl
theorem ub{x:ByteArray}{l:List ByteArray}{j:Nat}(h:l[j]?=A x):(eh (idxOf x l)=(j:Int))↔(idxOf x (l.take j)).isSome=false:=by
 unfold idxOf;rw[se x x l 0 j h (by simp)]
 cases a:gl x (l.take j) 0 with
 | none=>simp[eh]
 | some k =>
  have:=(kM x (l.take j) 0 k a).2;rw[List.length_take]at this;simp only[eh,Option.isSome_some,Bool.true_eq_false,iff_false];omega
theorem rY{α:Type}{f:α→Bool}{l:List α}{j:Nat}{x:α}(a:l[j]?=A x)(h:(l.take j).all f=r5)(b:f x=r5):(l.take (j+1)).all f=true:=by
 rw[FI,a,List.all_append,h];simp[b]
theorem lV{α:Type}{f:α→Bool}{l:List α}{j:Nat}{x:α}(a:l[j]?=A x)(b:f x=r7):l.all f=false:=by
 rw[List.all_eq_false];exact⟨x,Fv a,by rw[b];decide⟩
theorem qd{l:List ByteArray}{j:Nat}{x:ByteArray}(a:l[j]?=A x)(h:apartB [] (l.take j)=r5)(b:(idxOf x (l.take j)).isSome=r7):apartB [] (l.take (j+1))=true:=by
 rw[FI,a]
 show apartB [] (l.take j++[x])=r5
 rw[lc,h,List.nil_append,b];rfl
theorem rX{l:List ByteArray}{j:Nat}{x:ByteArray}(d:l[j]?=A x)(e:(idxOf x (l.take j)).isSome=r5):apartB [] l=false:=by
 cases a:apartB [] l with
 | false=>rfl
 | true =>
  rw[←List.take_append_drop (j+1) l]at a;have b:=mr _ _ _ a;rw[FI,d]at b;have c:apartB [] (l.take j++[x])=true:=b;rw[lc,List.nil_append,e]at c;simp at c
def xr(F:Nat→Prop) (d:Nat) (R:bO) (b c:Option Addr) (a e f cR:Nat) (w:p7) (i:r3) (W:p7):Prop:=
 ∃(j:Nat),j≤a∧i=I Y (j:Int)∧(R.a.take j).all fE=r5∧apartB [] ((R.a.map ap.a).take j)=r5∧FS w W∧W.heap[w.heap.size]?=A (p8 #[O b a e,O c f cR] 26 (0,0))∧SuW F (w.heap.size+1) d R.a R.b (O b a e) (O c f cR) 0 0 W
def xp(F:Nat→Prop) (d:Nat) (R:bO) (b c:Option Addr) (e f a cR:Nat) (w:p7) (i:r3) (W:p7):Prop:=
 ∃(j:Nat) (nv nf:Int),j≤a∧i=I Y (j:Int)∧(R.b.take j).all (iR d R.a)=r5∧apartB [] ((R.b.map au.a).take j)=r5∧FS w W∧SuW F (w.heap.size+1) d R.a R.b (O b e f) (O c a cR) nv nf W
theorem v7(F:Nat→Prop)(d:Nat)(R:bO)(st sr:r3)(w:p7)(hF:∀b,F b→b<w.heap.size)(ht:cN.y w F R.a st)(hr:(dP d).y w F R.b sr) :
  Calls Tryz.prog 8 #[s3 #[st,sr]] w (ao (rm d R) w):=by
 obtain⟨M,G,cv⟩:=Rd.b ht;obtain⟨pR,cR,cx⟩:=Rd.b hr;have e6:=Rd.ss ht;have e7:=Rd.ss hr;obtain⟨u,bt⟩:=zzy (R.a.length);obtain⟨v,bB⟩:=zzy (R.b.length);rw[bt]at cv e6;rw[bB]at cx e7;subst cv;subst cx;obtain⟨bR,b1⟩:=zz2 bt bB;obtain⟨w1,b2⟩:=zzx ((w.alloc (p8 #[O M u G,O pR v cR] 26)).alloc (p8 #[O M u G,O pR v cR,I Y 0,I Y 0] 76));obtain⟨av,b8,_⟩:=ay w (p8 #[O M u G,O pR v cR] 26) (p8 #[O M u G,O pR v cR,I Y 0,I Y 0] 76);have a1:FS w w1:=by rw[b2];exact ((EU _ w).alloc (ET _) _).alloc (by simp) _
 rw[←b2]at av b8;obtain⟨e8,b9⟩:=zz2 av a1;have e9:Hid (SuW F (w.heap.size+1) d R.a R.b (O M u G) (O pR v cR) 0 0 w1):=⟨b8,fun b H=>⟨EY (hF b H) a1.size,by have:=hF b H;omega⟩,Rd.u ht hF a1,Rd.u hr hF a1⟩;obtain⟨HF,fe,fm⟩:=zz3 hF ht hr;obtain⟨res,a6⟩:=zzx (rm d R);have HR:Hid (res=(r8 (u≤32)&&r8 (v≤64)&&R.a.all fE&&apartB [] (R.a.map ap.a)&&R.b.all (iR d R.a)&&apartB [] (R.b.map au.a))):=by
  show _=_
  rw[a6,←bt,←bB];rfl
 rw[←a6];have e0:w1.cell? ⟨w.heap.size,0,V⟩=A (O M u G):=by rw[FR _ _ _ _ _ _ av];rfl
 have e1:w1.cell? ⟨w.heap.size,1,V⟩=A (O pR v cR):=by rw[FR _ _ _ _ _ _ av];rfl
 clear a6 av b8 a1 hF ht hr bt bB
 go_enter Tryz.func8,Tryz.ntmps8
 go_upto_region 2 with fail
 change Code.wp _ _ _ _ ((w.alloc (p8 #[O M u G,O pR v cR] 26)).alloc (p8 #[O M u G,O pR v cR,I Y 0,I Y 0] 76));rw[←b2];clear b2
 by_cases gb:32<u
 ·have cV:(32:Int)<u:=by omega
  have l:Hid (res=r7):=by show _=_;rw[HR.o,oB (show ¬u≤32 by omega)];rfl
  go_wp2_with fail
  go_ret;exact⟨by rw[l.o];rfl,b9.o⟩
 have cV:¬(32:Int)<u:=by omega
 by_cases gf:64<v
 ·have cW:(64:Int)<v:=by omega
  have l:Hid (res=r7):=by show _=_;rw[HR.o,oB (show ¬v≤64 by omega)];simp
  go_wp2_with fail
  go_ret;exact⟨by rw[l.o];rfl,b9.o⟩
 have cW:¬(64:Int)<v:=by omega
 have a7:Hid (res=(R.a.all fE&&apartB [] (R.a.map ap.a)&&R.b.all (iR d R.a)&&apartB [] (R.b.map au.a))):=by
  show _=_
  rw[HR.o,decide_eq_true (show u≤32 by omega),decide_eq_true (show v≤64 by omega)];rfl
 clear HR;go_wp2_with fail
 go_loopw [25] (xr F d R M pR u G v cR w) (fun i _=>u-(intOf i).toNat)
 case atStart=>exact⟨0,Fi _,Z,Z,Z,b9.o,e8.o,e9.o⟩
 case round =>
  obtain⟨j,hj,rfl,N,a8,ba,hx,bb⟩:=hrel;have c5:(0:Int)≤j:=by omega
  obtain⟨E,af,D,HX,P⟩:=zz5 N a8 ba hx bb;clear N a8 ba hx bb e0 e1
  by_cases b3:j<u
  ·have fp:(j:Int)<u:=by omega
   obtain⟨t,bc⟩:∃t,R.a[j]?=A t:=⟨_,EX (by rw[bR.o];exact b3)⟩;have bd:=Rd.T (Rd.u fe.o HF.o D.o) bc;rw[bR.o]at bd;obtain⟨b,off,cap,vs,ca,_,_,_,_,bk,a⟩:=bd;injection ca with cb _ ch
   subst cb;subst ch;obtain⟨rfl,bl,_⟩:=fW.1 bk;have c0:wr.cell? ⟨b,off+j*2,V⟩=A (p9 t.a):=a 0 _ Z;have c1:wr.cell? ⟨b,off+j*2+1,V⟩=A (I Y t.b):=a 1 _ Z;obtain⟨c,K⟩:=zzx (wr.alloc (p8 #[p9 t.a,I Y t.b] 41));have z:FS wr c:=by rw[K];exact (EU _ wr).alloc (ET _) _
   have S:c.heap[wr.heap.size]?=A (p8 #[p9 t.a,I Y t.b] 41 (0,0)):=by rw[K];exact ot wr _
   obtain⟨n,c6,L⟩:=zz3 (D.o.trans (z.mono D.o.size)) (ag z HX.o (ES.1 HX.o).1) (P.o.C z);obtain⟨T,U⟩:=zzx (eh (dC t.a R.a));have bn:Hid (T=(j:Int)↔(idxOf t.a ((R.a.map ap.a).take j)).isSome=r7):=by
    rw[U];exact ub (by rw[List.getElem?_map,bc];rfl)
   obtain⟨Q,X⟩:=zz2 (fun (x:Wb c)=>oH t.a x.1 bl) (fun (x:Wb c)=>pm R.a t.a _ F (w.heap.size+1) x.1 (L.o.C x.2).t (fun b H=>((L.o.C x.2).f b H).1) (by rw[FR _ _ _ _ _ _ (L.o.C x.2).h];rfl));rw[←U]at X;have HT:=Hd bc;have c7:Hid ((R.a.map ap.a)[j]?=A t.a):=by show _=_;rw[List.getElem?_map,bc];rfl
   have k0:c.cell? ⟨wr.heap.size,0,V⟩=A (p9 t.a):=by rw[FR _ _ _ _ _ _ S];rfl
   have k1:c.cell? ⟨wr.heap.size,1,V⟩=A (I Y t.b):=by rw[FR _ _ _ _ _ _ S];rfl
   have T0:=fun x:Wb c=>x.b k0
   have T1:=fun x:Wb c=>x.b k1
   clear bk a bc z S bl U;go_upto_region 7 with fail
   change Code.wp _ _ _ _ (wr.alloc (p8 #[p9 t.a,I Y t.b] 41));rw[←K];clear K c0 c1 k0 k1
   cases ak:cB t.a.data.toList with
   | false =>
    rw[ak]at Q;have l:Hid (res=r7):=by show _=_;rw[a7.o,lV (f:=fE) HT.o (by unfold fE;rw[ak];rfl)];rfl
    clear ak;refine aj (by kernel_rfl) (by kernel_rfl) ?_
    repeat (go_big_quiet_step (first|(go_at_call 14;exact Calls.b (Q.o _))|(go_at_call 15;exact Calls.below_of (X.o _))))
    refine vk ?_;intro W2 g;have k:=aE g;have B:=Hd (n.o.trans (k.mono n.o.size));clear g k T0 T1;go_wp2_with fail
    go_ret;exact⟨by rw[l.o];rfl,B.o⟩
   | true =>
   rw[ak]at Q;have fr:=Hd ak;clear ak
   by_cases c8:t.b<0
   ·have c9:r8 (t.b<0)=true:=decide_eq_true c8;have l:Hid (res=r7):=by show _=_;rw[a7.o,lV (f:=fE) HT.o (by unfold fE;rw[oB (show ¬0≤t.b by omega)];simp)];rfl
    refine aj (by kernel_rfl) (by kernel_rfl) ?_
    repeat (go_big_quiet_step (first|(go_at_call 14;exact Calls.b (Q.o _))|(go_at_call 15;exact Calls.below_of (X.o _))))
    refine vk ?_;intro W2 g;have k:=aE g;have B:=Hd (n.o.trans (k.mono n.o.size));clear g k T0 T1;go_wp2_with fail
    go_ret;exact⟨by rw[l.o];rfl,B.o⟩
   have c9:r8 (t.b<0)=false:=oB c8
   by_cases dd:6<t.b
   ·have dg:r8 (6<t.b)=true:=decide_eq_true dd;have l:Hid (res=r7):=by show _=_;rw[a7.o,lV (f:=fE) HT.o (by unfold fE;rw[oB (show ¬t.b≤6 by omega)];simp)];rfl
    refine aj (by kernel_rfl) (by kernel_rfl) ?_
    repeat (go_big_quiet_step (first|(go_at_call 14;exact Calls.b (Q.o _))|(go_at_call 15;exact Calls.below_of (X.o _))))
    refine vk ?_;intro W2 g;have k:=aE g;have B:=Hd (n.o.trans (k.mono n.o.size));clear g k T0 T1;go_wp2_with fail
    go_ret;exact⟨by rw[l.o];rfl,B.o⟩
   have dg:r8 (6<t.b)=false:=oB dd;have b4:Hid (fE t=r5):=by show _=_;unfold fE;rw[fr.o,decide_eq_true (show 0≤t.b by omega),decide_eq_true (show t.b≤6 by omega)];rfl
   by_cases C:T=(j:Int)
   ·subst C;have ck:Hid ((idxOf t.a ((R.a.map ap.a).take j)).isSome=r7):=bn.o.1 Z;refine aj (by kernel_rfl) (by kernel_rfl) ?_
    repeat (go_big_quiet_step (first|(go_at_call 14;exact Calls.b (Q.o _))|(go_at_call 15;exact Calls.b (X.o _))))
    refine vk ?_;intro W2 g;have k:=aE g;have B:=Hd (n.o.trans (k.mono n.o.size));have cl:Hid (xr F d R (A ⟨b,off,V⟩) pR u G v cR w (I Y ((j+1:Nat):Int)) W2):=
     ⟨j+1,by omega,Z,rY HT.o E.o b4.o,qd c7.o af.o ck.o,B.o,ag k c6.o (ES.1 c6.o).1,L.o.C k⟩
    clear g k T0 T1 Q X;go_wp2_with fail
    refine⟨cl.o,?_⟩;simp[intOf];omega
   ·have fv:(T==(j:Int))=false:=by simpa using C
    have fz:(T != (j:Int))=true:=by simpa using C
    have fI:r8 (T=(j:Int))=false:=oB C;have l:Hid (res=r7):=by
     show _=_
     have:(idxOf t.a ((R.a.map ap.a).take j)).isSome=true:=by
      cases hc:(idxOf t.a ((R.a.map ap.a).take j)).isSome with
      | true=>rfl
      | false=>exact absurd (bn.o.2 hc) C
     rw[a7.o,rX c7.o this];simp
    refine aj (by kernel_rfl) (by kernel_rfl) ?_
    repeat (go_big_quiet_step (first|(go_at_call 14;exact Calls.b (Q.o _))|(go_at_call 15;exact Calls.b (X.o _))))
    refine vk ?_;intro W2 g;have k:=aE g;have B:=Hd (n.o.trans (k.mono n.o.size));clear g k T0 T1;go_wp2_with fail
    go_ret;exact⟨by rw[l.o];rfl,B.o⟩
  ·have ad:R.a.all fE=true:=by
    rw[←E.o,Fq (by rw[bR.o];omega)]
   have b6:apartB [] (R.a.map ap.a)=true:=by
    have h:=af.o;rw[Fq (by rw[List.length_map,bR.o];omega)]at h;exact h
   have dr:Hid (∀t∈R.a,t.b≤6):=fun t ht=>by
    have:=FG.1 ad t ht;unfold fE at this;simp only[Fp,oE]at this;exact this.2
   have cp:Hid (res=(R.b.all (iR d R.a)&&apartB [] (R.b.map au.a))):=by
    show _=_
    rw[a7.o,ad,b6];rfl
   have e0:wr.cell? ⟨w.heap.size,0,V⟩=A (O M u G):=by rw[FR _ _ _ _ _ _ HX.o];rfl
   have e1:wr.cell? ⟨w.heap.size,1,V⟩=A (O pR v cR):=by rw[FR _ _ _ _ _ _ HX.o];rfl
   clear ad b6 E af;go_wp2_with fail
   go_loopw [58] (xp F d R M pR u G v cR w) (fun i _=>v-(intOf i).toNat)
   case atStart=>exact⟨0,0,0,Fi _,Z,Z,Z,D.o,P.o⟩
   case round =>
    clear D HX P c5 b3 hj e0 e1;obtain⟨j,nv,nf,hj,rfl,N,a8,ba,bb⟩:=hrel;have c5:(0:Int)≤j:=by omega
    obtain⟨E,af,D,P⟩:=zz4 N a8 ba bb;clear N a8 ba bb
    by_cases b3:j<v
    ·have fp:(j:Int)<v:=by omega
     obtain⟨x,C⟩:∃x,R.b[j]?=A x:=⟨_,EX (by rw[b1.o];exact b3)⟩;have bd:=Rd.T (Rd.u fm.o HF.o D.o) C;rw[b1.o]at bd;obtain⟨b,off,cap,vs,ca,_,_,_,_,bk,a⟩:=bd;rw[BL]at a;injection ca with cb _ ch
     subst cb;subst ch;obtain⟨bl,_,_,sc,sa,rfl,cq,cr⟩:=gA.1 bk;obtain⟨qc,dc,ds⟩:=Rd.b cq;obtain⟨qa,da,dv⟩:=Rd.b cr;obtain⟨mc,eg⟩:=zzy (x.d.length);obtain⟨ma,en⟩:=zzy (x.e.length);rw[eg]at ds;rw[en]at dv;subst ds;subst dv;have c0:wr.cell? ⟨b,off+j*5,V⟩=A (p9 x.a):=a 0 _ Z;have c1:wr.cell? ⟨b,off+j*5+1,V⟩=A (I Y x.c):=a 1 _ Z;have c2:wr.cell? ⟨b,off+j*5+2,V⟩=A (I Y x.b):=a 2 _ Z;have c3:wr.cell? ⟨b,off+j*5+3,V⟩=A (O qc mc dc):=a 3 _ Z;have c4:wr.cell? ⟨b,off+j*5+4,V⟩=A (O qa ma da):=a 4 _ Z;obtain⟨c,K⟩:=zzx (wr.alloc (p8 #[p9 x.a,I Y x.c,I Y x.b,O qc mc dc,O qa ma da] 39));have z:FS wr c:=by rw[K];exact (EU _ wr).alloc (ET _) _
     have S:c.heap[wr.heap.size]?=A (p8 #[p9 x.a,I Y x.c,I Y x.b,O qc mc dc,O qa ma da] 39 (0,0)):=by rw[K];exact ot wr _
     obtain⟨n,L⟩:=zz2 (D.o.trans (z.mono D.o.size)) (P.o.C z);have eo:Hid (w.heap.size+1≠wr.heap.size):=by have:=P.o.lt;show _≠_;omega
     have er:Hid (wr.heap.size<c.heap.size):=(ES.1 S).1;obtain⟨T,U⟩:=zzx (eh (idxOf x.a (R.b.map au.a)));have bn:Hid (T=(j:Int)↔(idxOf x.a ((R.b.map au.a).take j)).isSome=r7):=by
      rw[U];exact ub (by rw[List.getElem?_map,C];rfl)
     have ct:=Hd (fun (y:Wb c)=>vK d R.b x.a _ F (w.heap.size+1) y.1 (L.o.C y.2).r (fun b H=>((L.o.C y.2).f b H).1) (by rw[FR _ _ _ _ _ _ (L.o.C y.2).h];rfl));rw[←U]at ct;have et:=Hd (fun (y:Wb c)=>vY F (w.heap.size+1) d R.a R.b (O M u G) (O (A ⟨b,off,V⟩) v cR) nv nf x (O qc mc dc) (O qa ma da) y.1 (L.o.C y.2) (Rd.qv (fun b H o ho=>((z.trans (y.2.mono z.size)).block b (P.o.f b H).1).trans ho) cq) (Rd.qv (fun b H o ho=>((z.trans (y.2.mono z.size)).block b (P.o.f b H).1).trans ho) cr) bl dr.o);have HX:=Hd C;have ev:Hid ((R.b.map au.a)[j]?=A x.a):=by show _=_;rw[List.getElem?_map,C];rfl
     obtain⟨k0,k1,k2,k3,k4⟩:=cells5 S;have K0:=fun y:Wb c=>y.b k0
     have L0:=fun y:Ks c (fun b=>b=wr.heap.size)=>y.b Z k0
     have L1:=fun y:Ks c (fun b=>b=wr.heap.size)=>y.b Z k1
     have L2:=fun y:Ks c (fun b=>b=wr.heap.size)=>y.b Z k2
     have L3:=fun y:Ks c (fun b=>b=wr.heap.size)=>y.b Z k3
     have L4:=fun y:Ks c (fun b=>b=wr.heap.size)=>y.b Z k4
     clear bk a C z S bl U cq cr eg en;go_upto_region 13 with fail
     change Code.wp _ _ _ _ (wr.alloc (p8 #[p9 x.a,I Y x.c,I Y x.b,O qc mc dc,O qa ma da] 39));rw[←K];clear K c0 c1 c2 c3 c4 k0 k1 k2 k3 k4
     by_cases aq:T=(j:Int)
     ·have ck:Hid ((idxOf x.a ((R.b.map au.a).take j)).isSome=r7):=bn.o.1 aq;subst aq;obtain⟨ok,cu⟩:=zzx (iR d R.a x);have b4:=Hd cu;rw[←cu]at et;clear K0 cu
      let SS:Nat→p7→Prop:=fun s W=>if s=0 then (∃y:Wb c,W=y.1) else (Chg (fun b=>b=w.heap.size+1) c W∧∃p q,SuW F (w.heap.size+1) d R.a R.b (O M u G) (O (A ⟨b,off,V⟩) v cR) p q W)
      have bq:SS 0 c.drew:=⟨⟨c.drew,(EU _ _).drew⟩,Z⟩;have b5:∀(m s:Nat) (W:p7),s≤m→SS s W→∃y:Ks c (fun b=>b=wr.heap.size),W=y.1:=fun m s W _ h=>by
       refine⟨⟨W,fun b H=>?_⟩,Z⟩;subst H
       by_cases ar:s=0
       ·subst ar;obtain⟨y,rfl⟩:∃y:Wb c,W=y.1:=h;exact y.2.block _ er.o
       ·have h:(Chg (fun b=>b=w.heap.size+1) c W∧∃p q,SuW F (w.heap.size+1) d R.a R.b (O M u G) (O (A ⟨b,off,V⟩) v cR) p q W):=by simpa only [SS,ox ar]using h
        exact h.1.q _ er.o (fun e=>eo.o e.symm)
      refine RE.t (by kernel_rfl) 14 [5,11] [11] SS (fun _ _=>True) (fun i _=>if i=5 then I Y (j:Int) else if i=11 then ur ok else undef) (fun _ _ _=>True) (by kernel_rfl) ?_ (fun _ _ _ _ _ _ _=>trivial) bq ?_
      ·intro i he hc s W W' h H
       by_cases ar:s=0
       ·subst ar;exact cd h H
       ·have h:(Chg (fun b=>b=w.heap.size+1) c W∧∃p q,SuW F (w.heap.size+1) d R.a R.b (O M u G) (O (A ⟨b,off,V⟩) v cR) p q W):=by simpa only [SS,ox ar]using h
        obtain⟨h1,p,q,h2⟩:=h;have h':(Chg (fun b=>b=w.heap.size+1) c W'∧∃p q,SuW F (w.heap.size+1) d R.a R.b (O M u G) (O (A ⟨b,off,V⟩) v cR) p q W'):=⟨h1.h (Chg.b H),p,q,h2.C H⟩
        simpa only [SS,ox ar]using h'
      simp only[Fg,Fu,Fh,Ft]
      repeat (refine RE.h (fun W=>∃y:Ks c (fun b=>b=wr.heap.size),W=y.1) (b5 _) Z Z Z bq ?_;go_big_quiet_step (fail);refine vk ?_)
      refine RE.b Z Z ?_ (fun gg=>?_)
      ·intro W hC _ hE;obtain⟨s9,e2,h9⟩:=hC;have e2:s9≤0:=EZ e2 (Nat.le_of_eq (by kernel_rfl));obtain rfl:s9=0:=by omega
       obtain⟨y,rfl⟩:∃y:Wb c,W=y.1:=h9;refine RE.u 16 _ _ Z (enters_of Tryz.func16 (by kernel_rfl) Z) #[tv (A ⟨w.heap.size+1,0,V⟩),p9 x.a] (by simp[Act.eval]) ((ct.o y).mono ?_);rintro e W' ⟨rfl,H⟩;exact⟨_,Z,[],Z,H,trivial,trivial⟩
      simp only[Act.put,EV,Fe,Fc,Nat.reduceAdd,↓reduceIte]
      repeat (refine RE.h (fun W=>∃y:Ks c (fun b=>b=wr.heap.size),W=y.1) (b5 _) Z Z Z bq ?_;go_big_quiet_step (fail);refine vk ?_)
      refine RE.b Z Z ?_ (fun ga=>?_)
      ·intro W hC hS hE;obtain⟨y,rfl⟩:∃y:Wb c,W=y.1:=hS Z;refine RE.u 17 _ _ Z (enters_of Tryz.func17 (by kernel_rfl) Z) #[tv (A ⟨w.heap.size+1,0,V⟩),s3 #[p9 x.a,I Y x.c,I Y x.b,O qc mc dc,O qa ma da]] (by simp[Act.eval]) ((et.o y).mono ?_);rintro e W' ⟨hc,rfl,p,q,g⟩;exact⟨_,Z,[],Z,⟨(Chg.b y.2).h hc,p,q,g⟩,trivial,trivial⟩
      simp only[Act.put,EV,Fe,Fc,Nat.reduceAdd,Nat.reduceEqDiff,↓reduceIte]
      repeat (refine RE.h (fun W=>∃y:Ks c (fun b=>b=wr.heap.size),W=y.1) (b5 _) Z Z Z bq ?_;go_big_quiet_step (fail);refine vk ?_)
      refine RE.q ?_;intro W hS _;obtain⟨e3,p,q,e4⟩:(Chg (fun b=>b=w.heap.size+1) c W∧∃p q,SuW F (w.heap.size+1) d R.a R.b (O M u G) (O (A ⟨b,off,V⟩) v cR) p q W):=hS;have e5:Hid (FS w W):=Chg.T n.o e3 (fun b H=>by omega) n.o.size;have fT:=Hd e4;clear e3 e4 L0 L1 L2 L3 L4 b5 bq
      cases ok with
      | true =>
       have cl:Hid (xp F d R M (A ⟨b,off,V⟩) u G v cR w (I Y ((j+1:Nat):Int)) W):=
        ⟨j+1,p,q,by omega,Z,rY HX.o E.o b4.o.symm,qd ev.o af.o ck.o,e5.o,fT.o⟩
       go_wp2_with fail
       refine⟨cl.o,?_⟩;simp[intOf];omega
      | false =>
       have l:Hid (res=r7):=by show _=_;rw[cp.o,lV (f:=iR d R.a) HX.o b4.o.symm];rfl
       go_wp2_with fail
       go_ret;exact⟨by rw[l.o];rfl,e5.o⟩
     ·have fv:(T==(j:Int))=false:=by simpa using aq
      have fz:(T != (j:Int))=true:=by simpa using aq
      have fI:r8 (T=(j:Int))=false:=oB aq;have l:Hid (res=r7):=by
       show _=_
       have:(idxOf x.a ((R.b.map au.a).take j)).isSome=true:=by
        cases hc:(idxOf x.a ((R.b.map au.a).take j)).isSome with
        | true=>rfl
        | false=>exact absurd (bn.o.2 hc) aq
       rw[cp.o,rX ev.o this];simp
      clear L0 L1 L2 L3 L4;refine aj (by kernel_rfl) (by kernel_rfl) ?_
      repeat (go_big_quiet_step ((go_at_call 16;exact Calls.b (ct.o _))))
      refine vk ?_;intro W2 g;have k:=aE g;have B:=Hd (n.o.trans (k.mono n.o.size));clear g k K0;go_wp2_with fail
      go_ret;exact⟨by rw[l.o];rfl,B.o⟩
    ·have br:R.b.all (iR d R.a)=true:=by
      rw[←E.o,Fq (by rw[b1.o];omega)]
     have b7:apartB [] (R.b.map au.a)=true:=by
      have h:=af.o;rw[Fq (by rw[List.length_map,b1.o];omega)]at h;exact h
     have l:Hid (res=r5):=by show _=_;rw[cp.o,br,b7];rfl
     clear br b7;go_wp2_with fail
     go_ret;exact⟨by rw[l.o];rfl,D.o⟩
