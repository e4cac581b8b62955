/- Parts of one proof, joined; conditions stand in each theorem. -/
import Derived.Test.YtkhfjgjjhlnnnaaGreatDoorYNV
open Go renaming Value→wF,World→wD,wpQuiet_nil→Bk
open Go.Value renaming bool→AJ,int→I,pointer→xV,agg→xS,string→J,slice→A
open Go.IntKind renaming i64→Z,u8→O
open Option renaming some→Y,none→U
open Go.Obj renaming cells→wq
open Bool renaming false→xj,true→wP
open Decidable renaming decide→xv
namespace Go.Proofs.YtkhfjgjjhlnnnaaGreatDoor
set_option maxHeartbeats 16000000
set_option maxRecDepth 100000
open Go.RowKit
def BX(F:Nat→Prop) (S d:Nat) (types:List ae) (rules:List an) (vT vR:wF) (b:Bool) (w:wD) (e:Ending) (w':wD):Prop:=
 Chg (fun b=>b=S) w w'∧e=Ending.returned (AJ b)∧∃a c,SuW F S d types rules vT vR a c w'
def zq9(F:Nat→Prop) (S d:Nat) (types:List ae) (rules:List an) (vT vR:wF) (r:an) (a:Nat) (w:wD) (rc:Array wF) (i:wF) (W:wD):Prop:=
 ∃(j:Nat) (nv nf:Int),j≤a∧i=I Z (j:Int)∧dT d types (0,0) (r.c.take j)=Y (nv,nf)∧0≤nv∧nv≤6*j∧0≤nf∧nf≤j∧
  W.heap[w.heap.size]?=Y (wq #[xV (Y ⟨S,0,U⟩)] 92 (0,0))∧W.heap[w.heap.size+1]?=Y (wq rc 50 (0,0))∧SuW F S d types rules vT vR nv nf W∧Chg (fun b=>b=S) w W
theorem Ap{d:Nat}{types:List ae}{s f:Int×Int}{c:aW}(j:∀t∈types,t.b≤6)(h:cp d types s c=Y f):s.1≤f.1∧f.1≤s.1+6∧s.2≤f.2∧f.2≤s.2+1:=by
 have args:∀(b:Bool) (l:List dw) (v e:Int),cU b v l=Y e→v≤e∧e≤v+l.length:=by
  intro b l
  induction l with
  | nil=>intro v e h;injection h with h;subst h;simp
  | cons a l p =>
   intro v e h;unfold cU at h
   cases k:bZ b v a with
   | none=>rw[k]at h;cases h
   | some u =>
    rw[k]at h;have q:=pB k;have m:=p u e h;simp only[Fv];omega
 unfold cp at h
 split at h
 ·split at h
  ·rename_i g
   simp only[Ff]at g;have hlen:(c.N.length:Int)≤6:=by
    have n:=g.1;unfold bH at n;simp only[Ff,r7,tk]at n;obtain⟨⟨q,m⟩,o⟩:=n;have i:c.f.toNat<types.length:=by omega
    rw[ES i]at o;have w:=j _ (List.getElem_mem i);have o:types[c.f.toNat].b=(c.N.length:Int):=o;omega
   split at h
   ·cases h
   ·rename_i v r
    injection h with h
    have m:=args _ _ _ _ r;rw[←h];dsimp only;refine⟨m.1,by omega,?_,?_⟩<;>split<;>omega
  ·cases h
 ·split at h
  ·injection h with h;rw[←h];omega
  ·cases h
theorem vl{d:Nat}{types:List ae}{s a:Int×Int}{l:List aW}{j:Nat}{c:aW}(b:l[j]?=Y c)(h:dT d types s (l.take j)=Y a):dT d types s (l.take (j+1))=cp d types a c:=by
 rw[Fz,b];exact nh d types _ _ _ _ h
theorem nY{d:Nat}{types:List ae}:∀(l:List aW) (s:Int×Int) (j:Nat),dT d types s (l.take j)=U→dT d types s l=U
 | [],s,j,h=>by simp[dT]at h
 | c::l,s,0,h=>by simp[dT]at h
 | c::l,s,j+1,h=>by
  rw[EY]at h;unfold dT at h ⊢
  cases a:cp d types s c with
  | none=>rfl
  | some b =>
   rw[a]at h;exact nY l b j h
theorem run_store_int(W:wD)(b o:Nat)(x:Int)(u:wF)(a:W.cell? ⟨b,o,U⟩=Y u)(c:W.frozen? ⟨b,o,U⟩=xj):(Instr.storeAt 3 (xV (Y ⟨b,o,U⟩)) (I Z x)).run Tryz.prog W=.ok () (W.setCell ⟨b,o,U⟩ (I Z x)):=by simp[Instr.storeAt,Instr.sureAddr,go_sem,a,c]
theorem vI(F:Nat→Prop)(S d:Nat)(types:List ae)(rules:List an)(vT vR:wF)(bt N:Int)(r:an)(sc sa:wF)(w:wD)(hw:SuW F S d types rules vT vR bt N w)(bB:(bf d).K w F r.c sc)(bR:(bA d).K w F r.d sa)(cl:r.a.size≤maxLen)(cq:∀t∈types,t.b≤6) :
  Calls Tryz.prog 36 #[xV (Y ⟨S,0,U⟩),xS #[J r.a,I Z r.e,I Z r.b,sc,sa]] w (BX F S d types rules vT vR (iV d types r) w):=by
 have gS:∀(fn:Fn) (first cap:Array wF) (w:wD),(Instr.makeFunc fn first cap).run Tryz.prog w=.ok (Value.func fn first cap) w:=fun _ _ _ _=>rfl
 obtain⟨pc,cc,cr⟩:=Rd.b bB;obtain⟨pa,ca,ct⟩:=Rd.b bR;obtain⟨y,ba⟩:=zzy (r.c.length);obtain⟨D,bb⟩:=zzy (r.d.length);rw[ba]at cr;rw[bb]at ct;subst cr;subst ct;obtain⟨b0,gT⟩:=zz2 ba bb;obtain⟨w1,bc⟩:=zzx ((w.alloc (wq #[xV (Y ⟨S,0,U⟩)] 92)).alloc (wq #[J r.a,I Z r.e,I Z r.b,A pc y cc,A pa D ca] 50));obtain⟨P,b1,_⟩:=ap w (wq #[xV (Y ⟨S,0,U⟩)] 92) (wq #[J r.a,I Z r.e,I Z r.b,A pc y cc,A pa D ca] 50);have b2:FK w w1:=by rw[bc];exact ((EP _ w).alloc (EO _) _).alloc (by simp) _
 rw[←bc]at P b1;have B:=hw.z b2;have bn:=Hd hw.lt;have HF:=Hd (fun b (G:F b)=>hw.f b G);obtain⟨fp,fv,cu,cv⟩:=zz4 bB bR cq (fun W=>pg r.a W cl);have Q:w1.cell? ⟨S,2,U⟩=Y (I Z bt):=B.b;have b3:w1.cell? ⟨S,3,U⟩=Y (I Z N):=by rw[FI _ _ _ _ _ _ B.h];rfl
 have cx:=aE B.h;obtain⟨R,K⟩:=zzx (w1.drew.setCell ⟨S,2,U⟩ (I Z 0));obtain⟨wb,T⟩:=zzx (R.setCell ⟨S,3,U⟩ (I Z 0));have cA:SuW F S d types rules vT vR bt N w1.drew:=B.z (EP _ _).drew;have bd:SuW F S d types rules vT vR 0 N R:=by rw[K];exact cA.setV 0
 have fI:Hid (SuW F S d types rules vT vR 0 0 wb):=by show SuW _ _ _ _ _ _ _ _ _ _;rw[T];exact bd.setF 0
 have b4:∀b,b≠S→wb.heap[b]?=w1.heap[b]?:=fun b G=>by rw[T,ER _ _ _ _ G,K,ER _ _ _ _ G];rfl
 have X:wb.heap[w.heap.size]?=Y (wq #[xV (Y ⟨S,0,U⟩)] 92 (0,0)):=(b4 _ (by have:=hw.lt;omega)).trans P;have ad:wb.heap[w.heap.size+1]?=Y (wq #[J r.a,I Z r.e,I Z r.b,A pc y cc,A pa D ca] 50 (0,0)):=(b4 _ (by have:=hw.lt;omega)).trans b1;have fM:Hid (Chg (fun b=>b=S) w wb):=by
  show Chg _ _ _
  rw[T,K];exact Chg.y (F:=fun b=>b=S) (Chg.y (F:=fun b=>b=S) (Chg.f b2.drew) (p:=⟨S,2,U⟩) (Or.inl V) _) (p:=⟨S,3,U⟩) (Or.inl V) _
 obtain⟨cC,b5⟩:=zz2 X ad;have L:w1.cell? ⟨w.heap.size,0,U⟩=Y (xV (Y ⟨S,0,U⟩)):=by rw[FI _ _ _ _ _ _ P];rfl
 have P0:=fun x:RE.Two w1.drew R=>RE.Two.b (p:=⟨w.heap.size,0,U⟩) (show w1.drew.cell? ⟨w.heap.size,0,U⟩=_ from L) (by
  have:R.heap[w.heap.size]?=w1.heap[w.heap.size]?:=by rw[K,ER _ _ _ _ (show w.heap.size≠S by have:=hw.lt;omega)];rfl
  rw[FI _ _ _ _ _ _ (this.trans P)];rfl) x
 have cR:Hid (R.cell? ⟨S,3,U⟩=Y (I Z N)):=by show _=_;rw[FI _ _ _ _ _ _ bd.h];rfl
 obtain⟨fT,cT⟩:=zz2 (aE bd.h) K;obtain⟨res,af⟩:=zzx (iV d types r);have HR:Hid (res=(aN r.a.data.toList&&xv (-1000≤r.e)&&xv (r.e≤1000)&&xv (y≤8)&&xv (D≤8)&&match dT d types (0,0) r.c with|none=>xj|some s=>r.b==s.1&&xv (s.1≤16)&&r.d.all (cm d types s))):=by
  show _=_
  rw[af,←ba,←bb];rfl
 rw[←af];clear af P b1 b2 B hw bB bR cq cl cA bd b4 X ad ba bb
 go_enter Tryz.func36,Tryz.ntmps36
 go_upto_region 1 with fail
 change Code.wp _ _ _ _ ((w.alloc (wq #[xV (Y ⟨S,0,U⟩)] 92)).alloc (wq #[J r.a,I Z r.e,I Z r.b,A pc y cc,A pa D ca] 50));rw[←bc];clear bc K;refine RE.u (by kernel_rfl) 7 [4] [4] (fun s W=>if s=0 then W=w1.drew else W=R) (fun _ _=>True) (fun _ _=>undef) (fun _ _ _=>True) (by kernel_rfl) (fun i h1 h2=>by rw[h1]at h2;cases h2) (fun _ _ _ _ _ _ _=>trivial) V ?_;simp only[EY,Fi,EZ,Fh]
 repeat (refine RE.b (fun W=>∃x:RE.Two w1.drew R,W=x.1) RE.z V V V V ?_;go_big_quiet_step (fail);refine Bk ?_)
 refine RE.f V V ?_ (fun xs=>?_)
 ·intro W hC hS _;obtain rfl:W=w1.drew:=hS V;refine RE.C (w':=w1.drew.setCell ⟨S,2,U⟩ (I Z 0)) ?_ ⟨[],V,cT.o.symm,trivial,trivial⟩;have gf:=run_store_int w1.drew S 2 0 _ Q (cx 2);simp[execOp,Act.eval,gf]
 simp only[Act.put]
 repeat (refine RE.b (fun W=>∃x:RE.Two w1.drew R,W=x.1) RE.z V V V V ?_;go_big_quiet_step (fail);refine Bk ?_)
 refine RE.h ?_;intro W hS _;have hS:W=R:=hS;rw[hS];clear hS P0 Q b3 cx L;have b3:=cR.o;have fz:=fT.o;go_upto_region 2 with fail
 rw[←T];clear T b3 fz;obtain⟨e0,e1,e2,e3,e4⟩:=cells5 b5.o;go_wp2_with fail
 refine (cv.o wb).mono ?_;rintro e W3 ⟨rfl,ak⟩;have HC:Hid (Chg (fun b=>b=S) w W3):=fM.o.b (Chg.f ak);have HW:=Hd (fI.o.z ak);have cV:=aa ak cC.o (EN.1 cC.o).1;have b6:=aa ak b5.o (EN.1 b5.o).1;obtain⟨cW,dc⟩:=zz2 cV b6;clear ak e0 e1 e2 e3 e4 cv cV;obtain⟨e0,e1,e2,e3,e4⟩:=cells5 b6;clear b6
 cases bk:aN r.a.data.toList with
 | false =>
  have g:Hid (res=xj):=by show _=_;rw[HR.o,bk];rfl
  clear bk;go_wp2_with fail
  go_ret;exact⟨HC.o,by rw[g.o];rfl,_,_,HW.o⟩
 | true =>
 have gg:=Hd bk;clear bk
 by_cases h1:r.e < -1000
 ·have g:Hid (res=xj):=by show _=_;rw[HR.o,r6 (show ¬-1000≤r.e by omega)];simp
  go_wp2_with fail
  go_ret;exact⟨HC.o,by rw[g.o];rfl,_,_,HW.o⟩
 by_cases h2:1000<r.e
 ·have g:Hid (res=xj):=by show _=_;rw[HR.o,r6 (show ¬r.e≤1000 by omega)];simp
  go_wp2_with fail
  go_ret;exact⟨HC.o,by rw[g.o];rfl,_,_,HW.o⟩
 by_cases h3:8<y
 ·have gD:(8:Int)<y:=by omega
  have g:Hid (res=xj):=by show _=_;rw[HR.o,r6 (show ¬y≤8 by omega)];simp
  go_wp2_with fail
  go_ret;exact⟨HC.o,by rw[g.o];rfl,_,_,HW.o⟩
 have gD:¬(8:Int)<y:=by omega
 by_cases h4:8<D
 ·have gE:(8:Int)<D:=by omega
  have g:Hid (res=xj):=by show _=_;rw[HR.o,r6 (show ¬D≤8 by omega)];simp
  go_wp2_with fail
  go_ret;exact⟨HC.o,by rw[g.o];rfl,_,_,HW.o⟩
 have gE:¬(8:Int)<D:=by omega
 have dg:Hid (res=match dT d types (0,0) r.c with|none=>xj|some s=>r.b==s.1&&xv (s.1≤16)&&r.d.all (cm d types s)):=by
  show _=_
  rw[HR.o,gg.o,decide_eq_true (show -1000≤r.e by omega),decide_eq_true (show r.e≤1000 by omega),decide_eq_true (show y≤8 by omega),decide_eq_true (show D≤8 by omega)];rfl
 clear HR;go_wp2_with fail
 go_loopw [42] (zq9 F S d types rules vT vR r y w #[J r.a,I Z r.e,I Z r.b,A pc y cc,A pa D ca]) (fun i _=>y-(intOf i).toNat)
 case atStart=>exact⟨0,0,0,Fa _,V,V,Int.le_refl _,by omega,Int.le_refl _,by omega,cW.o,dc.o,HW.o,HC.o⟩
 case round =>
  obtain⟨j,nv,nf,hj,rfl,dp,ha,hd,hf,hg,X,ad,ds,dv⟩:=hrel;have hh:(0:Int)≤j:=by omega
  obtain⟨ea,al,aq,z,E⟩:=zz5 dp X ad ds dv;clear dp X ad ds dv e0 e1 e2 e3 e4 HW HC cW dc
  by_cases gF:j<y
  ·have hi:(j:Int)<y:=by omega
   obtain⟨c,hc⟩:∃c,r.c[j]?=Y c:=⟨_,ES (by rw[b0.o];exact gF)⟩;have bq:(bf d).K wr F r.c (A pc y cc):=Rd.f (fun b G o ho=>(E.o.u b (HF.o b G).1 (HF.o b G).2).trans ho) fp.o;have eb:=Rd.tS bq hc;rw[b0.o]at eb;obtain⟨b,off,cap,vs,gH,_,_,_,_,b7,a⟩:=eb;rw[dP]at a;injection gH with gL _ gM
   subst gL;subst gM;have br:=b7;obtain⟨_,_,_,hk,s',rfl,ec,eg⟩:=fw.1 br;obtain⟨qa,da,ek⟩:=Rd.b ec;obtain⟨q,dd,el⟩:=bg eg;obtain⟨ma,en⟩:=zzy (c.N.length);obtain⟨m,hm⟩:=zzy (c.a.u.length);rw[en]at ek;rw[hm]at el;subst ek;subst el;have c0:wr.cell? ⟨b,off+j*10,U⟩=Y (I O c.b):=a 0 _ V;have c1:wr.cell? ⟨b,off+j*10+1,U⟩=Y (I Z c.f):=a 1 _ V;have c2:wr.cell? ⟨b,off+j*10+2,U⟩=Y (A qa ma da):=a 2 _ V;have c3:wr.cell? ⟨b,off+j*10+3,U⟩=Y (I O c.a.b):=a 3 _ V;have c4:wr.cell? ⟨b,off+j*10+4,U⟩=Y (I O c.a.f.b):=a 4 _ V;have c5:wr.cell? ⟨b,off+j*10+5,U⟩=Y (I Z c.a.f.h):=a 5 _ V;have c6:wr.cell? ⟨b,off+j*10+6,U⟩=Y (J c.a.f.f):=a 6 _ V;have c7:wr.cell? ⟨b,off+j*10+7,U⟩=Y (I Z c.a.h):=a 7 _ V;have c8:wr.cell? ⟨b,off+j*10+8,U⟩=Y (I O c.a.op):=a 8 _ V;have c9:wr.cell? ⟨b,off+j*10+9,U⟩=Y (A q m dd):=a 9 _ V;obtain⟨w5,bl⟩:=zzx (wr.alloc (wq #[I O c.b,I Z c.f,A qa ma da,I O c.a.b,I O c.a.f.b,I Z c.a.f.h,J c.a.f.f,I Z c.a.h,I O c.a.op,A q m dd] 64));have M:FK wr w5:=by rw[bl];exact (EP _ wr).alloc (EO _) _
   have eo:w5.heap[wr.heap.size]?=Y (wq #[I O c.b,I Z c.f,A qa ma da,I O c.a.b,I O c.a.f.b,I Z c.a.f.h,J c.a.f.f,I Z c.a.h,I O c.a.op,A q m dd] 64 (0,0)):=by rw[bl];exact p9 wr _
   have b8:=aa M al.o (EN.1 al.o).1;have ep:=aa M aq.o (EN.1 aq.o).1;obtain⟨er,et,C⟩:=zz3 b8 ep (xN F S d types rules vT vR nv nf c (A qa ma da) (A q m dd) w5 (z.o.z M) ((bf d).C (fun b G o ho=>(M.block b (z.o.f b G).1).trans ho) b7) (by omega) (by omega) cu.o);have gN:Hid (Chg (fun b=>b=S) w w5):=E.o.b (Chg.f M);have ev:=Hd (vl hc ea.o);obtain⟨k0,k1,k2,k3,k4,k5,k6,k7,k8,k9⟩:=cL eo;have p0:w5.cell? ⟨w.heap.size,0,U⟩=Y (xV (Y ⟨S,0,U⟩)):=by rw[FI _ _ _ _ _ _ b8];rfl
   clear bq b7 br a ec eg en hm hc M eo b8 ep;go_upto_region 7 with fail
   change Code.wp _ _ _ _ (wr.alloc (wq #[I O c.b,I Z c.f,A qa ma da,I O c.a.b,I O c.a.f.b,I Z c.a.f.h,J c.a.f.f,I Z c.a.h,I O c.a.op,A q m dd] 64));rw[←bl];clear bl c0 c1 c2 c3 c4 c5 c6 c7 c8 c9;go_wp2_with fail
   refine C.o.mono ?_;rintro e W4 ⟨H,rfl,hl,hn,e5,b9⟩;have e6:Hid (Chg (fun b=>b=S) w W4):=gN.o.b H;have cb:=(H.u _ (EN.1 er.o).1 (by have:=bn.o;omega)).trans er.o;have ch:=(H.u _ (EN.1 et.o).1 (by have:=bn.o;omega)).trans et.o;have e7:=Hd e5;clear H e5 k0 k1 k2 k3 k4 k5 k6 k7 k8 k9 p0
   cases hq:cp d types (nv,nf) c with
   | none =>
    have g:Hid (res=xj):=by
     show _=_
     rw[dg.o,nY r.c (0,0) (j+1) (ev.o.trans hq)]
    clear hq b9 cb ch;go_wp2_with fail
    go_ret;exact⟨e6.o,by rw[g.o];rfl,_,_,e7.o⟩
   | some u =>
    obtain⟨e8,e9⟩:=b9 u hq;have hle:=Ap cu.o hq;dsimp only at hle;have gO:Hid (zq9 F S d types rules vT vR r y w #[J r.a,I Z r.e,I Z r.b,A (Y ⟨b,off,U⟩) y cc,A pa D ca] (I Z ((j+1:Nat):Int)) W4):=
     ⟨j+1,u.1,u.2,by omega,V,ev.o.trans hq,by omega,by omega,by omega,by omega,cb,ch,by rw[←e8,←e9];exact e7.o,e6.o⟩
    clear hq b9 e8 e9 hle cb ch;go_wp2_with fail
    refine⟨gO.o,?_⟩;simp[intOf];omega
  ·have k:dT d types (0,0) r.c=Y (nv,nf):=by
    rw[←ea.o,Fg (by rw[b0.o];omega)]
   have ck:Hid (res=(r.b==nv&&xv (nv≤16)&&r.d.all (cm d types (nv,nf)))):=by show _=_;rw[dg.o,k]
   clear k;obtain⟨e0,e1,e2,e3,e4⟩:=cells5 aq.o;have L:wr.cell? ⟨w.heap.size,0,U⟩=Y (xV (Y ⟨S,0,U⟩)):=by rw[FI _ _ _ _ _ _ al.o];rfl
   have Q:wr.cell? ⟨S,2,U⟩=Y (I Z nv):=z.o.b;have ar:(bA d).K wr F r.d (A pa D ca):=Rd.f (fun b G o ho=>(E.o.u b (HF.o b G).1 (HF.o b G).2).trans ho) fv.o;have C:=Hd (fun (x:Wb wr)=>Ag F S d types rules vT vR nv nf r.d (A pa D ca) w.heap.size x.1 (z.o.z x.2) (x.b L) (Rd.f (fun b G o ho=>(x.2.block b (z.o.f b G).1).trans ho) ar));have T0:=fun x:Wb wr=>x.b L
   have R2:=fun x:Wb wr=>x.b e2
   have R4:=fun x:Wb wr=>x.b e4
   have V2:=fun x:Wb wr=>x.b Q
   clear ar;go_upto_region 10 with fail
   clear e0 e1 e2 e3 e4 L Q
   by_cases av:r.b=nv
   ·have a1:(r.b==nv)=true:=by simpa using av
    have fe:xv (r.b=nv)=true:=decide_eq_true av;have hp:=Hd av
    by_cases fm:nv≤16
    ·have a6:xv (nv≤16)=true:=decide_eq_true fm;have g:Hid (res=r.d.all (cm d types (nv,nf))):=by show _=_;rw[ck.o,a1,a6];rfl
     cases k:r.d.all (cm d types (nv,nf)) with
     | true =>
      rw[k]at C g;clear k;refine au (by kernel_rfl) (by kernel_rfl) ?_
      repeat (go_big_quiet_step ((go_at_call 66;exact Calls.b (C.o _))))
      refine Bk ?_;intro W2 l;have n:=a7 l;have v:=Hd n;clear l n T0 R2 R4 V2;go_wp2_with fail
      go_ret;exact⟨E.o.b (Chg.f v.o),by rw[g.o];first|rfl|simp_all,_,_,z.o.z v.o⟩
     | false =>
      rw[k]at C g;clear k;refine au (by kernel_rfl) (by kernel_rfl) ?_
      repeat (go_big_quiet_step ((go_at_call 66;exact Calls.b (C.o _))))
      refine Bk ?_;intro W2 l;have n:=a7 l;have v:=Hd n;clear l n T0 R2 R4 V2;go_wp2_with fail
      go_ret;exact⟨E.o.b (Chg.f v.o),by rw[g.o];first|rfl|simp_all,_,_,z.o.z v.o⟩
    ·have a6:xv (nv≤16)=false:=r6 fm;have g:Hid (res=xj):=by show _=_;rw[ck.o,a6];simp
     refine au (by kernel_rfl) (by kernel_rfl) ?_
     repeat (go_big_quiet_step ((go_at_call 66;exact Calls.below_of (C.o _))))
     refine Bk ?_;intro W2 l;have n:=a7 l;have v:=Hd n;clear l n T0 R2 R4 V2;go_wp2_with fail
     go_ret;exact⟨E.o.b (Chg.f v.o),by rw[g.o];first|rfl|simp_all,_,_,z.o.z v.o⟩
   ·have a1:(r.b==nv)=false:=by simpa using av
    have fe:xv (r.b=nv)=false:=r6 av;have g:Hid (res=xj):=by show _=_;rw[ck.o,a1];rfl
    refine au (by kernel_rfl) (by kernel_rfl) ?_
    repeat (go_big_quiet_step ((go_at_call 66;exact Calls.below_of (C.o _))))
    refine Bk ?_;intro W2 l;have n:=a7 l;have v:=Hd n;clear l n T0 R2 R4 V2;go_wp2_with fail
    go_ret;exact⟨E.o.b (Chg.f v.o),by rw[g.o];first|rfl|simp_all,_,_,z.o.z v.o⟩
theorem mR:∀(l k seen:List ByteArray),apartB seen (l++k)=wP→apartB seen l=wP
 | [],_,_,_=>rfl
 | x::l,k,seen,h=>by
  rw[List.cons_append]at h;unfold apartB at h ⊢;simp only[Ff]at h ⊢;exact⟨h.1,mR l k _ h.2⟩
theorem sD(x y:ByteArray):∀(l:List ByteArray) (m j:Nat),l[j]?=Y y→(y.data.toList==x.data.toList)=wP→gb x l m=(match gb x (l.take j) m with|some k=>Y k|none=>Y (m+j))
 | [],m,j,h,_=>by simp at h
 | z::l,m,0,h,he=>by
  simp only[List.getElem?_cons_zero,ss]at h;subst h;rw[Fi];unfold gb;rw[rv he];rfl
 | z::l,m,j+1,h,he=>by
  rw[FC]at h;rw[EY];unfold gb
  split
  ·rfl
  ·rw[sD x y l (m+1) j h he]
   cases gb x (l.take j) (m+1) with
   | none=>simp only;congr 1;omega
   | some k=>rfl
theorem tV{x:ByteArray}{l:List ByteArray}{j:Nat}(h:l[j]?=Y x):(bP (idxOf x l)=(j:Int))↔(idxOf x (l.take j)).isSome=false:=by
 unfold idxOf;rw[sD x x l 0 j h (by simp)]
 cases a:gb x (l.take j) 0 with
 | none=>simp[bP]
 | some k =>
  have:=(jg x (l.take j) 0 k a).2;rw[List.length_take]at this;simp only[bP,Option.isSome_some,Bool.true_eq_false,iff_false];omega
theorem so{α:Type}{f:α→Bool}{l:List α}{j:Nat}{x:α}(a:l[j]?=Y x)(h:(l.take j).all f=wP)(b:f x=wP):(l.take (j+1)).all f=true:=by
 rw[Fz,a,List.all_append,h];simp[b]
theorem mi{α:Type}{f:α→Bool}{l:List α}{j:Nat}{x:α}(a:l[j]?=Y x)(b:f x=xj):l.all f=false:=by
 rw[List.all_eq_false];exact⟨x,Fj a,by rw[b];decide⟩
theorem qo{l:List ByteArray}{j:Nat}{x:ByteArray}(a:l[j]?=Y x)(h:apartB [] (l.take j)=wP)(b:(idxOf x (l.take j)).isSome=xj):apartB [] (l.take (j+1))=true:=by
 rw[Fz,a]
 show apartB [] (l.take j++[x])=wP
 rw[lE,h,List.nil_append,b];rfl
theorem sj{l:List ByteArray}{j:Nat}{x:ByteArray}(d:l[j]?=Y x)(e:(idxOf x (l.take j)).isSome=wP):apartB [] l=false:=by
 cases a:apartB [] l with
 | false=>rfl
 | true =>
  rw[←List.take_append_drop (j+1) l]at a;have b:=mR _ _ _ a;rw[Fz,d]at b;have c:apartB [] (l.take j++[x])=true:=b;rw[lE,List.nil_append,e]at c;simp at c
def wW(F:Nat→Prop) (d:Nat) (R:eL) (b c:Option Addr) (a e f g:Nat) (w:wD) (i:wF) (W:wD):Prop:=
 ∃(j:Nat),j≤a∧i=I Z (j:Int)∧(R.a.take j).all fZ=wP∧apartB [] ((R.a.map ae.a).take j)=wP∧FK w W∧W.heap[w.heap.size]?=Y (wq #[A b a e,A c f g] 32 (0,0))∧SuW F (w.heap.size+1) d R.a R.b (A b a e) (A c f g) 0 0 W
def wU(F:Nat→Prop) (d:Nat) (R:eL) (b c:Option Addr) (e f a g:Nat) (w:wD) (i:wF) (W:wD):Prop:=
 ∃(j:Nat) (nv nf:Int),j≤a∧i=I Z (j:Int)∧(R.b.take j).all (iV d R.a)=wP∧apartB [] ((R.b.map an.a).take j)=wP∧FK w W∧SuW F (w.heap.size+1) d R.a R.b (A b e f) (A c a g) nv nf W
theorem vM(F:Nat→Prop)(d:Nat)(R:eL)(st sr:wF)(w:wD)(hF:∀b,F b→b<w.heap.size)(ht:bV.K w F R.a st)(hr:(bX d).K w F R.b sr) :
  Calls Tryz.prog 17 #[xS #[st,sr]] w (am (rC d R) w):=by
 obtain⟨N,G,cA⟩:=Rd.b ht;obtain⟨pR,H,cC⟩:=Rd.b hr;have et:=Rd.tT ht;have ev:=Rd.tT hr;obtain⟨u,b0⟩:=zzy (R.a.length);obtain⟨v,b1⟩:=zzy (R.b.length);rw[b0]at cA et;rw[b1]at cC ev;subst cA;subst cC;obtain⟨b2,b3⟩:=zz2 b0 b1;obtain⟨w1,b4⟩:=zzx ((w.alloc (wq #[A N u G,A pR v H] 32)).alloc (wq #[A N u G,A pR v H,I Z 0,I Z 0] 94));obtain⟨a1,ca,_⟩:=ap w (wq #[A N u G,A pR v H] 32) (wq #[A N u G,A pR v H,I Z 0,I Z 0] 94);have a6:FK w w1:=by rw[b4];exact ((EP _ w).alloc (EO _) _).alloc (by simp) _
 rw[←b4]at a1 ca;obtain⟨e2,cb⟩:=zz2 a1 a6;have e3:Hid (SuW F (w.heap.size+1) d R.a R.b (A N u G) (A pR v H) 0 0 w1):=⟨ca,fun b K=>⟨ET (hF b K) a6.size,by have:=hF b K;omega⟩,Rd.X ht hF a6,Rd.X hr hF a6⟩;obtain⟨HF,e4,e5⟩:=zz3 hF ht hr;obtain⟨res,ba⟩:=zzx (rC d R);have HR:Hid (res=(xv (u≤32)&&xv (v≤64)&&R.a.all fZ&&apartB [] (R.a.map ae.a)&&R.b.all (iV d R.a)&&apartB [] (R.b.map an.a))):=by
  show _=_
  rw[ba,←b0,←b1];rfl
 rw[←ba];have e0:w1.cell? ⟨w.heap.size,0,U⟩=Y (A N u G):=by rw[FI _ _ _ _ _ _ a1];rfl
 have e1:w1.cell? ⟨w.heap.size,1,U⟩=Y (A pR v H):=by rw[FI _ _ _ _ _ _ a1];rfl
 clear ba a1 ca a6 hF ht hr b0 b1
 go_enter Tryz.func17,Tryz.ntmps17
 go_upto_region 2 with fail
 change Code.wp _ _ _ _ ((w.alloc (wq #[A N u G,A pR v H] 32)).alloc (wq #[A N u G,A pR v H,I Z 0,I Z 0] 94));rw[←b4];clear b4
 by_cases fv:32<u
 ·have cV:(32:Int)<u:=by omega
  have l:Hid (res=xj):=by show _=_;rw[HR.o,r6 (show ¬u≤32 by omega)];rfl
  go_wp2_with fail
  go_ret;exact⟨by rw[l.o];rfl,cb.o⟩
 have cV:¬(32:Int)<u:=by omega
 by_cases fz:64<v
 ·have cW:(64:Int)<v:=by omega
  have l:Hid (res=xj):=by show _=_;rw[HR.o,r6 (show ¬v≤64 by omega)];simp
  go_wp2_with fail
  go_ret;exact⟨by rw[l.o];rfl,cb.o⟩
 have cW:¬(64:Int)<v:=by omega
 have bb:Hid (res=(R.a.all fZ&&apartB [] (R.a.map ae.a)&&R.b.all (iV d R.a)&&apartB [] (R.b.map an.a))):=by
  show _=_
  rw[HR.o,decide_eq_true (show u≤32 by omega),decide_eq_true (show v≤64 by omega)];rfl
 clear HR;go_wp2_with fail
 go_loopw [25] (wW F d R N pR u G v H w) (fun i _=>u-(intOf i).toNat)
 case atStart=>exact⟨0,Fa _,V,V,V,cb.o,e2.o,e3.o⟩
 case round =>
  obtain⟨j,hj,rfl,P,bc,bd,hx,bk⟩:=hrel;have c5:(0:Int)≤j:=by omega
  obtain⟨E,al,D,HX,Q⟩:=zz5 P bc bd hx bk;clear P bc bd hx bk e0 e1
  by_cases b5:j<u
  ·have e6:(j:Int)<u:=by omega
   obtain⟨t,bl⟩:∃t,R.a[j]?=Y t:=⟨_,ES (by rw[b2.o];exact b5)⟩;have bn:=Rd.tS (Rd.X e4.o HF.o D.o) bl;rw[b2.o]at bn;obtain⟨b,off,cap,vs,cc,_,_,_,_,bq,a⟩:=bn;injection cc with ch _ ck
   subst ch;subst ck;obtain⟨rfl,br,_⟩:=gp.1 bq;have c0:wr.cell? ⟨b,off+j*2,U⟩=Y (J t.a):=a 0 _ V;have c1:wr.cell? ⟨b,off+j*2+1,U⟩=Y (I Z t.b):=a 1 _ V;obtain⟨c,L⟩:=zzx (wr.alloc (wq #[J t.a,I Z t.b] 52));have z:FK wr c:=by rw[L];exact (EP _ wr).alloc (EO _) _
   have T:c.heap[wr.heap.size]?=Y (wq #[J t.a,I Z t.b] 52 (0,0)):=by rw[L];exact p9 wr _
   obtain⟨n,c6,M⟩:=zz3 (D.o.trans (z.mono D.o.size)) (aa z HX.o (EN.1 HX.o).1) (Q.o.z z);obtain⟨X,ad⟩:=zzx (bP (a8 t.a R.a));have bt:Hid (X=(j:Int)↔(idxOf t.a ((R.a.map ae.a).take j)).isSome=xj):=by
    rw[ad];exact tV (by rw[List.getElem?_map,bl];rfl)
   obtain⟨S,af⟩:=zz2 (fun (x:Wb c)=>pg t.a x.1 br) (fun (x:Wb c)=>pQ R.a t.a _ F (w.heap.size+1) x.1 (M.o.z x.2).t (fun b K=>((M.o.z x.2).f b K).1) (by rw[FI _ _ _ _ _ _ (M.o.z x.2).h];rfl));rw[←ad]at af;have HT:=Hd bl;have c7:Hid ((R.a.map ae.a)[j]?=Y t.a):=by show _=_;rw[List.getElem?_map,bl];rfl
   have k0:c.cell? ⟨wr.heap.size,0,U⟩=Y (J t.a):=by rw[FI _ _ _ _ _ _ T];rfl
   have k1:c.cell? ⟨wr.heap.size,1,U⟩=Y (I Z t.b):=by rw[FI _ _ _ _ _ _ T];rfl
   have T0:=fun x:Wb c=>x.b k0
   have T1:=fun x:Wb c=>x.b k1
   clear bq a bl z T br ad;go_upto_region 7 with fail
   change Code.wp _ _ _ _ (wr.alloc (wq #[J t.a,I Z t.b] 52));rw[←L];clear L c0 c1 k0 k1
   cases aq:aN t.a.data.toList with
   | false =>
    rw[aq]at S;have l:Hid (res=xj):=by show _=_;rw[bb.o,mi (f:=fZ) HT.o (by unfold fZ;rw[aq];rfl)];rfl
    clear aq;refine au (by kernel_rfl) (by kernel_rfl) ?_
    repeat (go_big_quiet_step (first|(go_at_call 33;exact Calls.b (S.o _))|(go_at_call 34;exact Calls.below_of (af.o _))))
    refine Bk ?_;intro W2 g;have k:=a7 g;have B:=Hd (n.o.trans (k.mono n.o.size));clear g k T0 T1;go_wp2_with fail
    go_ret;exact⟨by rw[l.o];rfl,B.o⟩
   | true =>
   rw[aq]at S;have e7:=Hd aq;clear aq
   by_cases c8:t.b<0
   ·have c9:xv (t.b<0)=true:=decide_eq_true c8;have l:Hid (res=xj):=by show _=_;rw[bb.o,mi (f:=fZ) HT.o (by unfold fZ;rw[r6 (show ¬0≤t.b by omega)];simp)];rfl
    refine au (by kernel_rfl) (by kernel_rfl) ?_
    repeat (go_big_quiet_step (first|(go_at_call 33;exact Calls.b (S.o _))|(go_at_call 34;exact Calls.below_of (af.o _))))
    refine Bk ?_;intro W2 g;have k:=a7 g;have B:=Hd (n.o.trans (k.mono n.o.size));clear g k T0 T1;go_wp2_with fail
    go_ret;exact⟨by rw[l.o];rfl,B.o⟩
   have c9:xv (t.b<0)=false:=r6 c8
   by_cases dd:6<t.b
   ·have dg:xv (6<t.b)=true:=decide_eq_true dd;have l:Hid (res=xj):=by show _=_;rw[bb.o,mi (f:=fZ) HT.o (by unfold fZ;rw[r6 (show ¬t.b≤6 by omega)];simp)];rfl
    refine au (by kernel_rfl) (by kernel_rfl) ?_
    repeat (go_big_quiet_step (first|(go_at_call 33;exact Calls.b (S.o _))|(go_at_call 34;exact Calls.below_of (af.o _))))
    refine Bk ?_;intro W2 g;have k:=a7 g;have B:=Hd (n.o.trans (k.mono n.o.size));clear g k T0 T1;go_wp2_with fail
    go_ret;exact⟨by rw[l.o];rfl,B.o⟩
   have dg:xv (6<t.b)=false:=r6 dd;have b6:Hid (fZ t=wP):=by show _=_;unfold fZ;rw[e7.o,decide_eq_true (show 0≤t.b by omega),decide_eq_true (show t.b≤6 by omega)];rfl
   by_cases C:X=(j:Int)
   ·subst C;have cl:Hid ((idxOf t.a ((R.a.map ae.a).take j)).isSome=xj):=bt.o.1 V;refine au (by kernel_rfl) (by kernel_rfl) ?_
    repeat (go_big_quiet_step (first|(go_at_call 33;exact Calls.b (S.o _))|(go_at_call 34;exact Calls.b (af.o _))))
    refine Bk ?_;intro W2 g;have k:=a7 g;have B:=Hd (n.o.trans (k.mono n.o.size));have cq:Hid (wW F d R (Y ⟨b,off,U⟩) pR u G v H w (I Z ((j+1:Nat):Int)) W2):=
     ⟨j+1,by omega,V,so HT.o E.o b6.o,qo c7.o al.o cl.o,B.o,aa k c6.o (EN.1 c6.o).1,M.o.z k⟩
    clear g k T0 T1 S af;go_wp2_with fail
    refine⟨cq.o,?_⟩;simp[intOf];omega
   ·have e8:(X==(j:Int))=false:=by simpa using C
    have e9:(X != (j:Int))=true:=by simpa using C
    have fe:xv (X=(j:Int))=false:=r6 C;have l:Hid (res=xj):=by
     show _=_
     have:(idxOf t.a ((R.a.map ae.a).take j)).isSome=true:=by
      cases hc:(idxOf t.a ((R.a.map ae.a).take j)).isSome with
      | true=>rfl
      | false=>exact absurd (bt.o.2 hc) C
     rw[bb.o,sj c7.o this];simp
    refine au (by kernel_rfl) (by kernel_rfl) ?_
    repeat (go_big_quiet_step (first|(go_at_call 33;exact Calls.b (S.o _))|(go_at_call 34;exact Calls.b (af.o _))))
    refine Bk ?_;intro W2 g;have k:=a7 g;have B:=Hd (n.o.trans (k.mono n.o.size));clear g k T0 T1;go_wp2_with fail
    go_ret;exact⟨by rw[l.o];rfl,B.o⟩
  ·have ak:R.a.all fZ=true:=by
    rw[←E.o,Fg (by rw[b2.o];omega)]
   have b8:apartB [] (R.a.map ae.a)=true:=by
    have h:=al.o;rw[Fg (by rw[List.length_map,b2.o];omega)]at h;exact h
   have dp:Hid (∀t∈R.a,t.b≤6):=fun t ht=>by
    have:=Fx.1 ak t ht;unfold fZ at this;simp only[Ff,r7]at this;exact this.2
   have cr:Hid (res=(R.b.all (iV d R.a)&&apartB [] (R.b.map an.a))):=by
    show _=_
    rw[bb.o,ak,b8];rfl
   have e0:wr.cell? ⟨w.heap.size,0,U⟩=Y (A N u G):=by rw[FI _ _ _ _ _ _ HX.o];rfl
   have e1:wr.cell? ⟨w.heap.size,1,U⟩=Y (A pR v H):=by rw[FI _ _ _ _ _ _ HX.o];rfl
   clear ak b8 E al;go_wp2_with fail
   go_loopw [58] (wU F d R N pR u G v H w) (fun i _=>v-(intOf i).toNat)
   case atStart=>exact⟨0,0,0,Fa _,V,V,V,D.o,Q.o⟩
   case round =>
    clear D HX Q c5 b5 hj e0 e1;obtain⟨j,nv,nf,hj,rfl,P,bc,bd,bk⟩:=hrel;have c5:(0:Int)≤j:=by omega
    obtain⟨E,al,D,Q⟩:=zz4 P bc bd bk;clear P bc bd bk
    by_cases b5:j<v
    ·have e6:(j:Int)<v:=by omega
     obtain⟨x,C⟩:∃x,R.b[j]?=Y x:=⟨_,ES (by rw[b3.o];exact b5)⟩;have bn:=Rd.tS (Rd.X e5.o HF.o D.o) C;rw[b3.o]at bn;obtain⟨b,off,cap,vs,cc,_,_,_,_,bq,a⟩:=bn;rw[BE]at a;injection cc with ch _ ck
     subst ch;subst ck;obtain⟨br,_,_,sc,sa,rfl,ct,cu⟩:=gY.1 bq;obtain⟨qc,dc,ds⟩:=Rd.b ct;obtain⟨qa,da,dv⟩:=Rd.b cu;obtain⟨mc,ea⟩:=zzy (x.c.length);obtain⟨ma,eb⟩:=zzy (x.d.length);rw[ea]at ds;rw[eb]at dv;subst ds;subst dv;have c0:wr.cell? ⟨b,off+j*5,U⟩=Y (J x.a):=a 0 _ V;have c1:wr.cell? ⟨b,off+j*5+1,U⟩=Y (I Z x.e):=a 1 _ V;have c2:wr.cell? ⟨b,off+j*5+2,U⟩=Y (I Z x.b):=a 2 _ V;have c3:wr.cell? ⟨b,off+j*5+3,U⟩=Y (A qc mc dc):=a 3 _ V;have c4:wr.cell? ⟨b,off+j*5+4,U⟩=Y (A qa ma da):=a 4 _ V;obtain⟨c,L⟩:=zzx (wr.alloc (wq #[J x.a,I Z x.e,I Z x.b,A qc mc dc,A qa ma da] 50));have z:FK wr c:=by rw[L];exact (EP _ wr).alloc (EO _) _
     have T:c.heap[wr.heap.size]?=Y (wq #[J x.a,I Z x.e,I Z x.b,A qc mc dc,A qa ma da] 50 (0,0)):=by rw[L];exact p9 wr _
     obtain⟨n,M⟩:=zz2 (D.o.trans (z.mono D.o.size)) (Q.o.z z);have ec:Hid (w.heap.size+1≠wr.heap.size):=by have:=Q.o.lt;show _≠_;omega
     have eg:Hid (wr.heap.size<c.heap.size):=(EN.1 T).1;obtain⟨X,ad⟩:=zzx (bP (idxOf x.a (R.b.map an.a)));have bt:Hid (X=(j:Int)↔(idxOf x.a ((R.b.map an.a).take j)).isSome=xj):=by
      rw[ad];exact tV (by rw[List.getElem?_map,C];rfl)
     have cv:=Hd (fun (y:Wb c)=>vo d R.b x.a _ F (w.heap.size+1) y.1 (M.o.z y.2).r (fun b K=>((M.o.z y.2).f b K).1) (by rw[FI _ _ _ _ _ _ (M.o.z y.2).h];rfl));rw[←ad]at cv;have ek:=Hd (fun (y:Wb c)=>vI F (w.heap.size+1) d R.a R.b (A N u G) (A (Y ⟨b,off,U⟩) v H) nv nf x (A qc mc dc) (A qa ma da) y.1 (M.o.z y.2) (Rd.f (fun b K o ho=>((z.trans (y.2.mono z.size)).block b (Q.o.f b K).1).trans ho) ct) (Rd.f (fun b K o ho=>((z.trans (y.2.mono z.size)).block b (Q.o.f b K).1).trans ho) cu) br dp.o);have HX:=Hd C;have el:Hid ((R.b.map an.a)[j]?=Y x.a):=by show _=_;rw[List.getElem?_map,C];rfl
     obtain⟨k0,k1,k2,k3,k4⟩:=cells5 T;have K0:=fun y:Wb c=>y.b k0
     have L0:=fun y:Ks c (fun b=>b=wr.heap.size)=>y.b V k0
     have L1:=fun y:Ks c (fun b=>b=wr.heap.size)=>y.b V k1
     have L2:=fun y:Ks c (fun b=>b=wr.heap.size)=>y.b V k2
     have L3:=fun y:Ks c (fun b=>b=wr.heap.size)=>y.b V k3
     have L4:=fun y:Ks c (fun b=>b=wr.heap.size)=>y.b V k4
     clear bq a C z T br ad ct cu ea eb;go_upto_region 13 with fail
     change Code.wp _ _ _ _ (wr.alloc (wq #[J x.a,I Z x.e,I Z x.b,A qc mc dc,A qa ma da] 50));rw[←L];clear L c0 c1 c2 c3 c4 k0 k1 k2 k3 k4
     by_cases ar:X=(j:Int)
     ·have cl:Hid ((idxOf x.a ((R.b.map an.a).take j)).isSome=xj):=bt.o.1 ar;subst ar;obtain⟨ok,cx⟩:=zzx (iV d R.a x);have b6:=Hd cx;rw[←cx]at ek;clear K0 cx
      let SS:Nat→wD→Prop:=fun s W=>if s=0 then (∃y:Wb c,W=y.1) else (Chg (fun b=>b=w.heap.size+1) c W∧∃p q,SuW F (w.heap.size+1) d R.a R.b (A N u G) (A (Y ⟨b,off,U⟩) v H) p q W)
      have bB:SS 0 c.drew:=⟨⟨c.drew,(EP _ _).drew⟩,V⟩;have b7:∀(m s:Nat) (W:wD),s≤m→SS s W→∃y:Ks c (fun b=>b=wr.heap.size),W=y.1:=fun m s W _ h=>by
       refine⟨⟨W,fun b K=>?_⟩,V⟩;subst K
       by_cases av:s=0
       ·subst av;obtain⟨y,rfl⟩:∃y:Wb c,W=y.1:=h;exact y.2.block _ eg.o
       ·have h:(Chg (fun b=>b=w.heap.size+1) c W∧∃p q,SuW F (w.heap.size+1) d R.a R.b (A N u G) (A (Y ⟨b,off,U⟩) v H) p q W):=by simpa only [SS,qv av]using h
        exact h.1.u _ eg.o (fun e=>ec.o e.symm)
      refine RE.u (by kernel_rfl) 14 [5,11] [11] SS (fun _ _=>True) (fun i _=>if i=5 then I Z (j:Int) else if i=11 then AJ ok else undef) (fun _ _ _=>True) (by kernel_rfl) ?_ (fun _ _ _ _ _ _ _=>trivial) bB ?_
      ·intro i he hc s W W' h K
       by_cases av:s=0
       ·subst av;exact bC h K
       ·have h:(Chg (fun b=>b=w.heap.size+1) c W∧∃p q,SuW F (w.heap.size+1) d R.a R.b (A N u G) (A (Y ⟨b,off,U⟩) v H) p q W):=by simpa only [SS,qv av]using h
        obtain⟨h1,p,q,h2⟩:=h;have h':(Chg (fun b=>b=w.heap.size+1) c W'∧∃p q,SuW F (w.heap.size+1) d R.a R.b (A N u G) (A (Y ⟨b,off,U⟩) v H) p q W'):=⟨h1.b (Chg.f K),p,q,h2.z K⟩
        simpa only [SS,qv av]using h'
      simp only[EY,Fi,EZ,Fh]
      repeat (refine RE.b (fun W=>∃y:Ks c (fun b=>b=wr.heap.size),W=y.1) (b7 _) V V V bB ?_;go_big_quiet_step (fail);refine Bk ?_)
      refine RE.f V V ?_ (fun fI=>?_)
      ·intro W hC _ hE;obtain⟨s9,en,h9⟩:=hC;have en:s9≤0:=EU en (Nat.le_of_eq (by kernel_rfl));obtain rfl:s9=0:=by omega
       obtain⟨y,rfl⟩:∃y:Wb c,W=y.1:=h9;refine RE.y 35 _ _ V (enters_of Tryz.func35 (by kernel_rfl) V) #[xV (Y ⟨w.heap.size+1,0,U⟩),J x.a] (by simp[Act.eval]) ((cv.o y).mono ?_);rintro e W' ⟨rfl,K⟩;exact⟨_,V,[],V,K,trivial,trivial⟩
      simp only[Act.put,EQ,EW,EV,Nat.reduceAdd,↓reduceIte]
      repeat (refine RE.b (fun W=>∃y:Ks c (fun b=>b=wr.heap.size),W=y.1) (b7 _) V V V bB ?_;go_big_quiet_step (fail);refine Bk ?_)
      refine RE.f V V ?_ (fun fp=>?_)
      ·intro W hC hS hE;obtain⟨y,rfl⟩:∃y:Wb c,W=y.1:=hS V;refine RE.y 36 _ _ V (enters_of Tryz.func36 (by kernel_rfl) V) #[xV (Y ⟨w.heap.size+1,0,U⟩),xS #[J x.a,I Z x.e,I Z x.b,A qc mc dc,A qa ma da]] (by simp[Act.eval]) ((ek.o y).mono ?_);rintro e W' ⟨hc,rfl,p,q,g⟩;exact⟨_,V,[],V,⟨(Chg.f y.2).b hc,p,q,g⟩,trivial,trivial⟩
      simp only[Act.put,EQ,EW,EV,Nat.reduceAdd,Nat.reduceEqDiff,↓reduceIte]
      repeat (refine RE.b (fun W=>∃y:Ks c (fun b=>b=wr.heap.size),W=y.1) (b7 _) V V V bB ?_;go_big_quiet_step (fail);refine Bk ?_)
      refine RE.h ?_;intro W hS _;obtain⟨eo,p,q,ep⟩:(Chg (fun b=>b=w.heap.size+1) c W∧∃p q,SuW F (w.heap.size+1) d R.a R.b (A N u G) (A (Y ⟨b,off,U⟩) v H) p q W):=hS;have er:Hid (FK w W):=Chg.C n.o eo (fun b K=>by omega) n.o.size;have fm:=Hd ep;clear eo ep L0 L1 L2 L3 L4 b7 bB
      cases ok with
      | true =>
       have cq:Hid (wU F d R N (Y ⟨b,off,U⟩) u G v H w (I Z ((j+1:Nat):Int)) W):=
        ⟨j+1,p,q,by omega,V,so HX.o E.o b6.o.symm,qo el.o al.o cl.o,er.o,fm.o⟩
       go_wp2_with fail
       refine⟨cq.o,?_⟩;simp[intOf];omega
      | false =>
       have l:Hid (res=xj):=by show _=_;rw[cr.o,mi (f:=iV d R.a) HX.o b6.o.symm];rfl
       go_wp2_with fail
       go_ret;exact⟨by rw[l.o];rfl,er.o⟩
     ·have e8:(X==(j:Int))=false:=by simpa using ar
      have e9:(X != (j:Int))=true:=by simpa using ar
      have fe:xv (X=(j:Int))=false:=r6 ar;have l:Hid (res=xj):=by
       show _=_
       have:(idxOf x.a ((R.b.map an.a).take j)).isSome=true:=by
        cases hc:(idxOf x.a ((R.b.map an.a).take j)).isSome with
        | true=>rfl
        | false=>exact absurd (bt.o.2 hc) ar
       rw[cr.o,sj el.o this];simp
      clear L0 L1 L2 L3 L4;refine au (by kernel_rfl) (by kernel_rfl) ?_
      repeat (go_big_quiet_step ((go_at_call 35;exact Calls.b (cv.o _))))
      refine Bk ?_;intro W2 g;have k:=a7 g;have B:=Hd (n.o.trans (k.mono n.o.size));clear g k K0;go_wp2_with fail
      go_ret;exact⟨by rw[l.o];rfl,B.o⟩
    ·have bR:R.b.all (iV d R.a)=true:=by
      rw[←E.o,Fg (by rw[b3.o];omega)]
     have b9:apartB [] (R.b.map an.a)=true:=by
      have h:=al.o;rw[Fg (by rw[List.length_map,b3.o];omega)]at h;exact h
     have l:Hid (res=wP):=by show _=_;rw[cr.o,bR,b9];rfl
     clear bR b9;go_wp2_with fail
     go_ret;exact⟨by rw[l.o];rfl,D.o⟩
