/- The rule checker's second part: a condition, by contract. Condition: types of at most six fields. Printed by tools/genSuG.py. -/
import Derived.Test.YtmpekinjoeibbaaGreatDoorNS
import Derived.Test.YtmpekinjoeibbaaGreatDoorNA
open Go renaming Value→r3,World→p7,Calls→r9
open Option renaming some→A,none→V
open Go.Value renaming int→I,slice→O,pointer→tv,agg→s3,string→p9
open Go.IntKind renaming i64→Y,u8→J
open Go.Obj renaming cells→p8
open Bool renaming true→r5,false→r7
namespace Go.Proofs.YtmpekinjoeibbaaGreatDoor
set_option maxHeartbeats 8000000
set_option maxRecDepth 100000
open Go.RowKit
def lw(F:Nat→Prop) (S d:Nat) (types:List ap) (rules:List au) (vT vR:r3) (r:Option (Int×Int)) (w:p7) (e:Ending) (w':p7):Prop:=
 Chg (fun b=>b=S) w w'∧e=Ending.returned (Value.bool r.isSome)∧∃a c,SuW F S d types rules vT vR a c w'∧∀x,r=A x→a=x.1∧c=x.2
def qo(F:Nat→Prop) (S d:Nat) (types:List ap) (rules:List au) (vT vR:r3) (nv nf:Int) (binds:Bool) (c:aK) (a:Nat) (w:p7) (cs:Array r3) (i:r3) (W:p7):Prop:=
 ∃(j:Nat) (v:Int),j≤a∧i=I Y (j:Int)∧db binds nv (c.c.take j)=A v∧nv≤v∧v≤nv+j∧W.heap[w.heap.size]?=A (p8 cs 53 (0,0))∧SuW F S d types rules vT vR v nf W∧Chg (fun b=>b=S) w W
theorem oN{binds:Bool}{nv v:Int}{l:List dF}{j:Nat}{a:dF}(b:l[j]?=A a)(h:db binds nv (l.take j)=A v):db binds nv (l.take (j+1))=bT binds v a:=by
 rw[FI,b];exact ou binds _ _ _ _ h
theorem lv{binds:Bool}:∀(l:List dF) (nv:Int) (j:Nat),db binds nv (l.take j)=V→db binds nv l=V
 | [],nv,j,h=>by simp[db]at h
 | a::l,nv,0,h=>by simp[db]at h
 | a::l,nv,j+1,h=>by
  rw[Fg]at h;unfold db at h ⊢
  cases b:bT binds nv a with
  | none=>rfl
  | some v =>
   rw[b]at h;exact lv l v j h
theorem oP{binds:Bool}{v b:Int}{a:dF}(h:bT binds v a=A b):v≤b∧b≤v+1:=by
 unfold bT at h
 repeat' split at h
 all_goals first
  | (injection h with h;omega)
  | cases h
theorem uL(F:Nat→Prop)(S d:Nat)(types:List ap)(rules:List au)(vT vR:r3)(nv nf:Int)(c:aK)(pa p:Option Addr)(l R n cc:Nat)(w:p7)(hw:SuW F S d types rules vT vR nv nf w)(hk:c.b=1)(q:c.c.length=l)(hn:c.a.u.length=n)(bl:gQ.y w F c.c (O pa l R))(c5:0≤nv∧nv≤1000)(c6:0≤nf∧nf≤1000)(bn:∀t∈types,t.b≤6) :
  r9 Tryz.prog 34 #[tv (A ⟨S,0,V⟩),s3 #[I J c.b,I Y c.h,O pa l R,I J c.a.b,I J c.a.h.b,I Y c.a.h.q,p9 c.a.h.h,I Y c.a.q,I J c.a.op,O p n cc]] w (lw F S d types rules vT vR (ci d types (nv,nf) c) w):=by
 obtain⟨w1,D⟩:=zzx (w.alloc (p8 #[I J 1,I Y c.h,O pa l R,I J c.a.b,I J c.a.h.b,I Y c.a.h.q,p9 c.a.h.h,I Y c.a.q,I J c.a.op,O p n cc] 53));have E:FS w w1:=by rw[D];exact (EU _ w).alloc (ET _) _
 have ar:w1.heap[w.heap.size]?=A (p8 #[I J 1,I Y c.h,O pa l R,I J c.a.b,I J c.a.h.b,I Y c.a.h.q,p9 c.a.h.h,I Y c.a.q,I J c.a.op,O p n cc] 53 (0,0)):=by rw[D];exact ot w _
 obtain⟨av,a1,bq,br⟩:=zz4 E ar (hw.C E) hw.lt;have HF:=Hd (fun b (hb:F b)=>hw.f b hb);obtain⟨cq,a6,a7,bt⟩:=zz4 bl q (li F S d types rules vT vR nv nf c.h (c.c.length:Int) w1 (hw.C E)) (fun W=>rL c.a p n cc W hn);have r:bz types c.h (c.c.length:Int)=r5→l≤6:=fun h=>by
  unfold bz at h;simp only[Fp,oE,pv]at h;obtain⟨⟨h1,h2⟩,h3⟩:=h;have G:c.h.toNat<types.length:=by omega
  rw[EX G]at h3;have h6:=bn _ (List.getElem_mem G);have h3:types[c.h.toNat].b=(c.c.length:Int):=h3;rw[q]at h3;omega
 have bB:=Hd r;have hm:ci d types (nv,nf) c=if bz types c.h (c.c.length:Int)&&(c.a.b==0&&bj r7 r7 r7 c.a) then (match db r5 nv c.c with|none=>V|some v=>A (v,nf+1)) else none:=by
  unfold ci bj zeroE;rw[hk];simp only[Bool.false_or,Bool.and_assoc];rfl
 obtain⟨res,s⟩:=zzx (ci d types (nv,nf) c);have HR:Hid (res=if bz types c.h (c.c.length:Int)&&(c.a.b==0&&bj r7 r7 r7 c.a) then (match db r5 nv c.c with|none=>V|some v=>A (v,nf+1)) else V):=s.trans hm
 rw[←s,hk];rw[q]at a7 bB;have bR:Hid (bz types c.h (c.c.length:Int)=bz types c.h (l:Int)):=by show _=_;rw[q]
 obtain⟨e0,e1,e2,T,e4,e5,e6,e7,e8,e9⟩:=dS ar;clear E ar hw bl q hn hm s hk bn r
 go_enter Tryz.func34,Tryz.ntmps34
 go_upto_region 1 with fail
 change Code.wp _ _ _ _ (w.alloc (p8 #[I J 1,I Y c.h,O pa l R,I J c.a.b,I J c.a.h.b,I Y c.a.h.q,p9 c.a.h.h,I Y c.a.q,I J c.a.op,O p n cc] 53));rw[←D];clear D;go_wp2_with fail
 refine a7.o.mono ?_;rintro e W2 ⟨rfl,H⟩;obtain⟨y,K⟩:=zz2 (av.o.trans (H.mono av.o.size)) (bq.o.C H);have a8:=ag H a1.o (ES.1 a1.o).1;have L:=Hd a8;clear H e0 e1 e2 T e4 e5 e6 e7 e8 e9 a7 a1 bq av;obtain⟨e0,e1,e2,T,e4,e5,e6,e7,e8,e9⟩:=dS a8;clear a8
 cases hf:bz types c.h (l:Int) with
 | false =>
  have k:Hid (res=V):=by show _=_;rw[HR.o,bR.o,hf];rfl
  clear hf;go_wp2_with fail
  go_ret;exact⟨Chg.b y.o,by rw[k.o];rfl,nv,nf,K.o,fun x m=>by rw[k.o]at m;cases m⟩
 | true =>
 have h6:l≤6:=bB.o hf;have cr:=Hd hf;clear hf
 by_cases hz:c.a.b=0
 rotate_left
 ·have k:Hid (res=V):=by show _=_;rw[HR.o,show (c.a.b==0)=r7 by simpa using hz];simp
  go_wp2_with fail
  go_ret;exact⟨Chg.b y.o,by rw[k.o];rfl,nv,nf,K.o,fun x m=>by rw[k.o]at m;cases m⟩
 have HZ:Hid ((c.a.b==0)=r5):=by show _=_;simpa using hz
 have z:=Hd (bt.o W2);rw[hz]at T L z;clear bt;go_wp2_with fail
 refine z.o.mono ?_;rintro e W3 ⟨rfl,M⟩;obtain⟨b1,b2⟩:=zz2 (y.o.trans (M.mono y.o.size)) (K.o.C M);have ba:=ag M L.o (ES.1 L.o).1;have ct:=Hd ba;clear M e0 e1 e2 T e4 e5 e6 e7 e8 e9 z L K y;obtain⟨e0,e1,e2,T,e4,e5,e6,e7,e8,e9⟩:=dS ba;clear ba
 cases hp:bj r7 r7 r7 c.a with
 | false =>
  have k:Hid (res=V):=by show _=_;rw[HR.o,hp];simp
  clear hp;go_wp2_with fail
  go_ret;exact⟨Chg.b b1.o,by rw[k.o];rfl,nv,nf,b2.o,fun x m=>by rw[k.o]at m;cases m⟩
 | true =>
 have U:Hid (res=(match db r5 nv c.c with|none=>V|some v=>A (v,nf+1))):=by
  show _=_
  rw[HR.o,bR.o,cr.o,HZ.o,hp];rfl
 clear hp hz HR;go_wp2_with fail
 go_loopw [35] (qo F S d types rules vT vR nv nf r5 c l w #[I J 1,I Y c.h,O pa l R,I J 0,I J c.a.h.b,I Y c.a.h.q,p9 c.a.h.h,I Y c.a.q,I J c.a.op,O p n cc]) (fun i _=>l-(intOf i).toNat)
 case atStart=>exact⟨0,nv,Fi _,Z,Z,by omega,by omega,ct.o,b2.o,Chg.b b1.o⟩
 case round =>
  obtain⟨j,v,hj,rfl,B,c7,c8,b3,b4,X⟩:=hrel;have c9:(0:Int)≤j:=by omega
  obtain⟨b5,bb,N,bc⟩:=zz4 B b3 b4 X;clear B b3 b4 X e0 e1 e2 T e4 e5 e6 e7 e8 e9;obtain⟨e0,e1,e2,T,e4,e5,e6,e7,e8,e9⟩:=dS bb.o
  by_cases G:j<l
  ·have da:(j:Int)<l:=by omega
   obtain⟨a,ha⟩:∃a,c.c[j]?=A a:=⟨_,EX (by rw[a6.o];exact G)⟩;have ad:gQ.y wr F c.c (O pa l R):=Rd.qv (fun b hb o ho=>(bc.o.q b (HF.o b hb).1 (HF.o b hb).2).trans ho) cq.o;have b6:=Rd.T ad ha;rw[a6.o]at b6;obtain⟨b,off,cap,vs,cu,_,_,_,_,b7,g⟩:=b6;injection cu with cv _ cx
   subst cv;subst cx;obtain⟨rfl,af⟩:=jx.1 b7;have c0:wr.cell? ⟨b,off+j*5,V⟩=A (I J a.b):=g 0 _ Z;have c1:wr.cell? ⟨b,off+j*5+1,V⟩=A (I Y a.q):=g 1 _ Z;have c2:wr.cell? ⟨b,off+j*5+2,V⟩=A (I J a.h.b):=g 2 _ Z;have c3:wr.cell? ⟨b,off+j*5+3,V⟩=A (I Y a.h.q):=g 3 _ Z;have c4:wr.cell? ⟨b,off+j*5+4,V⟩=A (p9 a.h.h):=g 4 _ Z;obtain⟨w5,P⟩:=zzx (wr.alloc (p8 #[I J a.b,I Y a.q,I J a.h.b,I Y a.h.q,p9 a.h.h] 56));have Q:FS wr w5:=by rw[P];exact (EU _ wr).alloc (ET _) _
   have b8:w5.heap[wr.heap.size]?=A (p8 #[I J a.b,I Y a.q,I J a.h.b,I Y a.h.q,p9 a.h.h] 56 (0,0)):=by rw[P];exact ot wr _
   have cT:=Hd Q;have bd:=ag Q bb.o (ES.1 bb.o).1;obtain⟨b9,HA,cb⟩:=zz3 bd (rT F S d types rules vT vR v nf a r5 w5 (N.o.C Q) (by omega) af.2.2.2.2) (oN (binds:=r5) ha b5.o);obtain⟨k0,k1,k2,k3,k4⟩:=cells5 b8;obtain⟨x0,x1,x2,x3,x4,x5,x6,x7,x8,x9⟩:=dS bd;clear ad b7 g ha af Q b8 bd;go_upto_region 9 with fail
   change Code.wp _ _ _ _ (wr.alloc (p8 #[I J a.b,I Y a.q,I J a.h.b,I Y a.h.q,p9 a.h.h] 56));rw[←P];clear P c0 c1 c2 c3 c4 e0 e1 e2 T e4 e5 e6 e7 e8 e9;go_wp2_with fail
   refine HA.o.mono ?_;rintro e W4 ⟨C,rfl,v',ch,bk⟩;have ck:Hid (Chg (fun b=>b=S) w W4):=(bc.o.h (Chg.b cT.o)).h C;have ak:=(C.q _ (ES.1 b9.o).1 (by have:=br.o;omega)).trans b9.o;have cl:=Hd ch;clear C ch k0 k1 k2 k3 k4 x0 x1 x2 x3 x4 x5 x6 x7 x8 x9
   cases hq:bT r5 v a with
   | none =>
    have k:Hid (res=V):=by
     show _=_
     rw[U.o,lv c.c nv (j+1) (cb.o.trans hq)]
    clear hq bk;go_wp2_with fail
    go_ret;exact⟨ck.o,by rw[k.o];rfl,v',nf,cl.o,fun x m=>by rw[k.o]at m;cases m⟩
   | some u =>
    have hu:=bk u hq;have hle:=oP hq;have HR:Hid (qo F S d types rules vT vR nv nf r5 c l w #[I J 1,I Y c.h,O (A ⟨b,off,V⟩) l R,I J 0,I J c.a.h.b,I Y c.a.h.q,p9 c.a.h.h,I Y c.a.q,I J c.a.op,O p n cc] (I Y ((j+1:Nat):Int)) W4):=
     ⟨j+1,u,by omega,Z,cb.o.trans hq,by omega,by omega,ak,by rw[←hu];exact cl.o,ck.o⟩
    clear hq bk hu hle ak;go_wp2_with fail
    refine⟨HR.o,?_⟩;simp[intOf];omega
  ·have aq:db r5 nv c.c=A v:=by
    rw[←b5.o,Fq (by rw[a6.o];omega)]
   have cp:Hid (res=A (v,nf+1)):=by show _=_;rw[U.o,aq]
   clear aq;have dc:wr.cell? ⟨S,3,V⟩=A (I Y nf):=by rw[FR _ _ _ _ _ _ N.o.h];rfl
   have fz:=cH N.o.h;have cV:=Hd (N.o.setF (nf+1));have cW:Hid (Chg (fun b=>b=S) w (wr.setCell ⟨S,3,V⟩ (I Y (nf+1)))):=Chg.t (F:=fun b=>b=S) bc.o (p:=⟨S,3,V⟩) (Or.inl Z) _;go_wp2_with fail
   go_ret;exact⟨cW.o,by rw[cp.o];rfl,v,nf+1,cV.o,fun x m=>by rw[cp.o]at m;injection m with m;rw[←m];exact⟨Z,Z⟩⟩
theorem uo(F:Nat→Prop)(S d:Nat)(types:List ap)(rules:List au)(vT vR:r3)(nv nf:Int)(c:aK)(pa p:Option Addr)(l Q n cc:Nat)(w:p7)(hw:SuW F S d types rules vT vR nv nf w)(hk:c.b=2)(q:c.c.length=l)(hn:c.a.u.length=n)(bk:gQ.y w F c.c (O pa l Q))(cV:0≤nv∧nv≤1000)(_hnf:0≤nf∧nf≤1000)(bl:∀t∈types,t.b≤6) :
  r9 Tryz.prog 34 #[tv (A ⟨S,0,V⟩),s3 #[I J c.b,I Y c.h,O pa l Q,I J c.a.b,I J c.a.h.b,I Y c.a.h.q,p9 c.a.h.h,I Y c.a.q,I J c.a.op,O p n cc]] w (lw F S d types rules vT vR (ci d types (nv,nf) c) w):=by
 obtain⟨w1,D⟩:=zzx (w.alloc (p8 #[I J 2,I Y c.h,O pa l Q,I J c.a.b,I J c.a.h.b,I Y c.a.h.q,p9 c.a.h.h,I Y c.a.q,I J c.a.op,O p n cc] 53));have E:FS w w1:=by rw[D];exact (EU _ w).alloc (ET _) _
 have aq:w1.heap[w.heap.size]?=A (p8 #[I J 2,I Y c.h,O pa l Q,I J c.a.b,I J c.a.h.b,I Y c.a.h.q,p9 c.a.h.h,I Y c.a.q,I J c.a.op,O p n cc] 53 (0,0)):=by rw[D];exact ot w _
 obtain⟨ar,av,bn,bq⟩:=zz4 E aq (hw.C E) hw.lt;have HF:=Hd (fun b (hb:F b)=>hw.f b hb);obtain⟨cq,a1,a6,br⟩:=zz4 bk q (li F S d types rules vT vR nv nf c.h (c.c.length:Int) w1 (hw.C E)) (fun W=>rL c.a p n cc W hn);have r:bz types c.h (c.c.length:Int)=r5→l≤6:=fun h=>by
  unfold bz at h;simp only[Fp,oE,pv]at h;obtain⟨⟨h1,h2⟩,h3⟩:=h;have G:c.h.toNat<types.length:=by omega
  rw[EX G]at h3;have h6:=bl _ (List.getElem_mem G);have h3:types[c.h.toNat].b=(c.c.length:Int):=h3;rw[q]at h3;omega
 have bt:=Hd r;have hm:ci d types (nv,nf) c=if bz types c.h (c.c.length:Int)&&(c.a.b==0&&bj r7 r7 r7 c.a) then (match db r7 nv c.c with|none=>V|some v=>A (v,nf)) else none:=by
  unfold ci bj zeroE;rw[hk];simp only[Bool.false_or,Bool.and_assoc];rfl
 obtain⟨res,s⟩:=zzx (ci d types (nv,nf) c);have HR:Hid (res=if bz types c.h (c.c.length:Int)&&(c.a.b==0&&bj r7 r7 r7 c.a) then (match db r7 nv c.c with|none=>V|some v=>A (v,nf)) else V):=s.trans hm
 rw[←s,hk];rw[q]at a6 bt;have bB:Hid (bz types c.h (c.c.length:Int)=bz types c.h (l:Int)):=by show _=_;rw[q]
 obtain⟨e0,e1,e2,R,e4,e5,e6,e7,e8,e9⟩:=dS aq;clear E aq hw bk q hn hm s hk bl r
 go_enter Tryz.func34,Tryz.ntmps34
 go_upto_region 1 with fail
 change Code.wp _ _ _ _ (w.alloc (p8 #[I J 2,I Y c.h,O pa l Q,I J c.a.b,I J c.a.h.b,I Y c.a.h.q,p9 c.a.h.h,I Y c.a.q,I J c.a.op,O p n cc] 53));rw[←D];clear D;go_wp2_with fail
 refine a6.o.mono ?_;rintro e W2 ⟨rfl,H⟩;obtain⟨y,K⟩:=zz2 (ar.o.trans (H.mono ar.o.size)) (bn.o.C H);have a7:=ag H av.o (ES.1 av.o).1;have L:=Hd a7;clear H e0 e1 e2 R e4 e5 e6 e7 e8 e9 a6 av bn ar;obtain⟨e0,e1,e2,R,e4,e5,e6,e7,e8,e9⟩:=dS a7;clear a7
 cases hf:bz types c.h (l:Int) with
 | false =>
  have k:Hid (res=V):=by show _=_;rw[HR.o,bB.o,hf];rfl
  clear hf;go_wp2_with fail
  go_ret;exact⟨Chg.b y.o,by rw[k.o];rfl,nv,nf,K.o,fun x m=>by rw[k.o]at m;cases m⟩
 | true =>
 have h6:l≤6:=bt.o hf;have cr:=Hd hf;clear hf
 by_cases hz:c.a.b=0
 rotate_left
 ·have k:Hid (res=V):=by show _=_;rw[HR.o,show (c.a.b==0)=r7 by simpa using hz];simp
  go_wp2_with fail
  go_ret;exact⟨Chg.b y.o,by rw[k.o];rfl,nv,nf,K.o,fun x m=>by rw[k.o]at m;cases m⟩
 have HZ:Hid ((c.a.b==0)=r5):=by show _=_;simpa using hz
 have z:=Hd (br.o W2);rw[hz]at R L z;clear br;go_wp2_with fail
 refine z.o.mono ?_;rintro e W3 ⟨rfl,M⟩;obtain⟨bR,b1⟩:=zz2 (y.o.trans (M.mono y.o.size)) (K.o.C M);have a8:=ag M L.o (ES.1 L.o).1;have ct:=Hd a8;clear M e0 e1 e2 R e4 e5 e6 e7 e8 e9 z L K y;obtain⟨e0,e1,e2,R,e4,e5,e6,e7,e8,e9⟩:=dS a8;clear a8
 cases hp:bj r7 r7 r7 c.a with
 | false =>
  have k:Hid (res=V):=by show _=_;rw[HR.o,hp];simp
  clear hp;go_wp2_with fail
  go_ret;exact⟨Chg.b bR.o,by rw[k.o];rfl,nv,nf,b1.o,fun x m=>by rw[k.o]at m;cases m⟩
 | true =>
 have T:Hid (res=(match db r7 nv c.c with|none=>V|some v=>A (v,nf))):=by
  show _=_
  rw[HR.o,bB.o,cr.o,HZ.o,hp];rfl
 clear hp hz HR;go_wp2_with fail
 go_loopw [35] (qo F S d types rules vT vR nv nf r7 c l w #[I J 2,I Y c.h,O pa l Q,I J 0,I J c.a.h.b,I Y c.a.h.q,p9 c.a.h.h,I Y c.a.q,I J c.a.op,O p n cc]) (fun i _=>l-(intOf i).toNat)
 case atStart=>exact⟨0,nv,Fi _,Z,Z,by omega,by omega,ct.o,b1.o,Chg.b bR.o⟩
 case round =>
  obtain⟨j,v,hj,rfl,B,cW,c5,b2,b3,U⟩:=hrel;have c6:(0:Int)≤j:=by omega
  obtain⟨b4,ba,b5,bb⟩:=zz4 B b2 b3 U;clear B b2 b3 U e0 e1 e2 R e4 e5 e6 e7 e8 e9;obtain⟨e0,e1,e2,R,e4,e5,e6,e7,e8,e9⟩:=dS ba.o
  by_cases G:j<l
  ·have c7:(j:Int)<l:=by omega
   obtain⟨a,ha⟩:∃a,c.c[j]?=A a:=⟨_,EX (by rw[a1.o];exact G)⟩;have X:gQ.y wr F c.c (O pa l Q):=Rd.qv (fun b hb o ho=>(bb.o.q b (HF.o b hb).1 (HF.o b hb).2).trans ho) cq.o;have b6:=Rd.T X ha;rw[a1.o]at b6;obtain⟨b,off,cap,vs,cu,_,_,_,_,b7,g⟩:=b6;injection cu with cv _ cx
   subst cv;subst cx;obtain⟨rfl,ad⟩:=jx.1 b7;have c0:wr.cell? ⟨b,off+j*5,V⟩=A (I J a.b):=g 0 _ Z;have c1:wr.cell? ⟨b,off+j*5+1,V⟩=A (I Y a.q):=g 1 _ Z;have c2:wr.cell? ⟨b,off+j*5+2,V⟩=A (I J a.h.b):=g 2 _ Z;have c3:wr.cell? ⟨b,off+j*5+3,V⟩=A (I Y a.h.q):=g 3 _ Z;have c4:wr.cell? ⟨b,off+j*5+4,V⟩=A (p9 a.h.h):=g 4 _ Z;obtain⟨w5,N⟩:=zzx (wr.alloc (p8 #[I J a.b,I Y a.q,I J a.h.b,I Y a.h.q,p9 a.h.h] 56));have P:FS wr w5:=by rw[N];exact (EU _ wr).alloc (ET _) _
   have b8:w5.heap[wr.heap.size]?=A (p8 #[I J a.b,I Y a.q,I J a.h.b,I Y a.h.q,p9 a.h.h] 56 (0,0)):=by rw[N];exact ot wr _
   have cT:=Hd P;have bc:=ag P ba.o (ES.1 ba.o).1;obtain⟨b9,HA,cb⟩:=zz3 bc (rT F S d types rules vT vR v nf a r7 w5 (b5.o.C P) (by omega) ad.2.2.2.2) (oN (binds:=r7) ha b4.o);obtain⟨k0,k1,k2,k3,k4⟩:=cells5 b8;obtain⟨x0,x1,x2,x3,x4,x5,x6,x7,x8,x9⟩:=dS bc;clear X b7 g ha ad P b8 bc;go_upto_region 9 with fail
   change Code.wp _ _ _ _ (wr.alloc (p8 #[I J a.b,I Y a.q,I J a.h.b,I Y a.h.q,p9 a.h.h] 56));rw[←N];clear N c0 c1 c2 c3 c4 e0 e1 e2 R e4 e5 e6 e7 e8 e9;go_wp2_with fail
   refine HA.o.mono ?_;rintro e W4 ⟨C,rfl,v',ch,bd⟩;have ck:Hid (Chg (fun b=>b=S) w W4):=(bb.o.h (Chg.b cT.o)).h C;have af:=(C.q _ (ES.1 b9.o).1 (by have:=bq.o;omega)).trans b9.o;have cl:=Hd ch;clear C ch k0 k1 k2 k3 k4 x0 x1 x2 x3 x4 x5 x6 x7 x8 x9
   cases hq:bT r7 v a with
   | none =>
    have k:Hid (res=V):=by
     show _=_
     rw[T.o,lv c.c nv (j+1) (cb.o.trans hq)]
    clear hq bd;go_wp2_with fail
    go_ret;exact⟨ck.o,by rw[k.o];rfl,v',nf,cl.o,fun x m=>by rw[k.o]at m;cases m⟩
   | some u =>
    have hu:=bd u hq;have hle:=oP hq;have HR:Hid (qo F S d types rules vT vR nv nf r7 c l w #[I J 2,I Y c.h,O (A ⟨b,off,V⟩) l Q,I J 0,I J c.a.h.b,I Y c.a.h.q,p9 c.a.h.h,I Y c.a.q,I J c.a.op,O p n cc] (I Y ((j+1:Nat):Int)) W4):=
     ⟨j+1,u,by omega,Z,cb.o.trans hq,by omega,by omega,af,by rw[←hu];exact cl.o,ck.o⟩
    clear hq bd hu hle af;go_wp2_with fail
    refine⟨HR.o,?_⟩;simp[intOf];omega
  ·have ak:db r7 nv c.c=A v:=by
    rw[←b4.o,Fq (by rw[a1.o];omega)]
   have cp:Hid (res=A (v,nf)):=by show _=_;rw[T.o,ak]
   clear ak;go_wp2_with fail
   go_ret;exact⟨bb.o,by rw[cp.o];rfl,v,nf,b5.o,fun x m=>by rw[cp.o]at m;injection m with m;rw[←m];exact⟨Z,Z⟩⟩
theorem wH(F:Nat→Prop)(S d:Nat)(types:List ap)(rules:List au)(vT vR:r3)(nv nf:Int)(c:aK)(B p:Option Addr)(i C n cc:Nat)(w:p7)(hw:SuW F S d types rules vT vR nv nf w)(E:c.b=3)(t:c.c.length=i)(_hn:c.a.u.length=n)(m:fL c.a)(u:ey w F d c.a.u (O p n cc)) :
  r9 Tryz.prog 34 #[tv (A ⟨S,0,V⟩),s3 #[I J c.b,I Y c.h,O B i C,I J c.a.b,I J c.a.h.b,I Y c.a.h.q,p9 c.a.h.h,I Y c.a.q,I J c.a.op,O p n cc]] w (lw F S d types rules vT vR (ci d types (nv,nf) c) w):=by
 obtain⟨w1,k⟩:=zzx (w.alloc (p8 #[I J 3,I Y c.h,O B i C,I J c.a.b,I J c.a.h.b,I Y c.a.h.q,p9 c.a.h.h,I Y c.a.q,I J c.a.op,O p n cc] 53));have h:FS w w1:=by rw[k];exact (EU _ w).alloc (ET _) _
 have q:w1.heap[w.heap.size]?=A (p8 #[I J 3,I Y c.h,O B i C,I J c.a.b,I J c.a.h.b,I Y c.a.h.q,p9 c.a.h.h,I Y c.a.q,I J c.a.op,O p n cc] 53 (0,0)):=by rw[k];exact ot w _
 obtain⟨l,N,r,K⟩:=zz4 h q (hw.C h) (l6 S nv d c.a (O p n cc) w1 (hw.C h).b m (gY (fun b G=>EY (hw.f b G).1 h.size) (iy (fun b G o P=>(h.block b (hw.f b G).1).trans P) u)));have hm:ci d types (nv,nf) c=if decide (c.h=0)&&decide (i=0)&&dL nv d c.a then A (nv,nf) else none:=by
  unfold ci;rw[E,show c.c.isEmpty=decide (i=0) by rw[←t];cases c.c<;>rfl,show (c.h==0)=decide (c.h=0) from rfl]
  rfl
 obtain⟨res,j⟩:=zzx (ci d types (nv,nf) c);have D:Hid (res=if decide (c.h=0)&&decide (i=0)&&dL nv d c.a then A (nv,nf) else V):=j.trans hm;rw[←j,E];obtain⟨Q,R,T,U,W,X,e6,e7,e8,e9⟩:=dS q;clear h q hw t _hn hm j E u m
 go_enter Tryz.func34,Tryz.ntmps34
 go_upto_region 1 with fail
 change Code.wp _ _ _ _ (w.alloc (p8 #[I J 3,I Y c.h,O B i C,I J c.a.b,I J c.a.h.b,I Y c.a.h.q,p9 c.a.h.h,I Y c.a.q,I J c.a.op,O p n cc] 53));rw[←k];clear k
 by_cases L:c.h=0
 ·by_cases M:i=0
  ·subst M;have H0:Hid (c.h=0):=L;go_wp2_with fail
   refine K.o.mono ?_;rintro e W2 ⟨rfl,s⟩;obtain⟨v,y⟩:=zz2 (l.o.trans (s.mono l.o.size)) (r.o.C s);clear s K Q R T U W X e6 e7 e8 e9
   cases a:dL nv d c.a with
   | true =>
    have z:Hid (res=A (nv,nf)):=by show _=_;rw[D.o,decide_eq_true H0.o,a];rfl
    clear a;go_wp2_with fail
    go_ret;exact⟨Chg.b v.o,by rw[z.o];rfl,nv,nf,y.o,fun x a=>by rw[z.o]at a;injection a with a;rw[←a];exact⟨Z,Z⟩⟩
   | false =>
    have g:Hid (res=V):=by show _=_;rw[D.o,a];simp
    clear a;go_wp2_with fail
    go_ret;exact⟨Chg.b v.o,by rw[g.o];rfl,nv,nf,y.o,fun x a=>by rw[g.o]at a;cases a⟩
  ·have g:Hid (res=V):=by show _=_;rw[D.o,oB M];simp
   have H:¬((i:Int)=0):=by omega
   have ad:((i:Int)==0)=false:=by simpa using H
   go_wp2_with fail
   go_ret;exact⟨Chg.b l.o,by rw[g.o];rfl,nv,nf,r.o,fun x a=>by rw[g.o]at a;cases a⟩
 ·have g:Hid (res=V):=by show _=_;rw[D.o,oB L];simp
  go_wp2_with fail
  go_ret;exact⟨Chg.b l.o,by rw[g.o];rfl,nv,nf,r.o,fun x a=>by rw[g.o]at a;cases a⟩
theorem tX(F:Nat→Prop)(S d:Nat)(types:List ap)(rules:List au)(vT vR:r3)(nv nf:Int)(c:aK)(g p:Option Addr)(h i n cc:Nat)(w:p7)(hw:SuW F S d types rules vT vR nv nf w)(b:c.b≠1∧c.b≠2∧c.b≠3) :
  r9 Tryz.prog 34 #[tv (A ⟨S,0,V⟩),s3 #[I J c.b,I Y c.h,O g h i,I J c.a.b,I J c.a.h.b,I Y c.a.h.q,p9 c.a.h.h,I Y c.a.q,I J c.a.op,O p n cc]] w (lw F S d types rules vT vR (ci d types (nv,nf) c) w):=by
 have hm:ci d types (nv,nf) c=none:=by
  unfold ci;rw[show (c.b==1)=r7 by simpa using b.1,show (c.b==2)=r7 by simpa using b.2.1,show (c.b==3)=r7 by simpa using b.2.2];rfl
 rw[hm];have a:FS w (w.alloc (p8 #[I J c.b,I Y c.h,O g h i,I J c.a.b,I J c.a.h.b,I Y c.a.h.q,p9 c.a.h.h,I Y c.a.q,I J c.a.op,O p n cc] 53)):=(EU _ w).alloc (ET _) _;obtain⟨e,f⟩:=zz2 a (hw.C a);obtain⟨k,l,m⟩:=b;clear a hw hm
 go_enter Tryz.func34,Tryz.ntmps34
 go_wp2_with fail
 go_ret;exact⟨Chg.b e.o,Z,nv,nf,f.o,fun x j=>by cases j⟩
theorem yk(F:Nat→Prop)(S d:Nat)(types:List ap)(rules:List au)(vT vR:r3)(nv nf:Int)(c:aK)(l s:r3)(w:p7)(hw:SuW F S d types rules vT vR nv nf w)(k:(ec d).at_ w F c (tK c l s))(b:0≤nv∧nv≤1000)(e:0≤nf∧nf≤1000)(f:∀t∈types,t.b≤6) :
  r9 Tryz.prog 34 #[tv (A ⟨S,0,V⟩),s3 #[I J c.b,I Y c.h,l,I J c.a.b,I J c.a.h.b,I Y c.a.h.q,p9 c.a.h.h,I Y c.a.q,I J c.a.op,s]] w (lw F S d types rules vT vR (ci d types (nv,nf) c) w):=by
 obtain⟨_,_,g,q,r,he,a,h⟩:=gh.1 k;unfold tK bU at he;simp only[List.cons_append,List.nil_append,List.cons.injEq,pk,and_true]at he;obtain⟨rfl,rfl⟩:=he;obtain⟨i,j,rfl⟩:=Rd.b a;obtain⟨p,cc,rfl⟩:=bY h
 by_cases m:c.b=1
 ·exact uL F S d types rules vT vR nv nf c i p _ j _ cc w hw m Z Z a b e f
 by_cases n:c.b=2
 ·exact uo F S d types rules vT vR nv nf c i p _ j _ cc w hw n Z Z a b e f
 by_cases o:c.b=3
 ·exact wH F S d types rules vT vR nv nf c i p _ j _ cc w hw o Z Z g h
 ·exact tX F S d types rules vT vR nv nf c i p _ j _ cc w hw ⟨m,n,o⟩
