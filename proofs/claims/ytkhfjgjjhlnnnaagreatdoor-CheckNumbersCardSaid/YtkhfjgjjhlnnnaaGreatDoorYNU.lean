/- The rule checker's second part: a condition, by contract. Condition: types of at most six fields. Printed by tools/genSuG.py. -/
import Derived.Test.YtkhfjgjjhlnnnaaGreatDoorYNS
import Derived.Test.YtkhfjgjjhlnnnaaGreatDoorYNA
open Go renaming Value→wF,World→wD,Calls→xL
open Option renaming some→Y,none→U
open Go.Value renaming int→I,slice→A,pointer→xV,agg→xS,string→J
open Go.IntKind renaming i64→Z,u8→O
open Go.Obj renaming cells→wq
open Bool renaming true→wP,false→xj
namespace Go.Proofs.YtkhfjgjjhlnnnaaGreatDoor
set_option maxHeartbeats 8000000
set_option maxRecDepth 100000
open Go.RowKit
def lP(F:Nat→Prop) (S d:Nat) (types:List ae) (rules:List an) (vT vR:wF) (r:Option (Int×Int)) (w:wD) (e:Ending) (w':wD):Prop:=
 Chg (fun b=>b=S) w w'∧e=Ending.returned (Value.bool r.isSome)∧∃a c,SuW F S d types rules vT vR a c w'∧∀x,r=Y x→a=x.1∧c=x.2
def qC(F:Nat→Prop) (S d:Nat) (types:List ae) (rules:List an) (vT vR:wF) (nv nf:Int) (binds:Bool) (c:aW) (a:Nat) (w:wD) (cs:Array wF) (i:wF) (W:wD):Prop:=
 ∃(j:Nat) (v:Int),j≤a∧i=I Z (j:Int)∧cU binds nv (c.N.take j)=Y v∧nv≤v∧v≤nv+j∧W.heap[w.heap.size]?=Y (wq cs 64 (0,0))∧SuW F S d types rules vT vR v nf W∧Chg (fun b=>b=S) w W
theorem py{binds:Bool}{nv v:Int}{l:List dw}{j:Nat}{a:dw}(b:l[j]?=Y a)(h:cU binds nv (l.take j)=Y v):cU binds nv (l.take (j+1))=bZ binds v a:=by
 rw[Fz,b];exact oS binds _ _ _ _ h
theorem lN{binds:Bool}:∀(l:List dw) (nv:Int) (j:Nat),cU binds nv (l.take j)=U→cU binds nv l=U
 | [],nv,j,h=>by simp[cU]at h
 | a::l,nv,0,h=>by simp[cU]at h
 | a::l,nv,j+1,h=>by
  rw[EY]at h;unfold cU at h ⊢
  cases b:bZ binds nv a with
  | none=>rfl
  | some v =>
   rw[b]at h;exact lN l v j h
theorem pB{binds:Bool}{v b:Int}{a:dw}(h:bZ binds v a=Y b):v≤b∧b≤v+1:=by
 unfold bZ at h
 repeat' split at h
 all_goals first
  | (injection h with h;omega)
  | cases h
theorem uA(F:Nat→Prop)(S d:Nat)(types:List ae)(rules:List an)(vT vR:wF)(nv nf:Int)(c:aW)(pa p:Option Addr)(l R n cc:Nat)(w:wD)(hw:SuW F S d types rules vT vR nv nf w)(hk:c.b=1)(q:c.N.length=l)(hn:c.a.u.length=n)(bq:gn.K w F c.N (A pa l R))(cW:0≤nv∧nv≤1000)(c5:0≤nf∧nf≤1000)(br:∀t∈types,t.b≤6) :
  xL Tryz.prog 65 #[xV (Y ⟨S,0,U⟩),xS #[I O c.b,I Z c.f,A pa l R,I O c.a.b,I O c.a.f.b,I Z c.a.f.h,J c.a.f.f,I Z c.a.h,I O c.a.op,A p n cc]] w (lP F S d types rules vT vR (cp d types (nv,nf) c) w):=by
 obtain⟨w1,D⟩:=zzx (w.alloc (wq #[I O 1,I Z c.f,A pa l R,I O c.a.b,I O c.a.f.b,I Z c.a.f.h,J c.a.f.f,I Z c.a.h,I O c.a.op,A p n cc] 64));have E:FK w w1:=by rw[D];exact (EP _ w).alloc (EO _) _
 have ar:w1.heap[w.heap.size]?=Y (wq #[I O 1,I Z c.f,A pa l R,I O c.a.b,I O c.a.f.b,I Z c.a.f.h,J c.a.f.f,I Z c.a.h,I O c.a.op,A p n cc] 64 (0,0)):=by rw[D];exact p9 w _
 obtain⟨av,a1,bt,bB⟩:=zz4 E ar (hw.z E) hw.lt;have HF:=Hd (fun b (hb:F b)=>hw.f b hb);obtain⟨ct,a6,ba,bR⟩:=zz4 bq q (lG F S d types rules vT vR nv nf c.f (c.N.length:Int) w1 (hw.z E)) (fun W=>rU c.a p n cc W hn);have r:bH types c.f (c.N.length:Int)=wP→l≤6:=fun h=>by
  unfold bH at h;simp only[Ff,r7,tk]at h;obtain⟨⟨h1,h2⟩,h3⟩:=h;have G:c.f.toNat<types.length:=by omega
  rw[ES G]at h3;have h6:=br _ (List.getElem_mem G);have h3:types[c.f.toNat].b=(c.N.length:Int):=h3;rw[q]at h3;omega
 have b0:=Hd r;have hm:cp d types (nv,nf) c=if bH types c.f (c.N.length:Int)&&(c.a.b==0&&bs xj xj xj c.a) then (match cU wP nv c.N with|none=>U|some v=>Y (v,nf+1)) else none:=by
  unfold cp bs zeroE;rw[hk];simp only[Bool.false_or,Bool.and_assoc];rfl
 obtain⟨res,s⟩:=zzx (cp d types (nv,nf) c);have HR:Hid (res=if bH types c.f (c.N.length:Int)&&(c.a.b==0&&bs xj xj xj c.a) then (match cU wP nv c.N with|none=>U|some v=>Y (v,nf+1)) else U):=s.trans hm
 rw[←s,hk];rw[q]at ba b0;have b1:Hid (bH types c.f (c.N.length:Int)=bH types c.f (l:Int)):=by show _=_;rw[q]
 obtain⟨e0,e1,e2,T,e4,e5,e6,e7,e8,e9⟩:=cL ar;clear E ar hw bq q hn hm s hk br r
 go_enter Tryz.func65,Tryz.ntmps65
 go_upto_region 1 with fail
 change Code.wp _ _ _ _ (w.alloc (wq #[I O 1,I Z c.f,A pa l R,I O c.a.b,I O c.a.f.b,I Z c.a.f.h,J c.a.f.f,I Z c.a.h,I O c.a.op,A p n cc] 64));rw[←D];clear D;go_wp2_with fail
 refine ba.o.mono ?_;rintro e W2 ⟨rfl,H⟩;obtain⟨y,K⟩:=zz2 (av.o.trans (H.mono av.o.size)) (bt.o.z H);have bb:=aa H a1.o (EN.1 a1.o).1;have L:=Hd bb;clear H e0 e1 e2 T e4 e5 e6 e7 e8 e9 ba a1 bt av;obtain⟨e0,e1,e2,T,e4,e5,e6,e7,e8,e9⟩:=cL bb;clear bb
 cases hf:bH types c.f (l:Int) with
 | false =>
  have k:Hid (res=U):=by show _=_;rw[HR.o,b1.o,hf];rfl
  clear hf;go_wp2_with fail
  go_ret;exact⟨Chg.f y.o,by rw[k.o];rfl,nv,nf,K.o,fun x m=>by rw[k.o]at m;cases m⟩
 | true =>
 have h6:l≤6:=b0.o hf;have cu:=Hd hf;clear hf
 by_cases hz:c.a.b=0
 rotate_left
 ·have k:Hid (res=U):=by show _=_;rw[HR.o,show (c.a.b==0)=xj by simpa using hz];simp
  go_wp2_with fail
  go_ret;exact⟨Chg.f y.o,by rw[k.o];rfl,nv,nf,K.o,fun x m=>by rw[k.o]at m;cases m⟩
 have HZ:Hid ((c.a.b==0)=wP):=by show _=_;simpa using hz
 have z:=Hd (bR.o W2);rw[hz]at T L z;clear bR;go_wp2_with fail
 refine z.o.mono ?_;rintro e W3 ⟨rfl,M⟩;obtain⟨b2,b3⟩:=zz2 (y.o.trans (M.mono y.o.size)) (K.o.z M);have bc:=aa M L.o (EN.1 L.o).1;have cv:=Hd bc;clear M e0 e1 e2 T e4 e5 e6 e7 e8 e9 z L K y;obtain⟨e0,e1,e2,T,e4,e5,e6,e7,e8,e9⟩:=cL bc;clear bc
 cases hp:bs xj xj xj c.a with
 | false =>
  have k:Hid (res=U):=by show _=_;rw[HR.o,hp];simp
  clear hp;go_wp2_with fail
  go_ret;exact⟨Chg.f b2.o,by rw[k.o];rfl,nv,nf,b3.o,fun x m=>by rw[k.o]at m;cases m⟩
 | true =>
 have X:Hid (res=(match cU wP nv c.N with|none=>U|some v=>Y (v,nf+1))):=by
  show _=_
  rw[HR.o,b1.o,cu.o,HZ.o,hp];rfl
 clear hp hz HR;go_wp2_with fail
 go_loopw [35] (qC F S d types rules vT vR nv nf wP c l w #[I O 1,I Z c.f,A pa l R,I O 0,I O c.a.f.b,I Z c.a.f.h,J c.a.f.f,I Z c.a.h,I O c.a.op,A p n cc]) (fun i _=>l-(intOf i).toNat)
 case atStart=>exact⟨0,nv,Fa _,V,V,by omega,by omega,cv.o,b3.o,Chg.f b2.o⟩
 case round =>
  obtain⟨j,v,hj,rfl,B,c6,c7,b4,b5,ad⟩:=hrel;have c8:(0:Int)≤j:=by omega
  obtain⟨b6,bd,N,bk⟩:=zz4 B b4 b5 ad;clear B b4 b5 ad e0 e1 e2 T e4 e5 e6 e7 e8 e9;obtain⟨e0,e1,e2,T,e4,e5,e6,e7,e8,e9⟩:=cL bd.o
  by_cases G:j<l
  ·have c9:(j:Int)<l:=by omega
   obtain⟨a,ha⟩:∃a,c.N[j]?=Y a:=⟨_,ES (by rw[a6.o];exact G)⟩;have af:gn.K wr F c.N (A pa l R):=Rd.f (fun b hb o ho=>(bk.o.u b (HF.o b hb).1 (HF.o b hb).2).trans ho) ct.o;have b7:=Rd.tS af ha;rw[a6.o]at b7;obtain⟨b,off,cap,vs,cx,_,_,_,_,b8,g⟩:=b7;injection cx with cA _ cC
   subst cA;subst cC;obtain⟨rfl,ak⟩:=kl.1 b8;have c0:wr.cell? ⟨b,off+j*5,U⟩=Y (I O a.b):=g 0 _ V;have c1:wr.cell? ⟨b,off+j*5+1,U⟩=Y (I Z a.h):=g 1 _ V;have c2:wr.cell? ⟨b,off+j*5+2,U⟩=Y (I O a.f.b):=g 2 _ V;have c3:wr.cell? ⟨b,off+j*5+3,U⟩=Y (I Z a.f.h):=g 3 _ V;have c4:wr.cell? ⟨b,off+j*5+4,U⟩=Y (J a.f.f):=g 4 _ V;obtain⟨w5,P⟩:=zzx (wr.alloc (wq #[I O a.b,I Z a.h,I O a.f.b,I Z a.f.h,J a.f.f] 67));have Q:FK wr w5:=by rw[P];exact (EP _ wr).alloc (EO _) _
   have b9:w5.heap[wr.heap.size]?=Y (wq #[I O a.b,I Z a.h,I O a.f.b,I Z a.f.h,J a.f.f] 67 (0,0)):=by rw[P];exact p9 wr _
   have cR:=Hd Q;have bl:=aa Q bd.o (EN.1 bd.o).1;obtain⟨cb,HA,ch⟩:=zz3 bl (sh F S d types rules vT vR v nf a wP w5 (N.o.z Q) (by omega) ak.2.2.2.2) (py (binds:=wP) ha b6.o);obtain⟨k0,k1,k2,k3,k4⟩:=cells5 b9;obtain⟨x0,x1,x2,x3,x4,x5,x6,x7,x8,x9⟩:=cL bl;clear af b8 g ha ak Q b9 bl;go_upto_region 9 with fail
   change Code.wp _ _ _ _ (wr.alloc (wq #[I O a.b,I Z a.h,I O a.f.b,I Z a.f.h,J a.f.f] 67));rw[←P];clear P c0 c1 c2 c3 c4 e0 e1 e2 T e4 e5 e6 e7 e8 e9;go_wp2_with fail
   refine HA.o.mono ?_;rintro e W4 ⟨C,rfl,v',ck,bn⟩;have cl:Hid (Chg (fun b=>b=S) w W4):=(bk.o.b (Chg.f cR.o)).b C;have al:=(C.u _ (EN.1 cb.o).1 (by have:=bB.o;omega)).trans cb.o;have cq:=Hd ck;clear C ck k0 k1 k2 k3 k4 x0 x1 x2 x3 x4 x5 x6 x7 x8 x9
   cases hq:bZ wP v a with
   | none =>
    have k:Hid (res=U):=by
     show _=_
     rw[X.o,lN c.N nv (j+1) (ch.o.trans hq)]
    clear hq bn;go_wp2_with fail
    go_ret;exact⟨cl.o,by rw[k.o];rfl,v',nf,cq.o,fun x m=>by rw[k.o]at m;cases m⟩
   | some u =>
    have hu:=bn u hq;have hle:=pB hq;have HR:Hid (qC F S d types rules vT vR nv nf wP c l w #[I O 1,I Z c.f,A (Y ⟨b,off,U⟩) l R,I O 0,I O c.a.f.b,I Z c.a.f.h,J c.a.f.f,I Z c.a.h,I O c.a.op,A p n cc] (I Z ((j+1:Nat):Int)) W4):=
     ⟨j+1,u,by omega,V,ch.o.trans hq,by omega,by omega,al,by rw[←hu];exact cq.o,cl.o⟩
    clear hq bn hu hle al;go_wp2_with fail
    refine⟨HR.o,?_⟩;simp[intOf];omega
  ·have aq:cU wP nv c.N=Y v:=by
    rw[←b6.o,Fg (by rw[a6.o];omega)]
   have cr:Hid (res=Y (v,nf+1)):=by show _=_;rw[X.o,aq]
   clear aq;have da:wr.cell? ⟨S,3,U⟩=Y (I Z nf):=by rw[FI _ _ _ _ _ _ N.o.h];rfl
   have fz:=aE N.o.h;have cT:=Hd (N.o.setF (nf+1));have cV:Hid (Chg (fun b=>b=S) w (wr.setCell ⟨S,3,U⟩ (I Z (nf+1)))):=Chg.y (F:=fun b=>b=S) bk.o (p:=⟨S,3,U⟩) (Or.inl V) _;go_wp2_with fail
   go_ret;exact⟨cV.o,by rw[cr.o];rfl,v,nf+1,cT.o,fun x m=>by rw[cr.o]at m;injection m with m;rw[←m];exact⟨V,V⟩⟩
theorem uf(F:Nat→Prop)(S d:Nat)(types:List ae)(rules:List an)(vT vR:wF)(nv nf:Int)(c:aW)(pa p:Option Addr)(l Q n cc:Nat)(w:wD)(hw:SuW F S d types rules vT vR nv nf w)(hk:c.b=2)(q:c.N.length=l)(hn:c.a.u.length=n)(bn:gn.K w F c.N (A pa l Q))(cT:0≤nv∧nv≤1000)(_hnf:0≤nf∧nf≤1000)(bq:∀t∈types,t.b≤6) :
  xL Tryz.prog 65 #[xV (Y ⟨S,0,U⟩),xS #[I O c.b,I Z c.f,A pa l Q,I O c.a.b,I O c.a.f.b,I Z c.a.f.h,J c.a.f.f,I Z c.a.h,I O c.a.op,A p n cc]] w (lP F S d types rules vT vR (cp d types (nv,nf) c) w):=by
 obtain⟨w1,D⟩:=zzx (w.alloc (wq #[I O 2,I Z c.f,A pa l Q,I O c.a.b,I O c.a.f.b,I Z c.a.f.h,J c.a.f.f,I Z c.a.h,I O c.a.op,A p n cc] 64));have E:FK w w1:=by rw[D];exact (EP _ w).alloc (EO _) _
 have aq:w1.heap[w.heap.size]?=Y (wq #[I O 2,I Z c.f,A pa l Q,I O c.a.b,I O c.a.f.b,I Z c.a.f.h,J c.a.f.f,I Z c.a.h,I O c.a.op,A p n cc] 64 (0,0)):=by rw[D];exact p9 w _
 obtain⟨ar,av,br,bt⟩:=zz4 E aq (hw.z E) hw.lt;have HF:=Hd (fun b (hb:F b)=>hw.f b hb);obtain⟨ct,a1,a6,bB⟩:=zz4 bn q (lG F S d types rules vT vR nv nf c.f (c.N.length:Int) w1 (hw.z E)) (fun W=>rU c.a p n cc W hn);have r:bH types c.f (c.N.length:Int)=wP→l≤6:=fun h=>by
  unfold bH at h;simp only[Ff,r7,tk]at h;obtain⟨⟨h1,h2⟩,h3⟩:=h;have G:c.f.toNat<types.length:=by omega
  rw[ES G]at h3;have h6:=bq _ (List.getElem_mem G);have h3:types[c.f.toNat].b=(c.N.length:Int):=h3;rw[q]at h3;omega
 have bR:=Hd r;have hm:cp d types (nv,nf) c=if bH types c.f (c.N.length:Int)&&(c.a.b==0&&bs xj xj xj c.a) then (match cU xj nv c.N with|none=>U|some v=>Y (v,nf)) else none:=by
  unfold cp bs zeroE;rw[hk];simp only[Bool.false_or,Bool.and_assoc];rfl
 obtain⟨res,s⟩:=zzx (cp d types (nv,nf) c);have HR:Hid (res=if bH types c.f (c.N.length:Int)&&(c.a.b==0&&bs xj xj xj c.a) then (match cU xj nv c.N with|none=>U|some v=>Y (v,nf)) else U):=s.trans hm
 rw[←s,hk];rw[q]at a6 bR;have b0:Hid (bH types c.f (c.N.length:Int)=bH types c.f (l:Int)):=by show _=_;rw[q]
 obtain⟨e0,e1,e2,R,e4,e5,e6,e7,e8,e9⟩:=cL aq;clear E aq hw bn q hn hm s hk bq r
 go_enter Tryz.func65,Tryz.ntmps65
 go_upto_region 1 with fail
 change Code.wp _ _ _ _ (w.alloc (wq #[I O 2,I Z c.f,A pa l Q,I O c.a.b,I O c.a.f.b,I Z c.a.f.h,J c.a.f.f,I Z c.a.h,I O c.a.op,A p n cc] 64));rw[←D];clear D;go_wp2_with fail
 refine a6.o.mono ?_;rintro e W2 ⟨rfl,H⟩;obtain⟨y,K⟩:=zz2 (ar.o.trans (H.mono ar.o.size)) (br.o.z H);have ba:=aa H av.o (EN.1 av.o).1;have L:=Hd ba;clear H e0 e1 e2 R e4 e5 e6 e7 e8 e9 a6 av br ar;obtain⟨e0,e1,e2,R,e4,e5,e6,e7,e8,e9⟩:=cL ba;clear ba
 cases hf:bH types c.f (l:Int) with
 | false =>
  have k:Hid (res=U):=by show _=_;rw[HR.o,b0.o,hf];rfl
  clear hf;go_wp2_with fail
  go_ret;exact⟨Chg.f y.o,by rw[k.o];rfl,nv,nf,K.o,fun x m=>by rw[k.o]at m;cases m⟩
 | true =>
 have h6:l≤6:=bR.o hf;have cu:=Hd hf;clear hf
 by_cases hz:c.a.b=0
 rotate_left
 ·have k:Hid (res=U):=by show _=_;rw[HR.o,show (c.a.b==0)=xj by simpa using hz];simp
  go_wp2_with fail
  go_ret;exact⟨Chg.f y.o,by rw[k.o];rfl,nv,nf,K.o,fun x m=>by rw[k.o]at m;cases m⟩
 have HZ:Hid ((c.a.b==0)=wP):=by show _=_;simpa using hz
 have z:=Hd (bB.o W2);rw[hz]at R L z;clear bB;go_wp2_with fail
 refine z.o.mono ?_;rintro e W3 ⟨rfl,M⟩;obtain⟨b1,b2⟩:=zz2 (y.o.trans (M.mono y.o.size)) (K.o.z M);have bb:=aa M L.o (EN.1 L.o).1;have cv:=Hd bb;clear M e0 e1 e2 R e4 e5 e6 e7 e8 e9 z L K y;obtain⟨e0,e1,e2,R,e4,e5,e6,e7,e8,e9⟩:=cL bb;clear bb
 cases hp:bs xj xj xj c.a with
 | false =>
  have k:Hid (res=U):=by show _=_;rw[HR.o,hp];simp
  clear hp;go_wp2_with fail
  go_ret;exact⟨Chg.f b1.o,by rw[k.o];rfl,nv,nf,b2.o,fun x m=>by rw[k.o]at m;cases m⟩
 | true =>
 have T:Hid (res=(match cU xj nv c.N with|none=>U|some v=>Y (v,nf))):=by
  show _=_
  rw[HR.o,b0.o,cu.o,HZ.o,hp];rfl
 clear hp hz HR;go_wp2_with fail
 go_loopw [35] (qC F S d types rules vT vR nv nf xj c l w #[I O 2,I Z c.f,A pa l Q,I O 0,I O c.a.f.b,I Z c.a.f.h,J c.a.f.f,I Z c.a.h,I O c.a.op,A p n cc]) (fun i _=>l-(intOf i).toNat)
 case atStart=>exact⟨0,nv,Fa _,V,V,by omega,by omega,cv.o,b2.o,Chg.f b1.o⟩
 case round =>
  obtain⟨j,v,hj,rfl,B,cV,cW,b3,b4,X⟩:=hrel;have c5:(0:Int)≤j:=by omega
  obtain⟨b5,bc,b6,bd⟩:=zz4 B b3 b4 X;clear B b3 b4 X e0 e1 e2 R e4 e5 e6 e7 e8 e9;obtain⟨e0,e1,e2,R,e4,e5,e6,e7,e8,e9⟩:=cL bc.o
  by_cases G:j<l
  ·have c6:(j:Int)<l:=by omega
   obtain⟨a,ha⟩:∃a,c.N[j]?=Y a:=⟨_,ES (by rw[a1.o];exact G)⟩;have ad:gn.K wr F c.N (A pa l Q):=Rd.f (fun b hb o ho=>(bd.o.u b (HF.o b hb).1 (HF.o b hb).2).trans ho) ct.o;have b7:=Rd.tS ad ha;rw[a1.o]at b7;obtain⟨b,off,cap,vs,cx,_,_,_,_,b8,g⟩:=b7;injection cx with cA _ cC
   subst cA;subst cC;obtain⟨rfl,af⟩:=kl.1 b8;have c0:wr.cell? ⟨b,off+j*5,U⟩=Y (I O a.b):=g 0 _ V;have c1:wr.cell? ⟨b,off+j*5+1,U⟩=Y (I Z a.h):=g 1 _ V;have c2:wr.cell? ⟨b,off+j*5+2,U⟩=Y (I O a.f.b):=g 2 _ V;have c3:wr.cell? ⟨b,off+j*5+3,U⟩=Y (I Z a.f.h):=g 3 _ V;have c4:wr.cell? ⟨b,off+j*5+4,U⟩=Y (J a.f.f):=g 4 _ V;obtain⟨w5,N⟩:=zzx (wr.alloc (wq #[I O a.b,I Z a.h,I O a.f.b,I Z a.f.h,J a.f.f] 67));have P:FK wr w5:=by rw[N];exact (EP _ wr).alloc (EO _) _
   have b9:w5.heap[wr.heap.size]?=Y (wq #[I O a.b,I Z a.h,I O a.f.b,I Z a.f.h,J a.f.f] 67 (0,0)):=by rw[N];exact p9 wr _
   have cR:=Hd P;have bk:=aa P bc.o (EN.1 bc.o).1;obtain⟨cb,HA,ch⟩:=zz3 bk (sh F S d types rules vT vR v nf a xj w5 (b6.o.z P) (by omega) af.2.2.2.2) (py (binds:=xj) ha b5.o);obtain⟨k0,k1,k2,k3,k4⟩:=cells5 b9;obtain⟨x0,x1,x2,x3,x4,x5,x6,x7,x8,x9⟩:=cL bk;clear ad b8 g ha af P b9 bk;go_upto_region 9 with fail
   change Code.wp _ _ _ _ (wr.alloc (wq #[I O a.b,I Z a.h,I O a.f.b,I Z a.f.h,J a.f.f] 67));rw[←N];clear N c0 c1 c2 c3 c4 e0 e1 e2 R e4 e5 e6 e7 e8 e9;go_wp2_with fail
   refine HA.o.mono ?_;rintro e W4 ⟨C,rfl,v',ck,bl⟩;have cl:Hid (Chg (fun b=>b=S) w W4):=(bd.o.b (Chg.f cR.o)).b C;have ak:=(C.u _ (EN.1 cb.o).1 (by have:=bt.o;omega)).trans cb.o;have cq:=Hd ck;clear C ck k0 k1 k2 k3 k4 x0 x1 x2 x3 x4 x5 x6 x7 x8 x9
   cases hq:bZ xj v a with
   | none =>
    have k:Hid (res=U):=by
     show _=_
     rw[T.o,lN c.N nv (j+1) (ch.o.trans hq)]
    clear hq bl;go_wp2_with fail
    go_ret;exact⟨cl.o,by rw[k.o];rfl,v',nf,cq.o,fun x m=>by rw[k.o]at m;cases m⟩
   | some u =>
    have hu:=bl u hq;have hle:=pB hq;have HR:Hid (qC F S d types rules vT vR nv nf xj c l w #[I O 2,I Z c.f,A (Y ⟨b,off,U⟩) l Q,I O 0,I O c.a.f.b,I Z c.a.f.h,J c.a.f.f,I Z c.a.h,I O c.a.op,A p n cc] (I Z ((j+1:Nat):Int)) W4):=
     ⟨j+1,u,by omega,V,ch.o.trans hq,by omega,by omega,ak,by rw[←hu];exact cq.o,cl.o⟩
    clear hq bl hu hle ak;go_wp2_with fail
    refine⟨HR.o,?_⟩;simp[intOf];omega
  ·have al:cU xj nv c.N=Y v:=by
    rw[←b5.o,Fg (by rw[a1.o];omega)]
   have cr:Hid (res=Y (v,nf)):=by show _=_;rw[T.o,al]
   clear al;go_wp2_with fail
   go_ret;exact⟨bd.o,by rw[cr.o];rfl,v,nf,b6.o,fun x m=>by rw[cr.o]at m;injection m with m;rw[←m];exact⟨V,V⟩⟩
theorem vZ(F:Nat→Prop)(S d:Nat)(types:List ae)(rules:List an)(vT vR:wF)(nv nf:Int)(c:aW)(C p:Option Addr)(i D n t:Nat)(w:wD)(hw:SuW F S d types rules vT vR nv nf w)(G:c.b=3)(u:c.N.length=i)(_hn:c.a.u.length=n)(m:ga c.a)(v:cZ w F d c.a.u (A p n t)) :
  xL Tryz.prog 65 #[xV (Y ⟨S,0,U⟩),xS #[I O c.b,I Z c.f,A C i D,I O c.a.b,I O c.a.f.b,I Z c.a.f.h,J c.a.f.f,I Z c.a.h,I O c.a.op,A p n t]] w (lP F S d types rules vT vR (cp d types (nv,nf) c) w):=by
 obtain⟨w1,k⟩:=zzx (w.alloc (wq #[I O 3,I Z c.f,A C i D,I O c.a.b,I O c.a.f.b,I Z c.a.f.h,J c.a.f.f,I Z c.a.h,I O c.a.op,A p n t] 64));have h:FK w w1:=by rw[k];exact (EP _ w).alloc (EO _) _
 have q:w1.heap[w.heap.size]?=Y (wq #[I O 3,I Z c.f,A C i D,I O c.a.b,I O c.a.f.b,I Z c.a.f.h,J c.a.f.f,I Z c.a.h,I O c.a.op,A p n t] 64 (0,0)):=by rw[k];exact p9 w _
 obtain⟨l,P,r,L⟩:=zz4 h q (hw.z h) (mp S nv d c.a (A p n t) w1 (hw.z h).b m (fo (fun b H=>ET (hw.f b H).1 h.size) (fc (fun b H o Q=>(h.block b (hw.f b H).1).trans Q) v)));have hm:cp d types (nv,nf) c=if decide (c.f=0)&&decide (i=0)&&dQ nv d c.a then Y (nv,nf) else none:=by
  unfold cp;rw[G,show c.N.isEmpty=decide (i=0) by rw[←u];cases c.N<;>rfl,show (c.f==0)=decide (c.f=0) from rfl]
  rfl
 obtain⟨res,j⟩:=zzx (cp d types (nv,nf) c);have E:Hid (res=if decide (c.f=0)&&decide (i=0)&&dQ nv d c.a then Y (nv,nf) else U):=j.trans hm;rw[←j,G];obtain⟨R,T,W,X,e4,e5,e6,e7,e8,e9⟩:=cL q;clear h q hw u _hn hm j G v m
 go_enter Tryz.func65,Tryz.ntmps65
 go_upto_region 1 with fail
 change Code.wp _ _ _ _ (w.alloc (wq #[I O 3,I Z c.f,A C i D,I O c.a.b,I O c.a.f.b,I Z c.a.f.h,J c.a.f.f,I Z c.a.h,I O c.a.op,A p n t] 64));rw[←k];clear k
 by_cases M:c.f=0
 ·by_cases N:i=0
  ·subst N;have H0:Hid (c.f=0):=M;go_wp2_with fail
   refine L.o.mono ?_;rintro e W2 ⟨rfl,s⟩;obtain⟨y,z⟩:=zz2 (l.o.trans (s.mono l.o.size)) (r.o.z s);clear s L R T W X e4 e5 e6 e7 e8 e9
   cases a:dQ nv d c.a with
   | true =>
    have B:Hid (res=Y (nv,nf)):=by show _=_;rw[E.o,decide_eq_true H0.o,a];rfl
    clear a;go_wp2_with fail
    go_ret;exact⟨Chg.f y.o,by rw[B.o];rfl,nv,nf,z.o,fun x a=>by rw[B.o]at a;injection a with a;rw[←a];exact⟨V,V⟩⟩
   | false =>
    have g:Hid (res=U):=by show _=_;rw[E.o,a];simp
    clear a;go_wp2_with fail
    go_ret;exact⟨Chg.f y.o,by rw[g.o];rfl,nv,nf,z.o,fun x a=>by rw[g.o]at a;cases a⟩
  ·have g:Hid (res=U):=by show _=_;rw[E.o,r6 N];simp
   have K:¬((i:Int)=0):=by omega
   have ad:((i:Int)==0)=false:=by simpa using K
   go_wp2_with fail
   go_ret;exact⟨Chg.f l.o,by rw[g.o];rfl,nv,nf,r.o,fun x a=>by rw[g.o]at a;cases a⟩
 ·have g:Hid (res=U):=by show _=_;rw[E.o,r6 M];simp
  go_wp2_with fail
  go_ret;exact⟨Chg.f l.o,by rw[g.o];rfl,nv,nf,r.o,fun x a=>by rw[g.o]at a;cases a⟩
theorem tN(F:Nat→Prop)(S d:Nat)(types:List ae)(rules:List an)(vT vR:wF)(nv nf:Int)(c:aW)(g p:Option Addr)(h i n j:Nat)(w:wD)(hw:SuW F S d types rules vT vR nv nf w)(b:c.b≠1∧c.b≠2∧c.b≠3) :
  xL Tryz.prog 65 #[xV (Y ⟨S,0,U⟩),xS #[I O c.b,I Z c.f,A g h i,I O c.a.b,I O c.a.f.b,I Z c.a.f.h,J c.a.f.f,I Z c.a.h,I O c.a.op,A p n j]] w (lP F S d types rules vT vR (cp d types (nv,nf) c) w):=by
 have hm:cp d types (nv,nf) c=none:=by
  unfold cp;rw[show (c.b==1)=xj by simpa using b.1,show (c.b==2)=xj by simpa using b.2.1,show (c.b==3)=xj by simpa using b.2.2];rfl
 rw[hm];have a:FK w (w.alloc (wq #[I O c.b,I Z c.f,A g h i,I O c.a.b,I O c.a.f.b,I Z c.a.f.h,J c.a.f.f,I Z c.a.h,I O c.a.op,A p n j] 64)):=(EP _ w).alloc (EO _) _;obtain⟨e,f⟩:=zz2 a (hw.z a);obtain⟨l,m,q⟩:=b;clear a hw hm
 go_enter Tryz.func65,Tryz.ntmps65
 go_wp2_with fail
 go_ret;exact⟨Chg.f e.o,V,nv,nf,f.o,fun x k=>by cases k⟩
theorem xN(F:Nat→Prop)(S d:Nat)(types:List ae)(rules:List an)(vT vR:wF)(nv nf:Int)(c:aW)(m s:wF)(w:wD)(hw:SuW F S d types rules vT vR nv nf w)(l:(bf d).at_ w F c (ye c m s))(b:0≤nv∧nv≤1000)(e:0≤nf∧nf≤1000)(f:∀t∈types,t.b≤6) :
  xL Tryz.prog 65 #[xV (Y ⟨S,0,U⟩),xS #[I O c.b,I Z c.f,m,I O c.a.b,I O c.a.f.b,I Z c.a.f.h,J c.a.f.f,I Z c.a.h,I O c.a.op,s]] w (lP F S d types rules vT vR (cp d types (nv,nf) c) w):=by
 obtain⟨_,_,g,r,u,he,a,h⟩:=fw.1 l;unfold ye bp at he;simp only[List.cons_append,List.nil_append,List.cons.injEq,true_and,and_true]at he;obtain⟨rfl,rfl⟩:=he;obtain⟨i,j,rfl⟩:=Rd.b a;obtain⟨p,k,rfl⟩:=bg h
 by_cases n:c.b=1
 ·exact uA F S d types rules vT vR nv nf c i p _ j _ k w hw n V V a b e f
 by_cases o:c.b=2
 ·exact uf F S d types rules vT vR nv nf c i p _ j _ k w hw o V V a b e f
 by_cases q:c.b=3
 ·exact vZ F S d types rules vT vR nv nf c i p _ j _ k w hw q V V g h
 ·exact tN F S d types rules vT vR nv nf c i p _ j _ k w hw ⟨n,o,q⟩
