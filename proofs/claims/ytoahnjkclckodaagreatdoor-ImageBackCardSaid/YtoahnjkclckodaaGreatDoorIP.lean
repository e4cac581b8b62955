/- Parts of one proof, joined; conditions stand in each theorem. -/
import Derived.Test.YtoahnjkclckodaaGreatDoorIO
open Option renaming some→A,none→Y
open Go renaming World→J,Value→tS,wpQuiet_nil→xL
open Go.Value renaming int→I,pointer→vo,slice→O,string→r9
open Go.IntKind renaming i64→U,u8→r8
open Go.Obj renaming cells→r7
open Decidable renaming decide→wj
namespace Go.Proofs.YtoahnjkclckodaaGreatDoor
set_option maxHeartbeats 8000000
set_option maxRecDepth 100000
open Go.RowKit
theorem zf{l:List bj}{k:Nat}{c:bj}(h:l[k]?=A c):aK (l.take (k+1))=aK (l.take k)+(if c.q==1 then 1 else 0):=by
 rw[Kj,h]
 show aK (l.take k++[c])=_
 unfold aK;rw[List.filter_append,J2]
 congr 1
 by_cases a:(c.q==1)=true
 ·simp[a]
 ·simp[a]
theorem vE(l:List bj)(k:Nat):aK (l.take k)≤k:=by
 unfold aK;have a:=List.length_filter_le (fun c:bj=>c.q==1) (l.take k);rw[List.length_take]at a;omega
def Ju(w:J) (n:Nat) (l:List bj) (i v:tS) (W:J):Prop:=
 ∃(a:J) (k:Nat),a=W∧k≤n∧i=I U (k:Int)∧v=I U (aK (l.take k):Int)∧Kr w a
def idB(m:au) (i:Int):Bool:=m.a.any fun f=>f.id==i
theorem uN{R:dc}{l:List ai}{t:io}(h:t.a<0∨(R.a.length:Int)≤t.a):fR R l t=false:=by
 unfold fR;rcases h with h|h
 ·rw[oE (by omega)];rfl
 ·rw[oE (show ¬t.a<R.a.length by omega),Bool.and_false];rfl
theorem FH{R:dc}{m:au}{t:io}{j:Nat}{x:aD}(b:t.a=j)(a:R.a[j]?=A x):fR R m.a t=(t.b.all (idB m)&&(t.b.length==aK x.a)):=by
 unfold fR;rw[b,Int.toNat_natCast,a,decide_eq_true (by omega),decide_eq_true (by have:=(J3.1 a).1;omega)];rfl
theorem DW{w:J}{K:Nat}{m:au}{R:dc}{t:io}{y0 y1:tS}(h:jI w K m R)(ht:dx.at_ w (fun b=>b<w.heap.size) t [y0,y1]):Calls Tryz.prog 51 #[vo (A ⟨K,0,Y⟩),Value.agg #[y0,y1]] w (aZ (fR R m.a t) w):=by
 have HL:=Hd h;obtain⟨_,_,sf,st,ss,sy,sr,M,hx,_,_,_,_,ad,hM⟩:=h;obtain⟨e9,sl,bB,af⟩:=gz.1 ht;injection bB with q0 bB
 injection bB with q1 _
 subst q0 q1;obtain⟨pi,ci,ct⟩:=Rd.q af;have bR:=Rd.sb af;obtain⟨ni,b0⟩:=zzy (t.b.length);rw[b0]at ct bR;subst ct;have gg:(ni:Int)≤9223372036854775807:=by unfold maxLen at bR;omega
 obtain⟨pr,cr,cu⟩:=Rd.q ad;have b1:=Rd.sb ad;obtain⟨nr,b3⟩:=zzy (R.a.length);rw[b3]at cu b1;subst cu;have gr:(nr:Int)≤9223372036854775807:=by unfold maxLen at b1;omega
 obtain⟨ru,b4⟩:=zzy (t.a);rw[b4]at e9 ⊢;obtain⟨P,aq⟩:=zzx (w.alloc (r7 #[I U ru,O pi ni ci] 50));have B:Kr w P:=by rw[aq];exact (JO _ w).alloc (JM _) _
 have ar:P.heap[w.heap.size]?=A (r7 #[I U ru,O pi ni ci] 50 (0,0)):=by rw[aq];exact oc w _
 have fr:=Hd (fun W (D:Kr w W)=>al ad D);have fs:=Hd (fun W (D:Kr w W)=>al af D);have HX:=Hd (fun W (D:Kr P W)=>aa (B.trans (D.mono B.size)) hx (JL.1 hx).1);have HT:=Hd (fun W (D:Kr P W)=>aa D ar (JL.1 ar).1);have HB:=Hd (fun W (D:Kr P W)=>B.trans (D.mono B.size));have HM:=Hd (fun W (D:Kr P W)=>hM.C (B.trans (D.mono B.size)));obtain⟨cv,a1,b7,b8⟩:=zz4 aq b0 b3 b4;obtain⟨r,hr⟩:=zzy (fR R m.a t);rw[hr];have HR:=Hd hr;obtain⟨tx,cy⟩:=zzy (m.c);obtain⟨nx,cA⟩:=zzy (m.g);obtain⟨mn,cC⟩:=zzy (m.h);rw[cy,cA,cC]at HX;obtain⟨_,_,_,_,_,_,_,k7,_⟩:=il (HX.o P (JO _ _));obtain⟨t0,t1,_⟩:=cj ar;have T0:=fun x:Wb P=>x.h t0
 have K7:=fun x:Wb P=>x.h k7
 clear hx ad hM af ht B ar aq b0 b3 b4 bR b1 hr cy cA cC k7 t0 t1
 go_enter Tryz.func51,Tryz.ntmps51
 go_upto_region 1 with fail
 change Code.wp _ _ _ _ (w.alloc (r7 #[I U ru,O pi ni ci] 50));rw[←cv.o];clear cv
 by_cases hA:ru<0
 ·have HO:=Hd (HR.o.symm.trans (uN (Or.inl (by rw[b8.o];exact hA))));refine ao (by kernel_rfl) (by kernel_rfl) ?_
  repeat (go_big_quiet_step (fail))
  refine xL ?_;intro W7 l;have F:=Hd (HB.o _ (bA l));clear l T0 K7;go_wp2_with fail
  go_ret;exact⟨by rw[HO.o];rfl,F.o⟩
 by_cases hB:(nr:Int)≤ru
 ·have HO:=Hd (HR.o.symm.trans (uN (Or.inr (by rw[b8.o,b7.o];exact hB))));refine ao (by kernel_rfl) (by kernel_rfl) ?_
  repeat (go_big_quiet_step (fail))
  refine xL ?_;intro W7 l;have F:=Hd (HB.o _ (bA l));clear l T0 K7;go_wp2_with fail
  go_ret;exact⟨by rw[HO.o];rfl,F.o⟩
 obtain⟨j,rfl⟩:∃j:Nat,ru=j:=⟨ru.toNat,by omega⟩;have hj:j<nr:=by omega
 have gO:(j:Int)<nr:=by omega
 obtain⟨x,b9⟩:∃x,R.a[j]?=A x:=⟨_,JR (by rw[b7.o];exact hj)⟩;obtain⟨ft,fv⟩:=zz2 (HR.o.symm.trans (FH b8.o b9)) b9;clear b9;refine ao (by kernel_rfl) (by kernel_rfl) ?_
 repeat (go_big_quiet_step (fail))
 refine xL ?_;intro W2 l;have Q:=bA l;have cR:=Hd Q;obtain⟨_,_,_,_,_,_,_,k7,_⟩:=il (HX.o W2 Q);obtain⟨t0,t1,_⟩:=cj (HT.o W2 Q);clear T0 K7;have u:=Rd.X (fr.o W2 (HB.o W2 Q)) fv.o;rw[b7.o]at u;obtain⟨b2,cT,gD,vs,S,_,_,_,_,E,a⟩:=u;injection S with e1 _ e3
 subst e1;subst e3;obtain⟨_,_,_,sc,sa,rfl,ba,bb⟩:=uy.1 E;obtain⟨pc,cc,cV⟩:=Rd.q ba;have cb:=Rd.sb ba;obtain⟨nc,cf⟩:=zzy (x.a.length);rw[cf]at cV cb;subst cV;have gE:(nc:Int)≤9223372036854775807:=by unfold maxLen at cb;omega
 have r3:W2.cell? ⟨b2,cT+j*5+3,Y⟩=A (O pc nc cc):=a 3 _ Z;have T0:=fun x:Wb W2=>x.h t0
 have K7:=fun x:Wb W2=>x.h k7
 have R3:=fun x:Wb W2=>x.h r3
 have fz:=Hd (fun W (D:Kr W2 W)=>al ba D);have ch:=Hd cf;clear l Q E a ba bb cb cf k7 t0 t1 r3;go_upto_region 4 with fail
 refine ao (by kernel_rfl) (by kernel_rfl) ?_
 repeat (go_big_quiet_step (fail))
 refine xL ?_;intro W3 l;have cW:=bA l;have bd:=Hd cW;clear l T0 K7 R3 cW;go_wp2_with fail
 go_loopw [37,5] (Ju W3 nc x.a) (fun i _ _=>nc-(intOf i).toNat)
 case atStart=>exact⟨_,0,Z,J0 _,Z,Z,JO _ _⟩
 case round =>
  obtain⟨s,k,rfl,hk,rfl,rfl,T⟩:=hrel
  by_cases bg:k<nc
  ·obtain⟨c,cl⟩:∃z,x.a[k]?=A z:=⟨_,JR (by rw[ch.o];exact bg)⟩;have G:=bd.o.trans (T.mono bd.o.size);have u:=Rd.X (fz.o s G) cl;rw[ch.o]at u;obtain⟨X,d,gF,vs,S,_,_,_,_,E,a⟩:=u;injection S with e1 _ e3
   subst e1;subst e3;obtain⟨_,_,_,gS,s',rfl,bb,dd⟩:=qU.1 E;obtain⟨pa,ca,rfl⟩:=Rd.q bb;obtain⟨pk,ck,rfl⟩:=ge dd;have bk:=zf cl;have hle:=vE x.a k;obtain⟨na,dg⟩:=zzy (c.c.length);obtain⟨nk,dn⟩:=zzy (c.a.z.length);obtain⟨H,V⟩:=zzy (c.q);rw[V]at bk;obtain⟨fm,L⟩:=zzy (aK (x.a.take k));rw[L]at bk hle ⊢;obtain⟨C,hC⟩:∃C:Array tS,C=#[I r8 H,I U c.u,O pa na ca,I r8 c.a.q,I r8 c.a.h.q,I U c.a.h.u,r9 c.a.h.h,I U c.a.u,I r8 c.a.op,O pk nk ck]:=⟨_,rfl⟩;have c0:s.cell? ⟨X,d+k*10,Y⟩=A (I r8 H):=by rw[←V];exact a 0 _ Z
   have c1:s.cell? ⟨X,d+k*10+1,Y⟩=A (I U c.u):=a 1 _ Z;have c2:s.cell? ⟨X,d+k*10+2,Y⟩=A (O pa na ca):=by rw[←dg];exact a 2 _ Z
   have c3:s.cell? ⟨X,d+k*10+3,Y⟩=A (I r8 c.a.q):=a 3 _ Z;have c4:s.cell? ⟨X,d+k*10+4,Y⟩=A (I r8 c.a.h.q):=a 4 _ Z;have c5:s.cell? ⟨X,d+k*10+5,Y⟩=A (I U c.a.h.u):=a 5 _ Z;have c6:s.cell? ⟨X,d+k*10+6,Y⟩=A (r9 c.a.h.h):=a 6 _ Z;have c7:s.cell? ⟨X,d+k*10+7,Y⟩=A (I U c.a.u):=a 7 _ Z;have c8:s.cell? ⟨X,d+k*10+8,Y⟩=A (I r8 c.a.op):=a 8 _ Z;have c9:s.cell? ⟨X,d+k*10+9,Y⟩=A (O pk nk ck):=by rw[←dn];exact a 9 _ Z
   obtain⟨N,bl⟩:=zzx (s.alloc (r7 C 168));have ds:Kr s N:=by rw[bl];exact (JO _ s).alloc (JM _) _
   have dt:N.heap[s.heap.size]?=A (r7 C 168 (0,0)):=by rw[bl];exact oc s _
   have z0:N.cell? ⟨s.heap.size,0,Y⟩=A (I r8 H):=by rw[Kq _ _ _ _ _ _ dt,hC];rfl
   obtain⟨cm,dv,HC,ef⟩:=zz4 (T.trans (ds.mono T.size)) bl hC bk;have gH:(k:Int)<nc:=by omega
   have gL:fm≤k:=hle;clear E a cl T ds bl hC dt bk hle bb dd dg dn V L G;go_upto_region 7 with fail
   change Code.wp _ _ _ _ (s.alloc (r7 #[I r8 H,I U c.u,O pa na ca,I r8 c.a.q,I r8 c.a.h.q,I U c.a.h.u,r9 c.a.h.h,I U c.a.u,I r8 c.a.op,O pk nk ck] 168));rw[←HC.o,←dv.o];clear dv c0 c1 c2 c3 c4 c5 c6 c7 c8 c9
   by_cases h1:H=1
   ·subst h1;go_wp2_with fail
    exact⟨⟨_,k+1,Z,by omega,by go_num,(by have fI:aK (x.a.take (k+1))=fm+1:=ef.o;rw[fI];go_num),cm.o⟩,by simp[intOf];omega⟩
   ·have fT:(H==1)=false:=by simpa using h1
    go_wp2_with fail
    exact⟨⟨_,k+1,Z,by omega,by go_num,by rw[ef.o,fT];rfl,cm.o⟩,by simp[intOf];omega⟩
  ·obtain rfl:k=nc:=by omega
   have G:=cR.o.trans ((bd.o.trans (T.mono bd.o.size)).mono cR.o.size);have L:aK (x.a.take k)=aK x.a:=by rw[←ch.o,List.take_length]
   rw[L];have hle:aK x.a≤k:=by rw[←L];exact vE _ _
   have cn:=Hd ft.o;obtain⟨fm,bq⟩:=zzy (aK x.a);rw[bq]at cn hle ⊢;obtain⟨t0,t1,_⟩:=cj (HT.o s G);have bm:=Hd G;clear T G L bq;go_wp2_with fail
   go_loopw [50] (eC s ni (idB m) t.b) (fun i _=>ni-(intOf i).toNat)
   case atStart=>exact eC.start
   case round =>
    obtain⟨N,q,rfl,hq,rfl,T,eg⟩:=hrel;have v:=bm.o.trans (T.mono bm.o.size);obtain⟨en,cm⟩:=zz2 eg v;clear eg t0 t1
    by_cases bg:q<ni
    ·obtain⟨y,bn⟩:∃x,t.b[q]?=A x:=⟨_,JR (by rw[a1.o];exact bg)⟩;have u:=Rd.X (fs.o N (HB.o N v)) bn;rw[a1.o]at u;obtain⟨b6,eo,gM,vs,S,_,_,_,_,E,a⟩:=u;injection S with e1 _ e3
     subst e1;subst e3;obtain⟨rfl,_⟩:=E;have d0:N.cell? ⟨b6,eo+q,Y⟩=A (I U y):=by
      have:=a 0 _ Z
      simpa [Rd.int,Rd.u]using this
     obtain⟨_,_,_,_,_,_,_,_,k8⟩:=il (HX.o N v);have HG:=Hd (C5 (HM.o N v) y);obtain⟨g,hg⟩:=zzy ((m.a.any fun f=>f.id==y));rw[hg]at HG;have er:idB m y=g:=hg;have et:=Hd er;have gN:(q:Int)<ni:=by omega
     have e0:=Hd T;have gf:=Hd (fun W (D:Kr s W) h=>eC.on (p:=idB m) (W:=W) D bg en.o bn h);have e2:=Hd (fun h=>cn.o.trans (show (t.b.all (idB m)&&(t.b.length==fm))=false by rw[lD (p:=idB m) bn h];rfl));clear a bn T v hg er;go_wp2_with fail
     refine HG.o.mono ?_;rintro e W6 ⟨⟨a6,e4,p6,n6,c6,rfl⟩,e5⟩;have e6:=Hd (e0.o.trans (e5.mono e0.o.size));obtain⟨W7,cp⟩:=zzx (W6.alloc (r7 #[I U a6,I U e4,O p6 n6 c6] 47));have e7:Kr W6 W7:=by rw[cp];exact (JO _ W6).alloc (JM _) _
     obtain⟨F,e8⟩:=zz2 (e6.o.trans (e7.mono e6.o.size)) cp;clear e5 HG d0 k8 e7 cp;go_upto_region 14 with fail
     change Code.wp _ _ _ _ (W6.alloc (r7 #[I U a6,I U e4,O p6 n6 c6] 47));rw[←e8.o];clear e8
     cases g with
     | true =>
      have HO:=Hd (gf.o W7 F.o et.o);go_wp2_with fail
      exact HO.o
     | false =>
      obtain⟨HO,cq⟩:=zz2 (e2.o et.o) (HB.o W7 (bm.o.trans (F.o.mono bm.o.size)));go_wp2_with fail
      go_ret;exact⟨by rw[HO.o];rfl,cq.o⟩
    ·obtain rfl:q=ni:=by omega
     obtain⟨t0,t1,_⟩:=cj (HT.o N v)
     have bt:=cn.o.trans (show (t.b.all (idB m)&&(t.b.length==fm))=(((q:Int)==(fm:Int)):Bool) by
      rw[j8 a1.o en.o,Bool.true_and,a1.o]
      by_cases h:q=fm
      ·rw[h,q6,q6]
      ·have h2:¬(q:Int)=fm:=by omega
       rw[o9.2 h,o9.2 h2])
     obtain⟨HO,cq⟩:=zz2 bt (HB.o N v);clear T v bt;go_wp2_with fail
     go_ret;exact⟨by rw[HO.o];rfl,cq.o⟩
theorem DJ{w:J}{K:Nat}{m:au}{R:dc}(h:jI w K m R):Calls Tryz.prog 26 #[vo (A ⟨K,0,Y⟩)] w (aZ (lL R m) w):=by
 have HL:=Hd (fun W (u:Kr w W)=>h.C u);obtain⟨_,_,sf,st,ss,sy,sr,M,hx,_,g,_,_,_,_⟩:=h;obtain⟨p,c,F⟩:=Rd.q g;have v:=Rd.sb g;obtain⟨n,hn⟩:=zzy (m.d.length);rw[hn]at F v;subst F;have bl:(n:Int)≤9223372036854775807:=by unfold maxLen at v;omega
 have HV:=Hd (fun W (u:Kr w W)=>al g u);have HX:=Hd (fun W (u:Kr w W)=>aa u hx (JL.1 hx).1);have HN:=Hd hn;obtain⟨r,hr⟩:=zzy (lL R m);rw[hr];have G:(m.d.all (fR R m.a)&&wj (m.d.length≤4096))=r:=hr;have HR:=Hd G;obtain⟨_,_,_,k3,_⟩:=il (HX.o w (JO _ _));clear hx g v hn hr G
 go_enter Tryz.func26,Tryz.ntmps26
 go_wp2_with fail
 go_loopw [12] (eC w n (fR R m.a) m.d) (fun i _=>n-(intOf i).toNat)
 case atStart=>exact eC.start
 case round =>
  obtain⟨d,k,rfl,hk,rfl,y,H⟩:=hrel;have L:=Hd H;clear H k3
  by_cases N:k<n
  ·obtain⟨f,j⟩:∃x,m.d[k]?=A x:=⟨_,JR (by rw[HN.o];exact N)⟩;have P:=Rd.X (HV.o d y) j;rw[HN.o]at P;obtain⟨b1,off,cap,vs,bb,_,_,_,_,z,a⟩:=P;injection bb with e1 _ e3
   subst e1;subst e3;obtain⟨bd,sl,rfl,Q⟩:=gz.1 z;obtain⟨S,T,V⟩:=Rd.q Q;subst V;have d0:d.cell? ⟨b1,off+k*2,Y⟩=A (I U f.a):=a 0 _ Z;have d1:d.cell? ⟨b1,off+k*2+1,Y⟩=A (O S f.b.length T):=a 1 _ Z;obtain⟨W2,l⟩:=zzx (d.alloc (r7 #[I U f.a,O S f.b.length T] 50));have q:Kr d W2:=by rw[l];exact (JO _ d).alloc (JM _) _
   have X:W2.heap[d.heap.size]?=A (r7 #[I U f.a,O S f.b.length T] 50 (0,0)):=by rw[l];exact oc d _
   have B:=y.trans (q.mono y.size);have s:dx.at_ W2 (fun b=>b<W2.heap.size) f [I U f.a,O S f.b.length T]:=dx.N (fun b (h:b<d.heap.size)=>JS h q.size) (dx.K (fun b (h:b<d.heap.size) o ho=>(q.block b h).trans ho) z);have C:=Hd (DW (HL.o W2 B) s);obtain⟨mb,D⟩:=zzy (fR R m.a f);rw[D]at C;obtain⟨x0,x1,_⟩:=cj X;obtain⟨ad,af,aq⟩:=zz3 B l D;have bk:(k:Int)<n:=by omega
   have bg:=Hd (fun W (u:Kr w W) h=>eC.on (p:=fR R m.a) (W:=W) u N L.o j h);have ar:=Hd (fun h=>HR.o.symm.trans (show (m.d.all (fR R m.a)&&wj (m.d.length≤4096))=false by rw[lD (p:=fR R m.a) j h];rfl));clear z a j y q X l bd Q s D B;go_upto_region 4 with fail
   change Code.wp _ _ _ _ (d.alloc (r7 #[I U f.a,O S f.b.length T] 50));rw[←af.o];clear d0 d1 af;go_wp2_with fail
   refine C.o.mono ?_;rintro e W3 ⟨rfl,a1⟩;have a6:=Hd (ad.o.trans (a1.mono ad.o.size));clear a1 C x0 x1
   cases mb with
   | true =>
    have E:=Hd (bg.o W3 a6.o aq.o);go_wp2_with fail
    exact E.o
   | false =>
    have E:=Hd (ar.o aq.o);go_wp2_with fail
    go_ret;exact⟨by rw[E.o];rfl,a6.o⟩
  ·obtain rfl:k=n:=by omega
   obtain⟨_,_,_,k3,_⟩:=il (HX.o d y);have ba:=Hd y
   have t:=HR.o.symm.trans (show (m.d.all (fR R m.a)&&wj (m.d.length≤4096))=wj ((k:Int)≤4096) by
    rw[j8 HN.o L.o,Bool.true_and,HN.o]
    by_cases h:k≤4096
    ·rw[decide_eq_true h,decide_eq_true (show (k:Int)≤4096 by omega)]
    ·rw[oE h,oE (show ¬(k:Int)≤4096 by omega)])
   have E:=Hd t;clear y t
   by_cases h4:(k:Int)≤4096
   ·go_wp2_with fail
    go_ret;exact⟨by rw[E.o,decide_eq_true h4];rfl,ba.o⟩
   ·go_wp2_with fail
    go_ret;exact⟨by rw[E.o,oE (show ¬(k:Int)≤4096 by omega)];rfl,ba.o⟩
def JK(w:J) (n:Nat) (next:Int) (l:List dM) (i b:tS) (W:J):Prop:=
 ∃(a:J) (k:Nat) (last:Int),a=W∧k≤n∧i=I U (k:Int)∧b=I U last∧Kr w a∧fX next last (l.drop k)=fX next 0 l
theorem vY{next last:Int}{l:List dM}{k:Nat}{s:dM}(a:l[k]?=A s):fX next last (l.drop k)=(!(wj (s.id≤last)||decide (next≤s.id)||decide (s.b<0)||!jV s.a)&&fX next s.id (l.drop (k+1))):=by
 have b:l.drop k=s::l.drop (k+1):=by
  rw[List.drop_eq_getElem_cons (J3.1 a).1];rw[(J3.1 a).2]
 rw[b];rfl
theorem BA{next last:Int}{l:List dM}{k:Nat}{s:dM}(a:l[k]?=A s)(h:(wj (s.id≤last)||decide (next≤s.id)||decide (s.b<0)||!jV s.a)=true):fX next last (l.drop k)=false:=by rw[vY a,h];rfl
theorem zG{next last:Int}{l:List dM}{k:Nat}{s:dM}(a:l[k]?=A s)(h:(wj (s.id≤last)||decide (next≤s.id)||decide (s.b<0)||!jV s.a)=false):fX next last (l.drop k)=fX next s.id (l.drop (k+1)):=by rw[vY a,h];rfl
theorem yL{w:J}{K:Nat}{m:au}{R:dc}(h:jI w K m R)(ad:∀s∈m.e,szR s.a≤140737488355328):Calls Tryz.prog 27 #[vo (A ⟨K,0,Y⟩)] w (aZ (jv m) w):=by
 obtain⟨_,bn,sf,st,ss,sy,sr,M,hx,_,_,B,_,_,_⟩:=h;obtain⟨p,c,af⟩:=Rd.q B;have L:=Rd.sb B;obtain⟨n,hn⟩:=zzy (m.e.length);rw[hn]at af L;subst af;have b3:(n:Int)≤9223372036854775807:=by unfold maxLen at L;omega
 have HV:=Hd (fun W (hW:Kr w W)=>al B hW);have HX:=Hd (fun W (hW:Kr w W)=>aa hW hx (JL.1 hx).1);obtain⟨HN,bq⟩:=zz2 hn ad;obtain⟨r,hr⟩:=zzy (jv m);rw[hr];have C:(fX m.h 0 m.e&&wj (1≤m.h)&&wj (m.h≤1099511627777)&&wj (m.e.length≤32))=r:=hr;rw[hn]at C;obtain⟨t,aq⟩:=zzy (m.h);rw[aq]at HX C;have HR:=Hd C;obtain⟨_,_,_,_,k4,k5,_⟩:=il (HX.o w (JO _ _));clear hx B L hn hr C ad bn aq
 go_enter Tryz.func27,Tryz.ntmps27
 go_wp2_with fail
 go_loopw [12,3] (JK w n t m.e) (fun i _ _=>n-(intOf i).toNat)
 case atStart=>exact⟨_,0,0,Z,J0 _,Z,Z,JO _ _,Z⟩
 case round =>
  obtain⟨g,k,last,rfl,hk,rfl,rfl,N,l⟩:=hrel;have P:=Hd l;clear l k4 k5
  by_cases bt:k<n
  ·obtain⟨s,u⟩:∃x,m.e[k]?=A x:=⟨_,JR (by rw[HN.o];exact bt)⟩;have ar:=Rd.X (HV.o g N) u;rw[HN.o]at ar;obtain⟨b1,off,cap,vs,bB,_,_,_,_,a1,a⟩:=ar;injection bB with e1 _ e3
   subst e1;subst e3;obtain⟨_,_,rs,rfl,Q⟩:=gx.1 a1;obtain⟨_,_,qf,qs,rfl,a6,ba⟩:=cY.1 Q;obtain⟨p6,c6,F⟩:=Rd.q a6;obtain⟨p7,c7,G⟩:=Rd.q ba;obtain⟨n6,bb⟩:=zzy (s.a.a.length);obtain⟨n7,bd⟩:=zzy (s.a.b.length);rw[bb]at F;rw[bd]at G;subst F G;have d0:g.cell? ⟨b1,off+k*6,Y⟩=A (I U s.id):=a 0 _ Z;have d1:g.cell? ⟨b1,off+k*6+1,Y⟩=A (I U s.b):=a 1 _ Z;have d2:g.cell? ⟨b1,off+k*6+2,Y⟩=A (I U s.a.h):=a 2 _ Z;have d3:g.cell? ⟨b1,off+k*6+3,Y⟩=A (I U s.a.u):=a 3 _ Z;have d4:g.cell? ⟨b1,off+k*6+4,Y⟩=A (O p6 n6 c6):=a 4 _ Z;have d5:g.cell? ⟨b1,off+k*6+5,Y⟩=A (O p7 n7 c7):=a 5 _ Z;obtain⟨W2,D⟩:=zzx (g.alloc (r7 #[I U s.id,I U s.b,I U s.a.h,I U s.a.u,O p6 n6 c6,O p7 n7 c7] 54));have v:Kr g W2:=by rw[D];exact (JO _ g).alloc (JM _) _
   have S:W2.heap[g.heap.size]?=A (r7 #[I U s.id,I U s.b,I U s.a.h,I U s.a.u,O p6 n6 c6,O p7 n7 c7] 54 (0,0)):=by rw[D];exact oc g _
   have T:=N.trans (v.mono N.size);have y:=Hd (fun x:Wb W2=>A7 (w:=x.1) (bJ.N (fun b (h:b<g.heap.size)=>(by have:=v.size;have:=x.2.size;omega:b<x.1.heap.size)) (bJ.K (fun b (h:b<g.heap.size) o ho=>(x.2.block b (by have:=v.size;omega)).trans ((v.block b h).trans ho)) Q)) (bq.o s (J8 u)));obtain⟨wb,V⟩:=zzy (jV s.a);rw[V]at y;obtain⟨⟨x0,x1,x2,x3,x4,x5⟩,_⟩:=aC S;obtain⟨_,_,_,_,k4,k5,_⟩:=il (HX.o W2 T);have X0:=fun x:Wb W2=>x.h x0
   have X1:=fun x:Wb W2=>x.h x1
   have X2:=fun x:Wb W2=>x.h x2
   have X3:=fun x:Wb W2=>x.h x3
   have X4:=fun x:Wb W2=>x.h x4
   have X5:=fun x:Wb W2=>x.h x5
   have K5:=fun x:Wb W2=>x.h k5
   obtain⟨e,bg,bk,bl,bR⟩:=zz5 T S D V u;have b2:(k:Int)<n:=by omega
   have j:=Hd (fun h=>HR.o.symm.trans (show (fX t 0 m.e&&wj (1≤t)&&wj (t≤1099511627777)&&wj (n≤32))=false by rw[←P.o,BA u h];rfl));clear a1 a u N v S D Q a6 ba bb bd V T x0 x1 x2 x3 x4 x5 k4 k5;go_upto_region 5 with fail
   change Code.wp _ _ _ _ (g.alloc (r7 #[I U s.id,I U s.b,I U s.a.h,I U s.a.u,O p6 n6 c6,O p7 n7 c7] 54));rw[←bk.o];clear d0 d1 d2 d3 d4 d5 bk
   by_cases hA:s.id≤last
   ·have q:=Hd (j.o (by rw[decide_eq_true hA];rfl));refine ao (by kernel_rfl) (by kernel_rfl) ?_
    repeat (go_big_quiet_step (fail))
    refine xL ?_;intro W7 d;have f:=Hd (e.o.trans ((bA d).mono e.o.size));clear d X0 X1 X2 X3 X4 X5 K5;go_wp2_with fail
    go_ret;exact⟨by rw[q.o];rfl,f.o⟩
   by_cases hB:t≤s.id
   ·have q:=Hd (j.o (by rw[decide_eq_true hB];simp));refine ao (by kernel_rfl) (by kernel_rfl) ?_
    repeat (go_big_quiet_step (fail))
    refine xL ?_;intro W7 d;have f:=Hd (e.o.trans ((bA d).mono e.o.size));clear d X0 X1 X2 X3 X4 X5 K5;go_wp2_with fail
    go_ret;exact⟨by rw[q.o];rfl,f.o⟩
   by_cases hC:s.b<0
   ·have q:=Hd (j.o (by rw[decide_eq_true hC];simp));refine ao (by kernel_rfl) (by kernel_rfl) ?_
    repeat (go_big_quiet_step (fail))
    refine xL ?_;intro W7 d;have f:=Hd (e.o.trans ((bA d).mono e.o.size));clear d X0 X1 X2 X3 X4 X5 K5;go_wp2_with fail
    go_ret;exact⟨by rw[q.o];rfl,f.o⟩
   cases wb with
   | false =>
    have q:=Hd (j.o (by rw[bl.o];simp));refine ao (by kernel_rfl) (by kernel_rfl) ?_
    repeat (go_big_quiet_step ((go_at_call 52;exact Calls.h (y.o _))))
    refine xL ?_;intro W7 d;have f:=Hd (e.o.trans ((bA d).mono e.o.size));clear d X0 X1 X2 X3 X4 X5 K5 y;go_wp2_with fail
    go_ret;exact⟨by rw[q.o];rfl,f.o⟩
   | true =>
    have b0:=Hd ((zG (next:=t) (last:=last) bR.o (by rw[oE hA,oE hB,oE hC,bl.o];rfl)).symm.trans P.o);refine ao (by kernel_rfl) (by kernel_rfl) ?_
    repeat (go_big_quiet_step ((go_at_call 52;exact Calls.h (y.o _))))
    refine xL ?_;intro W7 d;have X:=bA d;have f:=Hd (e.o.trans (X.mono e.o.size));obtain⟨⟨x0,x1,x2,x3,x4,x5⟩,_⟩:=aC (aa X bg.o (JL.1 bg.o).1);clear d X X0 X1 X2 X3 X4 X5 K5 y;go_wp2_with fail
    exact⟨⟨_,k+1,s.id,Z,by omega,by go_num,Z,f.o,b0.o⟩,by simp[intOf];omega⟩
  ·obtain rfl:k=n:=by omega
   obtain⟨_,_,_,_,k4,k5,_⟩:=il (HX.o g N);have E:=Hd N;have l:=P.o;have bm:m.e.drop k=[]:=by rw[←HN.o,List.drop_length]
   rw[bm]at l;have H:fX t 0 m.e=true:=l.symm;have z:=HR.o;rw[H,Bool.true_and]at z;have q:=Hd z;clear N z l H bm
   by_cases h1:1≤t
   ·by_cases h2:t≤1099511627777
    ·by_cases h3:(k:Int)≤32
     ·go_wp2_with fail
      go_ret;exact⟨by rw[←q.o,decide_eq_true h1,decide_eq_true h2,decide_eq_true (show k≤32 by omega)];rfl,E.o⟩
     ·go_wp2_with fail
      go_ret;exact⟨by rw[←q.o,oE (show ¬k≤32 by omega),Bool.and_false];rfl,E.o⟩
    ·go_wp2_with fail
     go_ret;exact⟨by rw[←q.o,oE (show ¬t≤1099511627777 by omega),Bool.and_false,Bool.false_and];rfl,E.o⟩
   ·go_wp2_with fail
    go_ret;exact⟨by rw[←q.o,oE (show ¬1≤t by omega),Bool.false_and,Bool.false_and];rfl,E.o⟩
