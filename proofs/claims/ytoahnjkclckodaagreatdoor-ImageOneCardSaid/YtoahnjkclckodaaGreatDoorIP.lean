/- Parts of one proof, joined; conditions stand in each theorem. -/
import Derived.Test.YtoahnjkclckodaaGreatDoorIO
open Option renaming some→A,none→Y
open Go renaming World→J,Value→tT,wpQuiet_nil→xL
open Go.Value renaming int→I,pointer→vv,slice→O,string→tS
open Go.IntKind renaming i64→U,u8→tF
open Go.Obj renaming cells→r9
open Decidable renaming decide→xn
namespace Go.Proofs.YtoahnjkclckodaaGreatDoor
set_option maxHeartbeats 8000000
set_option maxRecDepth 100000
open Go.RowKit
theorem vX{l:List br}{k:Nat}{c:br}(h:l[k]?=A c):bD (l.take (k+1))=bD (l.take k)+(if c.q==1 then 1 else 0):=by
 rw[Gd,h]
 show bD (l.take k++[c])=_
 unfold bD;rw[List.filter_append,FT]
 congr 1
 by_cases a:(c.q==1)=true
 ·simp[a]
 ·simp[a]
theorem s8(l:List br)(k:Nat):bD (l.take k)≤k:=by
 unfold bD;have a:=List.length_filter_le (fun c:br=>c.q==1) (l.take k);rw[List.length_take]at a;omega
def Fa(w:J) (n:Nat) (l:List br) (i v:tT) (W:J):Prop:=
 ∃(a:J) (k:Nat),a=W∧k≤n∧i=I U (k:Int)∧v=I U (bD (l.take k):Int)∧Gl w a
def idB(m:aQ) (i:Int):Bool:=m.a.any fun f=>f.id==i
theorem sB{R:de}{l:List am}{t:jz}(h:t.a<0∨(R.c.length:Int)≤t.a):fK R l t=false:=by
 unfold fK;rcases h with h|h
 ·rw[oT (by omega)];rfl
 ·rw[oT (show ¬t.a<R.c.length by omega),Bool.and_false];rfl
theorem B5{R:de}{m:aQ}{t:jz}{j:Nat}{x:aK}(b:t.a=j)(a:R.c[j]?=A x):fK R m.a t=(t.b.all (idB m)&&(t.b.length==bD x.b)):=by
 unfold fK;rw[b,Int.toNat_natCast,a,decide_eq_true (by omega),decide_eq_true (by have:=(FU.1 a).1;omega)];rfl
theorem AE{w:J}{K:Nat}{m:aQ}{R:de}{t:jz}{y0 y1:tT}(h:jh w K m R)(ht:dA.at_ w (fun b=>b<w.heap.size) t [y0,y1]):Calls Tryz.prog 51 #[vv (A ⟨K,0,Y⟩),Value.agg #[y0,y1]] w (aV (fK R m.a t) w):=by
 have HL:=Hd h;obtain⟨_,_,sf,st,ss,sy,sr,M,hx,_,_,_,_,ad,hM⟩:=h;obtain⟨fs,sl,bR,af⟩:=hH.1 ht;injection bR with q0 bR
 injection bR with q1 _
 subst q0 q1;obtain⟨pi,ci,cu⟩:=Rd.q af;have b0:=Rd.N af;obtain⟨ni,b1⟩:=zzy (t.b.length);rw[b1]at cu b0;subst cu;have gE:(ni:Int)≤9223372036854775807:=by unfold maxLen at b0;omega
 obtain⟨pr,cr,cv⟩:=Rd.q ad;have b3:=Rd.N ad;obtain⟨nr,b4⟩:=zzy (R.c.length);rw[b4]at cv b3;subst cv;have gF:(nr:Int)≤9223372036854775807:=by unfold maxLen at b3;omega
 obtain⟨ru,b7⟩:=zzy (t.a);rw[b7]at fs ⊢;obtain⟨P,aq⟩:=zzx (w.alloc (r9 #[I U ru,O pi ni ci] 50));have B:Gl w P:=by rw[aq];exact (Fz _ w).alloc (Fy _) _
 have ar:P.heap[w.heap.size]?=A (r9 #[I U ru,O pi ni ci] 50 (0,0)):=by rw[aq];exact oA w _
 have ft:=Hd (fun W (D:Gl w W)=>ak ad D);have fv:=Hd (fun W (D:Gl w W)=>ak af D);have HX:=Hd (fun W (D:Gl P W)=>aa (B.trans (D.mono B.size)) hx (Fx.1 hx).1);have HT:=Hd (fun W (D:Gl P W)=>aa D ar (Fx.1 ar).1);have HB:=Hd (fun W (D:Gl P W)=>B.trans (D.mono B.size));have HM:=Hd (fun W (D:Gl P W)=>hM.C (B.trans (D.mono B.size)));obtain⟨cy,a1,b8,b9⟩:=zz4 aq b1 b4 b7;obtain⟨r,hr⟩:=zzy (fK R m.a t);rw[hr];have HR:=Hd hr;obtain⟨tx,cA⟩:=zzy (m.c);obtain⟨nx,cC⟩:=zzy (m.d);obtain⟨mn,cR⟩:=zzy (m.f);rw[cA,cC,cR]at HX;obtain⟨_,_,_,_,_,_,_,k7,_⟩:=gz (HX.o P (Fz _ _));obtain⟨t0,t1,_⟩:=bP ar;have T0:=fun x:Wb P=>x.h t0
 have K7:=fun x:Wb P=>x.h k7
 clear hx ad hM af ht B ar aq b1 b4 b7 b0 b3 hr cA cC cR k7 t0 t1
 go_enter Tryz.func51,Tryz.ntmps51
 go_upto_region 1 with fail
 change Code.wp _ _ _ _ (w.alloc (r9 #[I U ru,O pi ni ci] 50));rw[←cy.o];clear cy
 by_cases hA:ru<0
 ·have HO:=Hd (HR.o.symm.trans (sB (Or.inl (by rw[b9.o];exact hA))));refine al (by kernel_rfl) (by kernel_rfl) ?_
  repeat (go_big_quiet_step (fail))
  refine xL ?_;intro W7 l;have F:=Hd (HB.o _ (bw l));clear l T0 K7;go_wp2_with fail
  go_ret;exact⟨by rw[HO.o];rfl,F.o⟩
 by_cases hB:(nr:Int)≤ru
 ·have HO:=Hd (HR.o.symm.trans (sB (Or.inr (by rw[b9.o,b8.o];exact hB))));refine al (by kernel_rfl) (by kernel_rfl) ?_
  repeat (go_big_quiet_step (fail))
  refine xL ?_;intro W7 l;have F:=Hd (HB.o _ (bw l));clear l T0 K7;go_wp2_with fail
  go_ret;exact⟨by rw[HO.o];rfl,F.o⟩
 obtain⟨j,rfl⟩:∃j:Nat,ru=j:=⟨ru.toNat,by omega⟩;have hj:j<nr:=by omega
 have ha:(j:Int)<nr:=by omega
 obtain⟨x,cb⟩:∃x,R.c[j]?=A x:=⟨_,FD (by rw[b8.o];exact hj)⟩;obtain⟨fz,fI⟩:=zz2 (HR.o.symm.trans (B5 b9.o cb)) cb;clear cb;refine al (by kernel_rfl) (by kernel_rfl) ?_
 repeat (go_big_quiet_step (fail))
 refine xL ?_;intro W2 l;have Q:=bw l;have cT:=Hd Q;obtain⟨_,_,_,_,_,_,_,k7,_⟩:=gz (HX.o W2 Q);obtain⟨t0,t1,_⟩:=bP (HT.o W2 Q);clear T0 K7;have u:=Rd.K (ft.o W2 (HB.o W2 Q)) fI.o;rw[b8.o]at u;obtain⟨b2,cV,gH,vs,S,_,_,_,_,E,a⟩:=u;injection S with e1 _ e3
 subst e1;subst e3;obtain⟨_,_,_,sc,sa,rfl,ba,bb⟩:=rX.1 E;obtain⟨pc,cc,cW⟩:=Rd.q ba;have cf:=Rd.N ba;obtain⟨nc,ch⟩:=zzy (x.b.length);rw[ch]at cW cf;subst cW;have gL:(nc:Int)≤9223372036854775807:=by unfold maxLen at cf;omega
 have r3:W2.cell? ⟨b2,cV+j*5+3,Y⟩=A (O pc nc cc):=a 3 _ Z;have T0:=fun x:Wb W2=>x.h t0
 have K7:=fun x:Wb W2=>x.h k7
 have R3:=fun x:Wb W2=>x.h r3
 have fT:=Hd (fun W (D:Gl W2 W)=>ak ba D);have cl:=Hd ch;clear l Q E a ba bb cf ch k7 t0 t1 r3;go_upto_region 4 with fail
 refine al (by kernel_rfl) (by kernel_rfl) ?_
 repeat (go_big_quiet_step (fail))
 refine xL ?_;intro W3 l;have dd:=bw l;have bd:=Hd dd;clear l T0 K7 R3 dd;go_wp2_with fail
 go_loopw [37,5] (Fa W3 nc x.b) (fun i _ _=>nc-(intOf i).toNat)
 case atStart=>exact⟨_,0,Z,FR _,Z,Z,Fz _ _⟩
 case round =>
  obtain⟨s,k,rfl,hk,rfl,rfl,T⟩:=hrel
  by_cases bk:k<nc
  ·obtain⟨c,cm⟩:∃z,x.b[k]?=A z:=⟨_,FD (by rw[cl.o];exact bk)⟩;have G:=bd.o.trans (T.mono bd.o.size);have u:=Rd.K (fT.o s G) cm;rw[cl.o]at u;obtain⟨X,d,gM,vs,S,_,_,_,_,E,a⟩:=u;injection S with e1 _ e3
   subst e1;subst e3;obtain⟨_,_,_,hc,s',rfl,bb,dg⟩:=pd.1 E;obtain⟨pa,ca,rfl⟩:=Rd.q bb;obtain⟨pk,ck,rfl⟩:=fM dg;have bl:=vX cm;have hle:=s8 x.b k;obtain⟨na,dn⟩:=zzy (c.a.length);obtain⟨nk,ds⟩:=zzy (c.b.z.length);obtain⟨H,V⟩:=zzy (c.q);rw[V]at bl;obtain⟨fm,L⟩:=zzy (bD (x.b.take k));rw[L]at bl hle ⊢;obtain⟨C,hC⟩:∃C:Array tT,C=#[I tF H,I U c.u,O pa na ca,I tF c.b.q,I tF c.b.h.q,I U c.b.h.u,tS c.b.h.h,I U c.b.t,I tF c.b.op,O pk nk ck]:=⟨_,rfl⟩;have c0:s.cell? ⟨X,d+k*10,Y⟩=A (I tF H):=by rw[←V];exact a 0 _ Z
   have c1:s.cell? ⟨X,d+k*10+1,Y⟩=A (I U c.u):=a 1 _ Z;have c2:s.cell? ⟨X,d+k*10+2,Y⟩=A (O pa na ca):=by rw[←dn];exact a 2 _ Z
   have c3:s.cell? ⟨X,d+k*10+3,Y⟩=A (I tF c.b.q):=a 3 _ Z;have c4:s.cell? ⟨X,d+k*10+4,Y⟩=A (I tF c.b.h.q):=a 4 _ Z;have c5:s.cell? ⟨X,d+k*10+5,Y⟩=A (I U c.b.h.u):=a 5 _ Z;have c6:s.cell? ⟨X,d+k*10+6,Y⟩=A (tS c.b.h.h):=a 6 _ Z;have c7:s.cell? ⟨X,d+k*10+7,Y⟩=A (I U c.b.t):=a 7 _ Z;have c8:s.cell? ⟨X,d+k*10+8,Y⟩=A (I tF c.b.op):=a 8 _ Z;have c9:s.cell? ⟨X,d+k*10+9,Y⟩=A (O pk nk ck):=by rw[←ds];exact a 9 _ Z
   obtain⟨N,bm⟩:=zzx (s.alloc (r9 C 168));have dt:Gl s N:=by rw[bm];exact (Fz _ s).alloc (Fy _) _
   have dv:N.heap[s.heap.size]?=A (r9 C 168 (0,0)):=by rw[bm];exact oA s _
   have z0:N.cell? ⟨s.heap.size,0,Y⟩=A (I tF H):=by rw[Gk _ _ _ _ _ _ dv,hC];rfl
   obtain⟨cn,eg,HC,en⟩:=zz4 (T.trans (dt.mono T.size)) bm hC bl;have gN:(k:Int)<nc:=by omega
   have gO:fm≤k:=hle;clear E a cm T dt bm hC dv bl hle bb dg dn ds V L G;go_upto_region 7 with fail
   change Code.wp _ _ _ _ (s.alloc (r9 #[I tF H,I U c.u,O pa na ca,I tF c.b.q,I tF c.b.h.q,I U c.b.h.u,tS c.b.h.h,I U c.b.t,I tF c.b.op,O pk nk ck] 168));rw[←HC.o,←eg.o];clear eg c0 c1 c2 c3 c4 c5 c6 c7 c8 c9
   by_cases h1:H=1
   ·subst h1;go_wp2_with fail
    exact⟨⟨_,k+1,Z,by omega,by go_num,(by have gf:bD (x.b.take (k+1))=fm+1:=en.o;rw[gf];go_num),cn.o⟩,by simp[intOf];omega⟩
   ·have gg:(H==1)=false:=by simpa using h1
    go_wp2_with fail
    exact⟨⟨_,k+1,Z,by omega,by go_num,by rw[en.o,gg];rfl,cn.o⟩,by simp[intOf];omega⟩
  ·obtain rfl:k=nc:=by omega
   have G:=cT.o.trans ((bd.o.trans (T.mono bd.o.size)).mono cT.o.size);have L:bD (x.b.take k)=bD x.b:=by rw[←cl.o,List.take_length]
   rw[L];have hle:bD x.b≤k:=by rw[←L];exact s8 _ _
   have cp:=Hd fz.o;obtain⟨fm,bt⟩:=zzy (bD x.b);rw[bt]at cp hle ⊢;obtain⟨t0,t1,_⟩:=bP (HT.o s G);have bn:=Hd G;clear T G L bt;go_wp2_with fail
   go_loopw [50] (ee s ni (idB m) t.b) (fun i _=>ni-(intOf i).toNat)
   case atStart=>exact ee.start
   case round =>
    obtain⟨N,q,rfl,hq,rfl,T,eo⟩:=hrel;have v:=bn.o.trans (T.mono bn.o.size);obtain⟨er,cn⟩:=zz2 eo v;clear eo t0 t1
    by_cases bk:q<ni
    ·obtain⟨y,bq⟩:∃x,t.b[q]?=A x:=⟨_,FD (by rw[a1.o];exact bk)⟩;have u:=Rd.K (fv.o N (HB.o N v)) bq;rw[a1.o]at u;obtain⟨b6,et,gS,vs,S,_,_,_,_,E,a⟩:=u;injection S with e1 _ e3
     subst e1;subst e3;obtain⟨rfl,_⟩:=E;have d0:N.cell? ⟨b6,et+q,Y⟩=A (I U y):=by
      have:=a 0 _ Z
      simpa [Rd.int,Rd.u]using this
     obtain⟨_,_,_,_,_,_,_,_,k8⟩:=gz (HX.o N v);have HG:=Hd (zS (HM.o N v) y);obtain⟨g,hg⟩:=zzy ((m.a.any fun f=>f.id==y));rw[hg]at HG;have e0:idB m y=g:=hg;have e2:=Hd e0;have gT:(q:Int)<ni:=by omega
     have e4:=Hd T;have gD:=Hd (fun W (D:Gl s W) h=>ee.on (p:=idB m) (W:=W) D bk er.o bq h);have e5:=Hd (fun h=>cp.o.trans (show (t.b.all (idB m)&&(t.b.length==fm))=false by rw[kM (p:=idB m) bq h];rfl));clear a bq T v hg e0;go_wp2_with fail
     refine HG.o.mono ?_;rintro e W6 ⟨⟨a6,e6,p6,n6,c6,rfl⟩,e7⟩;have e8:=Hd (e4.o.trans (e7.mono e4.o.size));obtain⟨W7,cq⟩:=zzx (W6.alloc (r9 #[I U a6,I U e6,O p6 n6 c6] 47));have e9:Gl W6 W7:=by rw[cq];exact (Fz _ W6).alloc (Fy _) _
     obtain⟨F,fr⟩:=zz2 (e8.o.trans (e9.mono e8.o.size)) cq;clear e7 HG d0 k8 e9 cq;go_upto_region 14 with fail
     change Code.wp _ _ _ _ (W6.alloc (r9 #[I U a6,I U e6,O p6 n6 c6] 47));rw[←fr.o];clear fr
     cases g with
     | true =>
      have HO:=Hd (gD.o W7 F.o e2.o);go_wp2_with fail
      exact HO.o
     | false =>
      obtain⟨HO,ct⟩:=zz2 (e5.o e2.o) (HB.o W7 (bn.o.trans (F.o.mono bn.o.size)));go_wp2_with fail
      go_ret;exact⟨by rw[HO.o];rfl,ct.o⟩
    ·obtain rfl:q=ni:=by omega
     obtain⟨t0,t1,_⟩:=bP (HT.o N v)
     have bB:=cp.o.trans (show (t.b.all (idB m)&&(t.b.length==fm))=(((q:Int)==(fm:Int)):Bool) by
      rw[jC a1.o er.o,Bool.true_and,a1.o]
      by_cases h:q=fm
      ·rw[h,beq_self_eq_true,beq_self_eq_true]
      ·have h2:¬(q:Int)=fm:=by omega
       rw[pb.2 h,pb.2 h2])
     obtain⟨HO,ct⟩:=zz2 bB (HB.o N v);clear T v bB;go_wp2_with fail
     go_ret;exact⟨by rw[HO.o];rfl,ct.o⟩
theorem Ax{w:J}{K:Nat}{m:aQ}{R:de}(h:jh w K m R):Calls Tryz.prog 26 #[vv (A ⟨K,0,Y⟩)] w (aV (l9 R m) w):=by
 have HL:=Hd (fun W (u:Gl w W)=>h.C u);obtain⟨_,_,sf,st,ss,sy,sr,M,hx,_,g,_,_,_,_⟩:=h;obtain⟨p,c,F⟩:=Rd.q g;have v:=Rd.N g;obtain⟨n,hn⟩:=zzy (m.e.length);rw[hn]at F v;subst F;have bm:(n:Int)≤9223372036854775807:=by unfold maxLen at v;omega
 have HV:=Hd (fun W (u:Gl w W)=>ak g u);have HX:=Hd (fun W (u:Gl w W)=>aa u hx (Fx.1 hx).1);have HN:=Hd hn;obtain⟨r,hr⟩:=zzy (l9 R m);rw[hr];have G:(m.e.all (fK R m.a)&&xn (m.e.length≤4096))=r:=hr;have HR:=Hd G;obtain⟨_,_,_,k3,_⟩:=gz (HX.o w (Fz _ _));clear hx g v hn hr G
 go_enter Tryz.func26,Tryz.ntmps26
 go_wp2_with fail
 go_loopw [12] (ee w n (fK R m.a) m.e) (fun i _=>n-(intOf i).toNat)
 case atStart=>exact ee.start
 case round =>
  obtain⟨d,k,rfl,hk,rfl,y,H⟩:=hrel;have L:=Hd H;clear H k3
  by_cases N:k<n
  ·obtain⟨f,j⟩:∃x,m.e[k]?=A x:=⟨_,FD (by rw[HN.o];exact N)⟩;have P:=Rd.K (HV.o d y) j;rw[HN.o]at P;obtain⟨b1,off,cap,vs,bb,_,_,_,_,z,a⟩:=P;injection bb with e1 _ e3
   subst e1;subst e3;obtain⟨bd,sl,rfl,Q⟩:=hH.1 z;obtain⟨S,T,V⟩:=Rd.q Q;subst V;have d0:d.cell? ⟨b1,off+k*2,Y⟩=A (I U f.a):=a 0 _ Z;have d1:d.cell? ⟨b1,off+k*2+1,Y⟩=A (O S f.b.length T):=a 1 _ Z;obtain⟨W2,l⟩:=zzx (d.alloc (r9 #[I U f.a,O S f.b.length T] 50));have q:Gl d W2:=by rw[l];exact (Fz _ d).alloc (Fy _) _
   have X:W2.heap[d.heap.size]?=A (r9 #[I U f.a,O S f.b.length T] 50 (0,0)):=by rw[l];exact oA d _
   have B:=y.trans (q.mono y.size);have s:dA.at_ W2 (fun b=>b<W2.heap.size) f [I U f.a,O S f.b.length T]:=dA.D (fun b (h:b<d.heap.size)=>FG h q.size) (dA.t (fun b (h:b<d.heap.size) o ho=>(q.block b h).trans ho) z);have C:=Hd (AE (HL.o W2 B) s);obtain⟨mb,D⟩:=zzy (fK R m.a f);rw[D]at C;obtain⟨x0,x1,_⟩:=bP X;obtain⟨ad,af,aq⟩:=zz3 B l D;have bl:(k:Int)<n:=by omega
   have bk:=Hd (fun W (u:Gl w W) h=>ee.on (p:=fK R m.a) (W:=W) u N L.o j h);have ar:=Hd (fun h=>HR.o.symm.trans (show (m.e.all (fK R m.a)&&xn (m.e.length≤4096))=false by rw[kM (p:=fK R m.a) j h];rfl));clear z a j y q X l bd Q s D B;go_upto_region 4 with fail
   change Code.wp _ _ _ _ (d.alloc (r9 #[I U f.a,O S f.b.length T] 50));rw[←af.o];clear d0 d1 af;go_wp2_with fail
   refine C.o.mono ?_;rintro e W3 ⟨rfl,a1⟩;have a6:=Hd (ad.o.trans (a1.mono ad.o.size));clear a1 C x0 x1
   cases mb with
   | true =>
    have E:=Hd (bk.o W3 a6.o aq.o);go_wp2_with fail
    exact E.o
   | false =>
    have E:=Hd (ar.o aq.o);go_wp2_with fail
    go_ret;exact⟨by rw[E.o];rfl,a6.o⟩
  ·obtain rfl:k=n:=by omega
   obtain⟨_,_,_,k3,_⟩:=gz (HX.o d y);have ba:=Hd y
   have t:=HR.o.symm.trans (show (m.e.all (fK R m.a)&&xn (m.e.length≤4096))=xn ((k:Int)≤4096) by
    rw[jC HN.o L.o,Bool.true_and,HN.o]
    by_cases h:k≤4096
    ·rw[decide_eq_true h,decide_eq_true (show (k:Int)≤4096 by omega)]
    ·rw[oT h,oT (show ¬(k:Int)≤4096 by omega)])
   have E:=Hd t;clear y t
   by_cases h4:(k:Int)≤4096
   ·go_wp2_with fail
    go_ret;exact⟨by rw[E.o,decide_eq_true h4];rfl,ba.o⟩
   ·go_wp2_with fail
    go_ret;exact⟨by rw[E.o,oT (show ¬(k:Int)≤4096 by omega)];rfl,ba.o⟩
def Fw(w:J) (n:Nat) (next:Int) (l:List fo) (i b:tT) (W:J):Prop:=
 ∃(a:J) (k:Nat) (last:Int),a=W∧k≤n∧i=I U (k:Int)∧b=I U last∧Gl w a∧gm next last (l.drop k)=gm next 0 l
theorem tz{next last:Int}{l:List fo}{k:Nat}{s:fo}(a:l[k]?=A s):gm next last (l.drop k)=(!(xn (s.id≤last)||decide (next≤s.id)||decide (s.b<0)||!kR s.a)&&gm next s.id (l.drop (k+1))):=by
 have b:l.drop k=s::l.drop (k+1):=by
  rw[List.drop_eq_getElem_cons (FU.1 a).1];rw[(FU.1 a).2]
 rw[b];rfl
theorem yD{next last:Int}{l:List fo}{k:Nat}{s:fo}(a:l[k]?=A s)(h:(xn (s.id≤last)||decide (next≤s.id)||decide (s.b<0)||!kR s.a)=true):gm next last (l.drop k)=false:=by rw[tz a,h];rfl
theorem wK{next last:Int}{l:List fo}{k:Nat}{s:fo}(a:l[k]?=A s)(h:(xn (s.id≤last)||decide (next≤s.id)||decide (s.b<0)||!kR s.a)=false):gm next last (l.drop k)=gm next s.id (l.drop (k+1)):=by rw[tz a,h];rfl
theorem vD{w:J}{K:Nat}{m:aQ}{R:de}(h:jh w K m R)(ad:∀s∈m.g,szR s.a≤140737488355328):Calls Tryz.prog 27 #[vv (A ⟨K,0,Y⟩)] w (aV (jI m) w):=by
 obtain⟨_,bq,sf,st,ss,sy,sr,M,hx,_,_,B,_,_,_⟩:=h;obtain⟨p,c,af⟩:=Rd.q B;have L:=Rd.N B;obtain⟨n,hn⟩:=zzy (m.g.length);rw[hn]at af L;subst af;have b4:(n:Int)≤9223372036854775807:=by unfold maxLen at L;omega
 have HV:=Hd (fun W (hW:Gl w W)=>ak B hW);have HX:=Hd (fun W (hW:Gl w W)=>aa hW hx (Fx.1 hx).1);obtain⟨HN,bt⟩:=zz2 hn ad;obtain⟨r,hr⟩:=zzy (jI m);rw[hr];have C:(gm m.f 0 m.g&&xn (1≤m.f)&&xn (m.f≤1099511627777)&&xn (m.g.length≤32))=r:=hr;rw[hn]at C;obtain⟨t,aq⟩:=zzy (m.f);rw[aq]at HX C;have HR:=Hd C;obtain⟨_,_,_,_,k4,k5,_⟩:=gz (HX.o w (Fz _ _));clear hx B L hn hr C ad bq aq
 go_enter Tryz.func27,Tryz.ntmps27
 go_wp2_with fail
 go_loopw [12,3] (Fw w n t m.g) (fun i _ _=>n-(intOf i).toNat)
 case atStart=>exact⟨_,0,0,Z,FR _,Z,Z,Fz _ _,Z⟩
 case round =>
  obtain⟨g,k,last,rfl,hk,rfl,rfl,N,l⟩:=hrel;have P:=Hd l;clear l k4 k5
  by_cases bB:k<n
  ·obtain⟨s,u⟩:∃x,m.g[k]?=A x:=⟨_,FD (by rw[HN.o];exact bB)⟩;have ar:=Rd.K (HV.o g N) u;rw[HN.o]at ar;obtain⟨b1,off,cap,vs,bR,_,_,_,_,a1,a⟩:=ar;injection bR with e1 _ e3
   subst e1;subst e3;obtain⟨_,_,rs,rfl,Q⟩:=iv.1 a1;obtain⟨_,_,qf,qs,rfl,a6,ba⟩:=db.1 Q;obtain⟨p6,c6,F⟩:=Rd.q a6;obtain⟨p7,c7,G⟩:=Rd.q ba;obtain⟨n6,bb⟩:=zzy (s.a.a.length);obtain⟨n7,bd⟩:=zzy (s.a.b.length);rw[bb]at F;rw[bd]at G;subst F G;have d0:g.cell? ⟨b1,off+k*6,Y⟩=A (I U s.id):=a 0 _ Z;have d1:g.cell? ⟨b1,off+k*6+1,Y⟩=A (I U s.b):=a 1 _ Z;have d2:g.cell? ⟨b1,off+k*6+2,Y⟩=A (I U s.a.h):=a 2 _ Z;have d3:g.cell? ⟨b1,off+k*6+3,Y⟩=A (I U s.a.u):=a 3 _ Z;have d4:g.cell? ⟨b1,off+k*6+4,Y⟩=A (O p6 n6 c6):=a 4 _ Z;have d5:g.cell? ⟨b1,off+k*6+5,Y⟩=A (O p7 n7 c7):=a 5 _ Z;obtain⟨W2,D⟩:=zzx (g.alloc (r9 #[I U s.id,I U s.b,I U s.a.h,I U s.a.u,O p6 n6 c6,O p7 n7 c7] 54));have v:Gl g W2:=by rw[D];exact (Fz _ g).alloc (Fy _) _
   have S:W2.heap[g.heap.size]?=A (r9 #[I U s.id,I U s.b,I U s.a.h,I U s.a.u,O p6 n6 c6,O p7 n7 c7] 54 (0,0)):=by rw[D];exact oA g _
   have T:=N.trans (v.mono N.size);have y:=Hd (fun x:Wb W2=>yf (w:=x.1) (bH.D (fun b (h:b<g.heap.size)=>(by have:=v.size;have:=x.2.size;omega:b<x.1.heap.size)) (bH.t (fun b (h:b<g.heap.size) o ho=>(x.2.block b (by have:=v.size;omega)).trans ((v.block b h).trans ho)) Q)) (bt.o s (FZ u)));obtain⟨wb,V⟩:=zzy (kR s.a);rw[V]at y;obtain⟨⟨x0,x1,x2,x3,x4,x5⟩,_⟩:=aH S;obtain⟨_,_,_,_,k4,k5,_⟩:=gz (HX.o W2 T);have X0:=fun x:Wb W2=>x.h x0
   have X1:=fun x:Wb W2=>x.h x1
   have X2:=fun x:Wb W2=>x.h x2
   have X3:=fun x:Wb W2=>x.h x3
   have X4:=fun x:Wb W2=>x.h x4
   have X5:=fun x:Wb W2=>x.h x5
   have K5:=fun x:Wb W2=>x.h k5
   obtain⟨e,bk,bl,bm,b0⟩:=zz5 T S D V u;have b3:(k:Int)<n:=by omega
   have j:=Hd (fun h=>HR.o.symm.trans (show (gm t 0 m.g&&xn (1≤t)&&xn (t≤1099511627777)&&xn (n≤32))=false by rw[←P.o,yD u h];rfl));clear a1 a u N v S D Q a6 ba bb bd V T x0 x1 x2 x3 x4 x5 k4 k5;go_upto_region 5 with fail
   change Code.wp _ _ _ _ (g.alloc (r9 #[I U s.id,I U s.b,I U s.a.h,I U s.a.u,O p6 n6 c6,O p7 n7 c7] 54));rw[←bl.o];clear d0 d1 d2 d3 d4 d5 bl
   by_cases hA:s.id≤last
   ·have q:=Hd (j.o (by rw[decide_eq_true hA];rfl));refine al (by kernel_rfl) (by kernel_rfl) ?_
    repeat (go_big_quiet_step (fail))
    refine xL ?_;intro W7 d;have f:=Hd (e.o.trans ((bw d).mono e.o.size));clear d X0 X1 X2 X3 X4 X5 K5;go_wp2_with fail
    go_ret;exact⟨by rw[q.o];rfl,f.o⟩
   by_cases hB:t≤s.id
   ·have q:=Hd (j.o (by rw[decide_eq_true hB];simp));refine al (by kernel_rfl) (by kernel_rfl) ?_
    repeat (go_big_quiet_step (fail))
    refine xL ?_;intro W7 d;have f:=Hd (e.o.trans ((bw d).mono e.o.size));clear d X0 X1 X2 X3 X4 X5 K5;go_wp2_with fail
    go_ret;exact⟨by rw[q.o];rfl,f.o⟩
   by_cases hC:s.b<0
   ·have q:=Hd (j.o (by rw[decide_eq_true hC];simp));refine al (by kernel_rfl) (by kernel_rfl) ?_
    repeat (go_big_quiet_step (fail))
    refine xL ?_;intro W7 d;have f:=Hd (e.o.trans ((bw d).mono e.o.size));clear d X0 X1 X2 X3 X4 X5 K5;go_wp2_with fail
    go_ret;exact⟨by rw[q.o];rfl,f.o⟩
   cases wb with
   | false =>
    have q:=Hd (j.o (by rw[bm.o];simp));refine al (by kernel_rfl) (by kernel_rfl) ?_
    repeat (go_big_quiet_step ((go_at_call 52;exact Calls.h (y.o _))))
    refine xL ?_;intro W7 d;have f:=Hd (e.o.trans ((bw d).mono e.o.size));clear d X0 X1 X2 X3 X4 X5 K5 y;go_wp2_with fail
    go_ret;exact⟨by rw[q.o];rfl,f.o⟩
   | true =>
    have b2:=Hd ((wK (next:=t) (last:=last) b0.o (by rw[oT hA,oT hB,oT hC,bm.o];rfl)).symm.trans P.o);refine al (by kernel_rfl) (by kernel_rfl) ?_
    repeat (go_big_quiet_step ((go_at_call 52;exact Calls.h (y.o _))))
    refine xL ?_;intro W7 d;have X:=bw d;have f:=Hd (e.o.trans (X.mono e.o.size));obtain⟨⟨x0,x1,x2,x3,x4,x5⟩,_⟩:=aH (aa X bk.o (Fx.1 bk.o).1);clear d X X0 X1 X2 X3 X4 X5 K5 y;go_wp2_with fail
    exact⟨⟨_,k+1,s.id,Z,by omega,by go_num,Z,f.o,b2.o⟩,by simp[intOf];omega⟩
  ·obtain rfl:k=n:=by omega
   obtain⟨_,_,_,_,k4,k5,_⟩:=gz (HX.o g N);have E:=Hd N;have l:=P.o;have bn:m.g.drop k=[]:=by rw[←HN.o,List.drop_length]
   rw[bn]at l;have H:gm t 0 m.g=true:=l.symm;have z:=HR.o;rw[H,Bool.true_and]at z;have q:=Hd z;clear N z l H bn
   by_cases h1:1≤t
   ·by_cases h2:t≤1099511627777
    ·by_cases h3:(k:Int)≤32
     ·go_wp2_with fail
      go_ret;exact⟨by rw[←q.o,decide_eq_true h1,decide_eq_true h2,decide_eq_true (show k≤32 by omega)];rfl,E.o⟩
     ·go_wp2_with fail
      go_ret;exact⟨by rw[←q.o,oT (show ¬k≤32 by omega),Bool.and_false];rfl,E.o⟩
    ·go_wp2_with fail
     go_ret;exact⟨by rw[←q.o,oT (show ¬t≤1099511627777 by omega),Bool.and_false,Bool.false_and];rfl,E.o⟩
   ·go_wp2_with fail
    go_ret;exact⟨by rw[←q.o,oT (show ¬1≤t by omega),Bool.false_and,Bool.false_and];rfl,E.o⟩
