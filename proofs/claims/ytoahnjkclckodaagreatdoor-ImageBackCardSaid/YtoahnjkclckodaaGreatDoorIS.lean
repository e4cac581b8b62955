/- Parts of one proof, joined; conditions stand in each theorem. -/
import Derived.Test.YtoahnjkclckodaaGreatDoorIQ
import Derived.Test.YtoahnjkclckodaaGreatDoorIR
import Derived.Test.YtoahnjkclckodaaGreatDoorIT
import Derived.Test.YtoahnjkclckodaaGreatDoorIJ
open Go renaming World→J,Value→tS,undef→xk,Calls→vv,wpQuiet_nil→xL
open Bool renaming false→ur,true→tT
open Go.Value renaming string→r9,int→I,slice→O,agg→wP,bool→xt
open Go.IntKind renaming i64→U,u8→r8
open Go.Proofs.Tryz renaming prog→va
open Go.Obj renaming cells→r7
open Option renaming some→A,none→Y
open Go.Ending renaming returned→wg
namespace Go.Proofs.YtoahnjkclckodaaGreatDoor
set_option maxHeartbeats 16000000
set_option maxRecDepth 100000
open Go.RowKit
theorem gJ{w w':J}{v:tS}{l:List UInt8}(h:Lib.HoldsBytes w v l)(c:Kr w w'):Lib.HoldsBytes w' v l:=by
 obtain⟨p,cap,d,e,f⟩:=h;refine⟨p,cap,d,e,fun a g i x j=>?_⟩;have b:=f a g i x j;exact (c.cell (World.block_lt_of_cell? _ _ b)).trans b
theorem Eo{l:List UInt8}(c:l.length≤20000)(a:(ei ((l,ur),ur)).2.1.2=ur)(b:(ei ((l,ur),ur)).2.2=ur):szM (ei ((l,ur),ur)).1≤140737488355328:=by
 have:=sG (s:=((l,ur),ur)) ⟨a,b⟩;dsimp only at this;omega
theorem gK{w:J}{F:Nat→Prop}{m:au}{vs:List tS}(h:bG.at_ w F m vs):∃(a b c:Option Addr) (nf o ns d e cs:Nat),vs=[r9 m.c,I U m.g,O a nf d,O b o e,O c ns cs,I U m.h]:=by
 obtain⟨_,_,_,sf,st,ss,f,g,i,j⟩:=fC.1 h;obtain⟨a,d,k⟩:=Rd.q g;obtain⟨b,e,l⟩:=Rd.q i;obtain⟨c,cs,n⟩:=Rd.q j;exact⟨a,b,c,_,_,_,d,e,cs,by rw[f,k,l,n]⟩
theorem nI{w w':J}{m:au}{vs:List tS}(h:bG.at_ w (fun b=>b<w.heap.size) m vs)(a:Kr w w'):bG.at_ w' (fun b=>b<w'.heap.size) m vs:=
 bG.N (fun b (h:b<w.heap.size)=>JS h a.size) (bG.K (fun b (h:b<w.heap.size) _o c=>(a.block b h).trans c) h)
def AwP(k:Nat) (V:J) (xs:List tS):Prop:=if k=33∨k=46 then bG.at_ V (fun b=>b<V.heap.size) aY [r9 aY.c,I U aY.g,xs.getD 0 xk,xs.getD 1 xk,xs.getD 2 xk,I U aY.h] else True
def AwV(k:Nat) (xs:List tS):Value:=if k=33∨k=46 then wP #[r9 aY.c,I U aY.g,xs.getD 0 xk,xs.getD 1 xk,xs.getD 2 xk,I U aY.h] else xt tT
theorem I2(xs:List tS):AwV 33 xs=wP #[r9 aY.c,I U aY.g,xs.getD 0 xk,xs.getD 1 xk,xs.getD 2 xk,I U aY.h]:=rfl
theorem Jo(xs:List tS):AwV 46 xs=wP #[r9 aY.c,I U aY.g,xs.getD 0 xk,xs.getD 1 xk,xs.getD 2 xk,I U aY.h]:=rfl
theorem Ji(xs:List tS):AwV 34 xs=xt true:=rfl
theorem I6(xs:List tS):AwV 47 xs=xt true:=rfl
theorem AwP.full{k:Nat}{V:J}{xs:List tS}(h:AwP k V xs)(a:k=33∨k=46):bG.at_ V (fun b=>b<V.heap.size) aY [r9 aY.c,I U aY.g,xs.getD 0 xk,xs.getD 1 xk,xs.getD 2 xk,I U aY.h]:=by
 unfold AwP at h
 rwa [oj a]at h
theorem AwP.of{k:Nat}{V:J}{xs:List tS}(a:k=33∨k=46)(h:bG.at_ V (fun b=>b<V.heap.size) aY [r9 aY.c,I U aY.g,xs.getD 0 xk,xs.getD 1 xk,xs.getD 2 xk,I U aY.h]):AwP k V xs:=by
 unfold AwP
 rwa [oj a]
theorem AwP.none{k:Nat}{V:J}{xs:List tS}(a:¬(k=33∨k=46)):AwP k V xs:=by
 unfold AwP;rw[oe a];trivial
theorem AwP.K{k:Nat}{V a:J}{xs:List tS}(h:AwP k V xs)(b:Kr V a):AwP k a xs:=by
 unfold AwP at h ⊢
 split
 ·rename_i c
  rw[oj c]at h;exact nI h b
 ·trivial
theorem zN(W:J)(ht:aI W):vv va 5 #[] W (aZ tT W):=by
 have j:=Hd (fun V (q:Kr W V) r (m:au) vs (hU:Kr V r) hm (hz:szM m≤140737488355328)=>mS (m:=m) (vs:=vs) (w:=r) hm (ht.C (q.trans (hU.mono q.size))) hz);clear ht;have HN:=Hd (zS W)
 go_enter Tryz.func5,Tryz.ntmps5
 go_wp2_with fail
 refine HN.o.mono ?_;rintro e W1 ⟨dv,rfl,S,H⟩;obtain⟨T,K⟩:=zz2 S (mq (okF:=okS) H Bf (fun V m vs q hm v=>j.o W1 S V m vs q hm v));clear S H HN;go_wp2_with fail
 refine K.o.mono ?_;rintro e W2 ⟨cc,v2,rfl,k,_⟩;rw[zw]at k ⊢;dsimp only at k ⊢;have X:=T.o.trans (cc.mono T.o.size);have HG:=Hd (pU (P:=fun m=>szM m≤140737488355328) (okF:=okS) k (by rw[kz];decide) (fun V m vs q hm v=>j.o W2 X V m vs q hm v) (fun h1 h2=>Eo (by rw[kz];decide) h1 h2));obtain⟨p2,c2,ch,_⟩:=id k;rw[kz]at ch;subst ch;obtain⟨ad,ck⟩:=zz2 X k;clear cc X k K T;go_wp2_with fail
 refine HG.o.mono ?_;rintro e W3 ⟨af,ef,rfl,g⟩;rw[zJ]at g ⊢;dsimp only at g ⊢;obtain⟨pf,pt,ps,nf,nt,ns,cf,ct,cs,cl⟩:=gK g;subst cl;obtain⟨W4,y⟩:=zzx (W3.alloc (r7 #[r9 cH.c,I U cH.g,O pf nf cf,O pt nt ct,O ps ns cs,I U cH.h] 28));have cm:Kr W3 W4:=by rw[y];exact (JO _ W3).alloc (JM _) _
 have cn:W4.heap[W3.heap.size]?=A (r7 #[r9 cH.c,I U cH.g,O pf nf cf,O pt nt ct,O ps ns cs,I U cH.h] 28 (0,0)):=by rw[y];exact oc W3 _
 have aq:=af.trans (cm.mono af.size);have ar:=ad.o.trans (aq.mono ad.o.size);obtain⟨cp,a1,K,a6,cq⟩:=zz5 (gJ ck.o aq) cn (mq (okF:=okS) (m:=ta) (vs:=[r9 ⟨#[]⟩,I U 0,O Y 0 0,O Y 0 0,O Y 0 0,I U 1]) (W:=W4) (fC.2 ⟨J0 _,(by decide:(-9223372036854775808:Int)≤0∧(0:Int)<9223372036854775808),(by decide:(-9223372036854775808:Int)≤1∧(1:Int)<9223372036854775808),_,_,_,Z,Rd.tk,Rd.tk,Rd.tk⟩) FT (fun V m vs q hm v=>j.o W4 ar V m vs q hm v)) ar y;clear af g cm cn aq ar y HG ck ad;go_upto_region 3 with fail
 change Code.wp _ _ _ _ (W3.alloc (r7 #[r9 cH.c,I U cH.g,O pf nf cf,O pt nt ct,O ps ns cs,I U cH.h] 28));rw[←cq.o];clear cq;go_wp2_with fail
 refine K.o.mono ?_;rintro e W5 ⟨z,v5,rfl,ba,_⟩;rw[Ee]at ba ⊢;dsimp only at ba ⊢;obtain⟨p5,c5,bb,_⟩:=ba;have bb:v5=O p5 0 c5:=bb;subst bb;have cr:=a6.o.trans (z.mono a6.o.size);obtain⟨bd,cu,bg,HF⟩:=zz4 cr (gJ cp.o z) (aa z a1.o (JL.1 a1.o).1) (pF W5);clear z cr K cp a1 a6;go_wp2_with fail
 refine HF.o.mono ?_;rintro e W6 ⟨eg,rfl,B,L⟩;have bk:=bd.o.trans (B.mono bd.o.size);obtain⟨K,bl,cv,bm⟩:=zz4 (mq (okF:=okS) L Ax (fun V m vs q hm v=>j.o W6 bk V m vs q hm v)) bk (gJ cu.o B) (aa B bg.o (JL.1 bg.o).1);clear B L bk HF cu bg bd;go_wp2_with fail
 refine K.o.mono ?_;rintro e W7 ⟨C,v7,rfl,D,_⟩;rw[GA]at D ⊢;dsimp only at D ⊢;have bn:=bl.o.trans (C.mono bl.o.size);have HG:=Hd (pU (P:=fun m=>szM m≤140737488355328) (okF:=okS) D (JU yO (by decide)) (fun V m vs q hm v=>j.o W7 bn V m vs q hm v) (fun h1 h2=>Eo yO h1 h2));obtain⟨p7,c7,cy,_⟩:=D;obtain⟨n7,cA⟩:=zzy ((bV aY).length);rw[cA]at cy;subst cy;obtain⟨bq,cC,bt⟩:=zz3 bn (gJ cv.o C) (aa C bm.o (JL.1 bm.o).1);clear C bn K bl cv bm cA;go_wp2_with fail
 refine HG.o.mono ?_;rintro e W8 ⟨bB,en,rfl,f⟩;rw[Hf]at f ⊢;dsimp only at f ⊢;obtain⟨qf,qt,qs,mf,mt,ms,df,dt,ds,cR⟩:=gK f;subst cR;obtain⟨c,E⟩:=zzx (W8.alloc (r7 #[r9 aY.c,I U aY.g,O qf mf df,O qt mt dt,O qs ms ds,I U aY.h] 28));have bR:Kr W8 c:=by rw[E];exact (JO _ W8).alloc (JM _) _
 have cT:c.heap[W8.heap.size]?=A (r7 #[r9 aY.c,I U aY.g,O qf mf df,O qt mt dt,O qs ms ds,I U aY.h] 28 (0,0)):=by rw[E];exact oc W8 _
 have F:=bB.trans (bR.mono bB.size);have cV:=bq.o.trans (F.mono bq.o.size);have cW:=gJ cC.o F;have M:=aa F bt.o (JL.1 bt.o).1;have N:bG.at_ c (fun b=>b<c.heap.size) aY [r9 aY.c,I U aY.g,O qf mf df,O qt mt dt,O qs ms ds,I U aY.h]:=nI (bG.N (fun b l=>l.2) f) bR;obtain⟨c9,c0,b0⟩:=zz3 (fun x:Wb c=>nI N x.2) E cV;obtain⟨a2,rfl,d⟩:∃a,p2=A a∧∀(i:Nat) x,(bV cH)[i]?=A x→c.cell? (a.add i)=A (I r8 (x.toNat:Int)):=by
  obtain⟨p,cap,e1,e2,e3⟩:=cW;injection e1 with e1 _ _
  subst e1
  cases p2 with
  | none=>have:=o4 List.length (e2 Z);rw[kz]at this;cases this
  | some a=>exact⟨a,Z,e3 a Z⟩
 obtain⟨b2,o2,i2⟩:=a2;have Q:=d 11 1 CB;have R:=d 35 1 B5;have c1:=d 0 0 (by kernel_rfl);have dd:i2=none:=by simpa [Addr.add]using World.cell?_spot c1
 subst dd;have c3:c.cell? ⟨b2,o2+11,Y⟩=A (I r8 1):=Q;have c6:c.cell? ⟨b2,o2+35,Y⟩=A (I r8 1):=R;obtain⟨⟨z0,z1,z2,z3,z4,z5⟩,_⟩:=aC cT;obtain⟨⟨u0,u1,u2,u3,u4,u5⟩,_⟩:=aC M;have eo:=fun x:Wb c=>x.h c3
 have er:=fun x:Wb c=>x.h c6
 have Z0:=fun x:Wb c=>x.h z0
 have Z1:=fun x:Wb c=>x.h z1
 have Z2:=fun x:Wb c=>x.h z2
 have Z3:=fun x:Wb c=>x.h z3
 have Z4:=fun x:Wb c=>x.h z4
 have Z5:=fun x:Wb c=>x.h z5
 have c8:c.cell? ⟨W3.heap.size,5,Y⟩=A (I U 1):=u5;have U5:=fun x:Wb c=>x.h c8
 clear bB f bR cT F cV cW M N E d c1 Q R c3 c6 z0 z1 z2 z3 z4 z5 u0 u1 u2 u3 u4 u5 c8 HG cC bt bq;go_upto_region 6 with fail
 change Code.wp _ _ _ _ (W8.alloc (r7 #[r9 aY.c,I U aY.g,O qf mf df,O qt mt dt,O qs ms ds,I U aY.h] 28));rw[←c0.o];clear c0;refine RE.z (by kernel_rfl) 50 [33,34,46,47] [33,34,46,47] (fun _ V=>∃x:Wb c,V=x.1) (fun V V'=>Kr V V') AwV AwP (by kernel_rfl) (fun i h1 h2=>by rw[h1]at h2;cases h2) (fun _ _ _ _ h _ hR=>h.K hR) ⟨⟨c.drew,(JO _ _).drew⟩,Z⟩ ?_;simp only[JY,J7,JZ,J6]
 repeat (refine RE.q (fun r=>∃x:Wb c,r=x.1) (fun _ _ _ h=>h) Z Z Z ⟨⟨c.drew,(JO _ _).drew⟩,Z⟩ ?_;go_big_quiet_step (fail);refine xL ?_)
 refine RE.h Z Z ?_ (fun s=>?_)
 ·intro r _ G _;obtain⟨x,rfl⟩:=G Z;refine RE.C 15 _ _ Z (enters_of Tryz.func15 (by kernel_rfl) Z) #[] (by simp) ((pF x.1).mono ?_);rintro e U' ⟨vs,rfl,l,t⟩;obtain⟨b1,b3,b4,b5,b6,b7,b8,b9,ca,cb⟩:=gK t;subst cb;exact⟨_,Z,[O b1 b5 b8,O b3 b6 b9,O b4 b7 ca],Z,⟨⟨U',x.2.trans (l.mono x.2.size)⟩,Z⟩,l,AwP.of (by decide) t⟩
 simp only[Nat.reduceAdd,I2,Act.put,JP,JW,JV];refine RE.h Z Z ?_ (fun et=>?_)
 ·intro r _ G hE;obtain⟨x,rfl⟩:=G Z;have dg:AwP 33 x.1 s:=hE 33 s (by kernel_rfl) Z;refine RE.C 8 _ _ Z (enters_of Tryz.func8 (by kernel_rfl) Z) #[wP #[r9 aY.c,I U aY.g,s.getD 0 xk,s.getD 1 xk,s.getD 2 xk,I U aY.h]] (by simp[Act.eval]) ((j.o c b0.o x.1 aY _ x.2 (dg.full (by decide)) Ax).mono ?_);rintro e U' ⟨rfl,l⟩;exact⟨_,Z,[],by rw[show jH cd aY=tT from Ak];rfl,⟨⟨U',x.2.trans (l.mono x.2.size)⟩,Z⟩,l,AwP.none (by decide)⟩
 simp only[Nat.reduceAdd,Ji,Act.put,JP,JW,JV]
 repeat (refine RE.q (fun r=>∃x:Wb c,r=x.1) (fun _ _ _ h=>h) Z Z Z ⟨⟨c.drew,(JO _ _).drew⟩,Z⟩ ?_;go_big_quiet_step (fail);refine xL ?_)
 refine RE.h Z Z ?_ (fun u=>?_)
 ·intro r _ G _;obtain⟨x,rfl⟩:=G Z;refine RE.C 15 _ _ Z (enters_of Tryz.func15 (by kernel_rfl) Z) #[] (by simp) ((pF x.1).mono ?_);rintro e U' ⟨vs,rfl,l,t⟩;obtain⟨b1,b3,b4,b5,b6,b7,b8,b9,ca,cb⟩:=gK t;subst cb;exact⟨_,Z,[O b1 b5 b8,O b3 b6 b9,O b4 b7 ca],Z,⟨⟨U',x.2.trans (l.mono x.2.size)⟩,Z⟩,l,AwP.of (by decide) t⟩
 simp only[Nat.reduceAdd,Jo,Act.put,JP,JW,JV];refine RE.h Z Z ?_ (fun e0=>?_)
 ·intro r _ G hE;obtain⟨x,rfl⟩:=G Z;have dn:AwP 46 x.1 u:=hE 46 u (by kernel_rfl) Z;refine RE.C 10 _ _ Z (enters_of Tryz.func10 (by kernel_rfl) Z) #[wP #[r9 aY.c,I U aY.g,O qf mf df,O qt mt dt,O qs ms ds,I U aY.h],wP #[r9 aY.c,I U aY.g,u.getD 0 xk,u.getD 1 xk,u.getD 2 xk,I U aY.h]] (by simp[Act.eval]) ((md aY _ _ x.1 (c9.o x) (dn.full (by decide))).mono ?_);rintro e U' ⟨rfl,l⟩;exact⟨_,Z,[],Z,⟨⟨U',x.2.trans (l.mono x.2.size)⟩,Z⟩,l,AwP.none (by decide)⟩
 simp only[Nat.reduceAdd,I6,Act.put,JP,JW,JV]
 repeat (refine RE.q (fun r=>∃x:Wb c,r=x.1) (fun _ _ _ h=>h) Z Z Z ⟨⟨c.drew,(JO _ _).drew⟩,Z⟩ ?_;go_big_quiet_step (fail);refine xL ?_)
 refine RE.u ?_;intro V G _;obtain⟨x,rfl⟩:=G;go_wp2_with fail
 go_ret;exact⟨Z,b0.o.trans (x.2.mono b0.o.size)⟩
theorem Fj(m:au):(bV m).length≤szM m:=by
 have a:=jW m.a;have b:=ii (f:=fu) (z:=szT) (fun x=>by rw[lH];exact JM _) m.d;have c:=ii (f:=fc) (z:=szS) mC m.e;unfold bV szM;simp only[J2,aO,mc];omega
theorem Gw{m:au}(hw:sA m)(a:okS m=tT):lY okS (bV m)=(m,0):=by
 have h:=qk hw [] ur;rw[List.append_nil]at h;unfold lY;dsimp only;rw[h];dsimp only;rw[a];rfl
theorem CV{m:au}(hw:sA m){l:List UInt8}(a:l≠[]):lY okS (bV m++l)=(au.none,4):=by
 unfold lY;dsimp only;rw[qk hw l ur];dsimp only
 cases l with
 | nil=>exact absurd Z a
 | cons x l=>rfl
theorem Gd{m:au}(hw:sA m){k:Nat}(i:k<(bV m).length):lY okS ((bV m).take k)=(au.none,4):=by
 unfold lY;dsimp only
 by_cases a:ok2 (ei (((bV m).take k,ur),ur)).2
 ·obtain⟨_,f⟩:=G4 _ a;have b:=f ((bV m).drop k);dsimp only at b;have c:=qk hw [] ur;rw[List.append_nil]at c;rw[List.take_append_drop,c]at b;have d:=o4 (fun x=>x.2.1.1) b;dsimp only at d;have g:(bV m).drop k=[]:=(List.append_eq_nil_iff.1 d.symm).2;have e:=o4 List.length g;rw[List.length_drop]at e;simp at e;omega
 ·rw[oj];unfold ok2 at a;simp only[not_and,Bool.not_eq_false]at a
  cases h:(ei (((bV m).take k,ur),ur)).2.1.2 with
  | true=>simp
  | false=>rw[a h];rfl
theorem wB(l:List UInt8)(v:tS)(w:J)(G:Lib.HoldsBytes w v l)(q:0<l.length)(H:l.length≤1000000):vv va 11 #[v] w (fun e w'=>∃B,e=wg B∧w'.ownsRow w.heap.size 5 1 B l.length (Lib.byteCells l)∧Kr w w'):=by
 obtain⟨p,cap,rfl,f,h⟩:=G;obtain⟨a,rfl⟩:∃a,p=A a:=by
  cases p with
  | none=>rw[f Z]at q;exact absurd q (by decide)
  | some a=>exact⟨a,Z⟩
 have r:Hid (∀j u,(Lib.byteCells l)[j]?=A u→w.cell? (a.add j)=A u):=by
  intro j u C;simp only[Lib.byteCells,List.getElem?_map,o7]at C;obtain⟨y,K,rfl⟩:=C;exact h a Z j y K
 have i:Hid ((Lib.byteCells l).length=l.length):=db l;have k:Hid (w.ownsRow w.heap.size 5 1 (O Y 0 0) 0 []):=World.ownsRow_nil w w.heap.size 5 1;obtain⟨n,D⟩:=zzy (l.length);rw[D]at q H i ⊢;obtain⟨L,s,t,x,z⟩:=info_parts xO;clear f h D
 go_enter Tryz.func11,Tryz.ntmps11
 go_wp2_with (at_builtin;go_must (refine bS _ Z (.tmp 4) (.tmp 5) 29 Z w.heap.size 5 L _ 1 1 Tryz.underlying29 s t x z Z (by decide) (O Y 0 0) 0 [] Z k.o a n cap (Lib.byteCells l) Z (by rw[i.o];omega) r.o (byteCells_one _) (by unfold maxLen;omega) (by omega) (JM _) (by omega) ?_);intro v9 E b c)
 have m:Kr w E:=by
  rcases c with ⟨g,P,M,_,_⟩|⟨_,_,N⟩
  ·cases M
  ·exact N
 have d:E.ownsRow w.heap.size 5 1 v9 n (Lib.byteCells l):=by
  rw[Nat.zero_add,List.nil_append]at b;exact b
 have F:=Hd (And.intro d m);clear b d c m;go_wp2_with fail
 go_ret;exact⟨_,Z,F.o.1,F.o.2⟩
theorem EK{w:J}{a:Addr}{n cap k c2:Nat}{l:List UInt8}(h:Lib.HoldsBytes w (O (A a) n cap) l)(f:k≤l.length):Lib.HoldsBytes w (O (A a) k c2) (l.take k):=by
 obtain⟨p,c,e,_,g⟩:=h;injection e with j _ _
 refine⟨A a,c2,by rw[List.length_take,Nat.min_eq_left f],fun h=>(by cases h),fun b m i x d=>g b (by rw[←j];exact m) i x ?_⟩;rw[List.getElem?_take]at d
 split at d
 ·exact d
 ·cases d
theorem ov{w:J}{v:tS}{l:List UInt8}(h:Lib.HoldsBytes w v l):∃p c,v=O p l.length c:=by
 obtain⟨p,c,a,_⟩:=h;exact⟨p,c,a⟩
theorem wt{m:au}{vs:List tS}{W:J}(hm:bG.at_ W (fun b=>b<W.heap.size) m vs)(hl:LenM m)(l2:List UInt8)(v2:tS)(cV:Lib.HoldsBytes W v2 l2)(cW:l2.length≤maxLen)(c:Int)(ht:aI W):vv va 3 #[wP vs.toArray,v2,I U c] W (aZ tT W):=by
 have cl:=yC hm;obtain⟨pf,pt,ps,nf,nt,ns,cf,ct,cs,hC⟩:=gK hm;subst hC;obtain⟨p2,c2,fr⟩:=ov cV;obtain⟨n2,c0⟩:=zzy (l2.length);rw[c0]at fr cW;subst fr;have hY:n2≤9223372036854775807:=by unfold maxLen at cW;omega
 obtain⟨tx,fs⟩:=zzy (m.c);obtain⟨nx,ft⟩:=zzy (m.g);obtain⟨mn,fv⟩:=zzy (m.h);rw[fs,ft,fv]at hm ⊢;obtain⟨X,b6⟩:=zzx (W.alloc (r7 #[r9 tx,I U nx,O pf nf cf,O pt nt ct,O ps ns cs,I U mn] 28));have d:Kr W X:=by rw[b6];exact (JO _ W).alloc (JM _) _
 have c1:X.heap[W.heap.size]?=A (r7 #[r9 tx,I U nx,O pf nf cf,O pt nt ct,O ps ns cs,I U mn] 28 (0,0)):=by rw[b6];exact oc W _
 have HT:=Hd (fun V (f:Kr X V)=>ht.C (d.trans (f.mono d.size)));have HM:=Hd (fun V (f:Kr X V)=>nI hm (d.trans (f.mono d.size)));have hD:=Hd (fun V (f:Kr X V)=>gJ cV (d.trans (f.mono d.size)));have HX:=Hd (fun V (f:Kr X V)=>aa f c1 (JL.1 c1).1);have HB:=Hd (fun V (f:Kr X V)=>d.trans (f.mono d.size));obtain⟨fz,fI,ad,fT,HA⟩:=zz5 cl hl c0 b6 (zN X (ht.C d));have gg:=Hd (fun V (f:Kr X V) hA (m:au) vs (hU:Kr V hA) hm (hz:szM m≤140737488355328)=>mS (m:=m) (vs:=vs) (w:=hA) hm (ht.C ((d.trans (f.mono d.size)).trans (hU.mono (d.trans (f.mono d.size)).size))) hz)
 have a1:=Hd (fun V (f:Kr X V) (l:List UInt8) v (hv:Lib.HoldsBytes V v l) (hn:l.length≤1000000)=>pU (P:=fun m=>szM m≤140737488355328) (okF:=okS) hv (by omega) (fun hA m vs hU hm hP=>gg.o V f hA m vs hU hm hP) (fun h1 h2=>by
  have:=sG (s:=((l,ur),ur)) ⟨h1,h2⟩;dsimp only at this
  omega))
 clear hm ht cV cW cl hl c0 fs ft fv d c1 b6
 go_enter Tryz.func3,Tryz.ntmps3
 go_upto_region 1 with fail
 change Code.wp _ _ _ _ (W.alloc (r7 #[r9 tx,I U nx,O pf nf cf,O pt nt ct,O ps ns cs,I U mn] 28));rw[←fT.o];clear fT;go_wp2_with fail
 refine HA.o.mono ?_;rintro e W2 ⟨rfl,b7⟩;have gD:=Hd b7;obtain⟨⟨x0,x1,x2,x3,x4,x5⟩,_⟩:=aC (HX.o W2 b7);have c3:=Hd (DN (HM.o W2 b7) fI.o);obtain⟨gr,c5⟩:=zzy (nF m);rw[c5]at c3;have hE:=Hd c5;clear b7 HA c5;go_wp2_with fail
 refine c3.o.mono ?_;rintro e W3 ⟨rfl,gE⟩;have c6:=gD.o.trans (gE.mono gD.o.size);have af:=Hd c6;clear x0 x1 x2 x3 x4 x5 c3;obtain⟨⟨x0,x1,x2,x3,x4,x5⟩,_⟩:=aC (HX.o W3 c6);clear gE c6
 cases gr with
 | true =>
  have H0:=Hd (HB.o W3 af.o);go_wp2_with fail
  go_ret;exact⟨Z,H0.o⟩
 | false =>
 have a6:=Hd (GV hE.o)
 by_cases h7:(3000:Int)<n2
 ·have H0:=Hd (HB.o W3 af.o);go_wp2_with fail
  go_ret;exact⟨Z,H0.o⟩
 have ba:=Hd (mq (okF:=okS) (HM.o W3 af.o) a6.o.sz (fun V m vs f hm hP=>gg.o W3 af.o V m vs f hm hP));obtain⟨ok,c7⟩:=zzy (okS m);have gF:it okS m=if ok=tT then (bV m,0) else ([],4):=by unfold it;rw[c7]
 obtain⟨c8,gH⟩:=zz2 c7 gF;clear c7 gF;go_wp2_with fail
 refine ba.o.mono ?_;rintro e W4 ⟨c9,v4,rfl,q,H,_⟩;have aq:=af.o.trans (c9.mono af.o.size);obtain⟨b8,b9⟩:=zz2 aq (mS (HM.o W4 aq) (HT.o W4 aq) a6.o.sz);have bb:jH cd m=ok:=c8.o;rw[bb]at b9;clear x0 x1 x2 x3 x4 x5;obtain⟨⟨x0,x1,x2,x3,x4,x5⟩,_⟩:=aC (HX.o W4 aq)
 cases ok with
 | false =>
  have hp:=gH.o;rw[oe (by decide)]at hp;rw[hp]at q ⊢;dsimp only at q ⊢;obtain⟨p4,c4,K⟩:=ov q;have K:v4=O p4 0 c4:=K;clear H;subst K;clear c9 aq q bb hp ba;go_wp2_with fail
  refine b9.o.mono ?_;rintro e W5 ⟨rfl,L⟩;have H0:=Hd (HB.o W5 (b8.o.trans (L.mono b8.o.size)));clear L x0 x1 x2 x3 x4 x5;go_wp2_with fail
  go_ret;exact⟨Z,H0.o⟩
 | true =>
 have hp:=gH.o;rw[oj Z]at hp;rw[hp]at q ⊢;dsimp only at q ⊢;have hW:=Jr fz.o a6.o c8.o;have gL:(bV m).length≤900000:=by
  have h1:=Fj m;have h2:=D8 m;have h3:=a6.o.c;have h4:=a6.o.parts;omega
 have bd:0<(bV m).length:=by
  unfold bV;simp only[J2,aO,mc];omega
 obtain⟨p4,c4,K⟩:=ov q;have bg:=Hd (fun V (f:Kr W4 V)=>gJ q f);obtain⟨h8,gM,gN⟩:=zz3 hW (Gw hW c8.o) (fun (l:List UInt8) (h:l≠[])=>CV hW h);have dd:=Hd (fun k (h:k<(bV m).length)=>Gd hW h);obtain⟨B,gO⟩:=zzy (bV m);rw[gO]at bg gM gN dd K gL bd;obtain⟨C,dg⟩:=zzy (B.length);rw[dg]at dd K gL bd;have r:=Hd dg;subst K;have h9:C≤c4:=by
  obtain⟨_,_,_,e,h⟩:=H;injection e with _ e1 e2
  omega
 clear c9 aq q bb hp ba hW gO dg H;go_wp2_with fail
 refine b9.o.mono ?_;rintro e W5 ⟨rfl,L⟩;have dn:=b8.o.trans (L.mono b8.o.size);obtain⟨gS,gT,dv⟩:=zz3 dn L (a1.o W5 dn B _ (bg.o W5 L) (by rw[r.o];omega));rw[gM.o]at dv;clear x0 x1 x2 x3 x4 x5 L dn b9;go_wp2_with fail
 refine dv.o.mono ?_;rintro e W6 ⟨eg,ih,rfl,S⟩;dsimp only at S ⊢;obtain⟨qf,qt,qs,mf,mt,ms,df,dt,ds,hc⟩:=gK S;subst hc;obtain⟨W7,ca⟩:=zzx (W6.alloc (r7 #[r9 m.c,I U m.g,O qf mf df,O qt mt dt,O qs ms ds,I U m.h] 28));have en:Kr W6 W7:=by rw[ca];exact (JO _ W6).alloc (JM _) _
 have hd:W7.heap[W6.heap.size]?=A (r7 #[r9 m.c,I U m.g,O qf mf df,O qt mt dt,O qs ms ds,I U m.h] 28 (0,0)):=by rw[ca];exact oc W6 _
 have eo:=eg.trans (en.mono eg.size);have cb:=gS.o.trans (eo.mono gS.o.size);obtain⟨hf,hh⟩:=zz2 (gT.o.trans (eo.mono gT.o.size)) cb;have cm:=nI (bG.N (fun b hb=>hb.2) S) en;obtain⟨cn,ho⟩:=zz2 (md m _ _ W7 (HM.o W7 cb) cm) ca;obtain⟨⟨x0,x1,x2,x3,x4,x5⟩,_⟩:=aC (HX.o W7 cb);obtain⟨⟨z0,z1,z2,z3,z4,z5⟩,_⟩:=aC hd;clear eg S en hd eo cb cm ca dv;go_upto_region 9 with fail
 change Code.wp _ _ _ _ (W6.alloc (r7 #[r9 m.c,I U m.g,O qf mf df,O qt mt dt,O qs ms ds,I U m.h] 28));rw[←ho.o];clear ho;have hq:¬(C:Int)=0:=by omega
 have h0:((C:Int)==0)=false:=by simpa using hq
 go_wp2_with fail
 refine cn.o.mono ?_;rintro e W8 ⟨rfl,er⟩;obtain⟨M,bk⟩:=zz2 (hf.o.trans (er.mono hf.o.size)) (hh.o.trans (er.mono hh.o.size));clear x0 x1 x2 x3 x4 x5 z0 z1 z2 z3 z4 z5 er cn;have cq:Hid (∀V,Kr X V→Kr W4 V→∀(k:Nat) cc,k<C→∀a,p4=A a→vv va 9 #[O (A a) k cc] V (fun e V'=>Kr V V'∧∃vs,e=wg (Value.tuple #[wP vs.toArray,I U 4])∧bG.at_ V' (aW V V') au.none vs)):=by
  intro V f h4 k cc hk a ha;have hv:=bg.o V h4;rw[ha]at hv;have:=a1.o V f (B.take k) (O (A a) k cc) (EK hv (by rw[r.o];omega)) (by rw[List.length_take,r.o];omega);rw[dd.o k hk]at this;exact this
 obtain⟨a4,rfl⟩:∃a,p4=A a:=by
  obtain⟨p,cc,e1,e2,_⟩:=bg.o W8 M.o;injection e1 with e1 _ _
  subst e1
  cases p4 with
  | none=>have:=o4 List.length (e2 Z);rw[r.o]at this;simp at this;omega
  | some a=>exact⟨a,Z⟩
 by_cases hz:n2=0
 ·subst hz;have D:=Hd (AD c (C:Int) W8 (by omega) (by omega));have E:=xW c (C:Int) (by omega);obtain⟨k,N⟩:∃k:Nat,jn c (C:Int)=(k:Int):=⟨(jn c (C:Int)).toNat,by omega⟩;rw[N]at E;have e0:k<C:=by omega
  have hI:(k:Int)≤c4:=by omega
  have hJ:(0:Int)≤k:=by omega
  have bl:Hid (vv va 12 #[I U c,I U (C:Int)] W8 (fun e w'=>e=wg (I U (k:Int))∧Kr W8 w')):=by
   have:=D.o;unfold B9 at this;rw[N]at this;exact this
  clear D E N;go_wp2_with fail
  refine bl.o.mono ?_;rintro e Wp ⟨rfl,Q⟩;have R:=bk.o.trans (Q.mono bk.o.size);have bm:=M.o.trans (Q.mono M.o.size);obtain⟨t,bn⟩:=zz2 (cq.o Wp R bm k c4 e0 a4 Z) R;clear Q R bm bl;go_wp2_with fail
  refine t.o.mono ?_;rintro e Wq ⟨bq,hK,rfl,F⟩;obtain⟨gf,gt,gs,lf,lt,ls,ef,et,es,bt⟩:=gK F;subst bt;have bB:=Hd (HB.o _ (bn.o.trans (bq.mono bn.o.size)));clear bq F t;go_wp2_with fail
  go_ret;exact⟨Z,bB.o.alloc (bB.o.size) _⟩
 ·have ix:(0:Int)<n2:=by omega
  have t:=Hd (wB B _ W8 (bg.o W8 M.o) (by rw[r.o];exact bd) (by rw[r.o];omega));rw[r.o]at t;go_wp2_with fail
  refine t.o.mono ?_;rintro e W9 ⟨v9,rfl,bR,ch⟩;have e6:=bk.o.trans (ch.mono bk.o.size);have hr:=M.o.trans (ch.mono M.o.size);obtain⟨p,cc,e1,e2,e3⟩:=hD.o W9 e6;rw[ad.o]at e1;injection e1 with e1 e4 e5
  subst e1;clear e4 e5;obtain⟨a2,rfl⟩:∃a,p2=A a:=by
   cases p2 with
   | none=>have:=o4 List.length (e2 Z);rw[ad.o]at this;simp at this;omega
   | some a=>exact⟨a,Z⟩
  have hL:Hid (∀j u,(Lib.byteCells l2)[j]?=A u→W9.cell? (a2.add j)=A u):=by
   intro j u hj;simp only[Lib.byteCells,List.getElem?_map,o7]at hj;obtain⟨y,hy,rfl⟩:=hj;exact e3 a2 Z j y hy
  have b0:=Hd bR;have hM:Hid ((Lib.byteCells l2).length=n2):=by show _=_;rw[db];exact ad.o
  obtain⟨hN,hO⟩:=zz2 e6 hr;have e7:Hid (W8.heap.size≤W9.heap.size):=ch.size;obtain⟨ti,hQ,hR,hS,hT⟩:=info_parts xO;obtain⟨s9,hX⟩:=zzx (W8.heap.size);have h5:=hX;clear e2 e3 bR e6 hr ch t;go_wp2_with (at_builtin;go_must (refine bS _ Z (.tmp 66) (.tmp 67) 29 Z W8.heap.size 5 ti _ 1 1 Tryz.underlying29 hQ hR hS hT Z (by decide) v9 C (Lib.byteCells B) Z b0.o a2 n2 c2 (Lib.byteCells l2) Z (by rw[hM.o];omega) hL.o (byteCells_one _) (by unfold maxLen;omega) (by omega) e7.o (by omega) ?_);intro v10 e8 T G)
  have b1:Below W8.heap.size W9 e8:=by
   rcases G with ⟨g,cp,h1,_,h2⟩|⟨_,_,h2⟩
   ·have hg:=(aP b0.o g (by rw[h1];rfl)).1;exact⟨h2.os,h2.tape,h2.output,h2.size,fun i hi=>h2.block i (JS hi e7.o) (fun e=>by injection e with e;omega)⟩
   ·exact h2.mono e7.o
  have b2:=hN.o.trans (b1.mono bk.o.size);have cr:=hO.o.trans (b1.mono M.o.size);have z:e8.ownsRow W8.heap.size 5 1 v10 (B++l2).length (Lib.byteCells (B++l2)):=by
   rw[J2,r.o,ad.o,ic];exact T
  have hs:l2≠[]:=fun e=>by
   have:=ad.o;rw[e]at this;simp at this;omega
  have hG:=a1.o e8 b2 (B++l2) v10 (mr z) (by rw[J2,r.o,ad.o];omega);rw[gN.o l2 hs]at hG;have cu:=Hd hG;obtain⟨iA,iB,iX,hx,_⟩:=uU z;subst hx;obtain⟨cv,cy⟩:=zz2 b2 cr;clear G b1 b2 cr T z hs hG;go_wp2_with fail
  refine cu.o.mono ?_;rintro e ck ⟨b3,h6,rfl,b4⟩;obtain⟨gf,gt,gs,lf,lt,ls,ef,et,es,e9⟩:=gK b4;subst e9;obtain⟨ar,b5⟩:=zzx (ck.alloc (r7 #[r9 au.none.c,I U au.none.g,O gf lf ef,O gt lt et,O gs ls es,I U au.none.h] 28));have cA:Kr ck ar:=by rw[b5];exact (JO _ ck).alloc (JM _) _
  have fm:=b3.trans (cA.mono b3.size);obtain⟨cC,cR,cT⟩:=zz3 (cv.o.trans (fm.mono cv.o.size)) (cy.o.trans (fm.mono cy.o.size)) b5;clear b3 b4 cA fm b5 cu;go_upto_region 13 with fail
  change Code.wp _ _ _ _ (ck.alloc (r7 #[r9 au.none.c,I U au.none.g,O gf lf ef,O gt lt et,O gs ls es,I U au.none.h] 28));rw[←cT.o];clear cT;have D:=Hd (AD c (C:Int) ar (by omega) (by omega));have E:=xW c (C:Int) (by omega);obtain⟨k,N⟩:∃k:Nat,jn c (C:Int)=(k:Int):=⟨(jn c (C:Int)).toNat,by omega⟩;rw[N]at E;have e0:k<C:=by omega
  have hI:(k:Int)≤c4:=by omega
  have hJ:(0:Int)≤k:=by omega
  have bl:Hid (vv va 12 #[I U c,I U (C:Int)] ar (fun e w'=>e=wg (I U (k:Int))∧Kr ar w')):=by
   have:=D.o;unfold B9 at this;rw[N]at this;exact this
  clear D E N;go_wp2_with fail
  refine bl.o.mono ?_;rintro e Wp ⟨rfl,Q⟩;have R:=cC.o.trans (Q.mono cC.o.size);have bm:=cR.o.trans (Q.mono cR.o.size);obtain⟨t,bn⟩:=zz2 (cq.o Wp R bm k c4 e0 a4 Z) R;clear Q R bm bl;go_wp2_with fail
  refine t.o.mono ?_;rintro e Wq ⟨bq,hK,rfl,F⟩;obtain⟨gf,gt,gs,lf,lt,ls,ef,et,es,bt⟩:=gK F;subst bt;have bB:=Hd (HB.o _ (bn.o.trans (bq.mono bn.o.size)));clear bq F t;go_wp2_with fail
  go_ret;exact⟨Z,bB.o.alloc (bB.o.size) _⟩
