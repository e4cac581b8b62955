/- Machines got of bytes; by contract. Condition: image.Right by contract; at most 140737488355328 bytes. -/
import Derived.Test.YtoahnjkclckodaaGreatDoorIG
open Go renaming World→J,Value→tT,undef→wF
open Go.Value renaming string→tS,int→I,pointer→vv,tuple→y9,agg→xk,slice→O,bool→xv
open Go.IntKind renaming i64→U
open Option renaming some→A,none→Y
open Go.Obj renaming cells→r9
open Bool renaming false→va
open Or renaming inl→wD,inr→wP
namespace Go.Proofs.YtoahnjkclckodaaGreatDoor
set_option maxHeartbeats 4000000
set_option maxRecDepth 100000
open Go.RowKit
def iN(Q R B b:Nat):Prop:=b=Q∨b=R∨b=B
def yl(Q R B a b:Nat):Prop:=iN Q R B b∨b=a
theorem iZ{F G:Nat→Prop}{a b:J}(h:Chg F a b)(d:∀x,F x→G x):Chg G a b:=⟨h.os,h.a,h.c,h.u,fun x f i=>h.q x f (fun e=>i (d x e))⟩
theorem eY{w:J}{F:Nat→Prop}{vs:List tT}{m:aQ}:bG.at_ w F m vs↔m.c.size≤maxLen∧I64 m.d∧I64 m.f∧∃sf st ss,vs=[tS m.c,I U m.d,sf,st,ss,I U m.f]∧aC.h w F m.a sf∧dA.h w F m.e st∧dX.h w F m.g ss:=by
 constructor
 ·rintro ⟨i,j,rfl,⟨a1,a2,rfl,⟨rfl,a⟩,k,l,rfl,⟨rfl,b⟩,n,c2,rfl,⟨sf,rfl,d⟩,⟨st,rfl,e⟩⟩,d1,d2,rfl,⟨ss,rfl,f⟩,⟨rfl,h⟩⟩;exact⟨a,b,h,sf,st,ss,Z,d,e,f⟩
 ·rintro ⟨a,b,h,sf,st,ss,rfl,d,e,f⟩;exact⟨[_,_,sf,st],[ss,_],Z,⟨[_],_,Z,⟨Z,a⟩,[_],_,Z,⟨Z,b⟩,[sf],[st],Z,⟨sf,Z,d⟩,⟨st,Z,e⟩⟩,[ss],[_],Z,⟨ss,Z,f⟩,⟨Z,h⟩⟩
theorem qj{α:Type}{r:Rd α}{E:TypeId}{W d V e:J}{F:Nat→Prop}{xs:List α}{v:tT}(h:aw V (fun b=>aP d V b∧v.ownBlock≠A b) E r xs v)(j:∀b,v.ownBlock=A b→d.heap.size≤b)(f:Chg F V e)(hF:∀b,d.heap.size≤b→¬F b)(l:W.heap.size≤d.heap.size):r.h e (aP W e) xs v:=by
 have k:=f.u;refine (h.t (F':=fun b=>aP d V b) (fun b a=>f.q b (h.lt a) (hF b (j b a))) (fun b a o i=>(f.q b a.1.2 (hF b a.1.1)).trans i) (fun b a=>a.1)).h (fun b a=>⟨by have:=a.1;omega,FG a.2 k⟩) (fun b a=>⟨by have:=j b a;omega,FG (h.lt a) k⟩)
theorem oW{W:J}{f:Func}{t u b:Nat}{ty:TypeId}{a d c2 e c4 i x:tT}{tmps:Array tT}{R:Ending→J→Prop}(n:f.results=#[.cell t ty,.tmp u])(j:(isAgg ty).run Tryz.prog W=.ok true W)(k:(Go.sizeOf ty).run Tryz.prog W=.ok 6 W)(o:tmps.getD t wF=vv (A ⟨b,0,Y⟩))(hu:tmps.getD u wF=x)
  (h:W.heap[b]?=A (r9 #[a,d,c2,e,c4,i] ty (0,0))) (p:R (Ending.returned (y9 #[xk #[a,d,c2,e,c4,i],x])) W):bodyPost Tryz.prog f R .ret ⟨tmps,[]⟩ W:=by
 obtain⟨⟨a0,a1,a2,a3,a4,a5⟩,_⟩:=aH h;have l:tmps[t]?.getD wF=vv (A ⟨b,0,Y⟩):=by simpa using o
 have m:tmps[u]?.getD wF=x:=by simpa using hu
 refine bodyPost_ret (v:=y9 #[xk #[a,d,c2,e,c4,i],x]) ?_ Z p;simp[results,n,go_sem,l,m,j,k,a0,a1,a2,a3,a4,a5]
def lZ(okF:aQ→Bool) (l:List UInt8):aQ×Int:=
 let r:=dT ((l,va),va)
 if r.2.2||r.2.1.2||!r.2.1.1.isEmpty||!okF r.1 then (.none,4) else (r.1,0)
theorem ze(s:WSt):(ez s).1.size≤65536:=by
 have a:=count_le s;have b:(aT (bp s).1 (bp s).2).1.length≤(bp s).1:=by
  unfold aT
  split
  ·exact FR _
  ·exact List.length_take_le _ _
 show (aT (bp s).1 (bp s).2).1.toArray.size≤65536
 rw[List.size_toArray];omega
def ZM:Array Value:=#[tS ⟨#[]⟩,I U 0,O Y 0 0,O Y 0 0,O Y 0 0,I U 0]
structure pO (W0:J) (Q R g B:Nat) (s:ISt) (c:Array tT) (V:J):Prop where
 chg:Chg (iN Q R B) W0 V
 im:cX V Q R g s
 q:V.heap[B]?=A (r9 c 28 (0,0))
section
variable {W0 V V':J} {Q R g B:Nat} {s s':ISt} {c:Array tT}
theorem pO.turn(h:pO W0 Q R g B s c V)(hB:B≠Q∧B≠R)(k:cH V Q R g s' V'):pO W0 Q R g B s' c V':=
 ⟨h.chg.h ⟨k.1.os,k.1.a,k.1.c,k.1.u,fun b a d=>k.1.q b a (fun e=>d (e.elim wD fun e=>wP (wD e)))⟩,k.2,(k.1.q B (Fx.1 h.q).1 (fun e=>e.elim hB.1 hB.2)).trans h.q⟩
theorem pO.store(h:pO W0 Q R g B s c V)(hB:B≠Q∧B≠R∧B≠g)(i:Nat)(u:tT):pO W0 Q R g B s (c.setIfInBounds i u) (V.setCell ⟨B,i,Y⟩ u):=
 ⟨h.chg.h ⟨Z,Z,Z,by rw[dN];exact Fy _,fun b d a=>oF _ _ _ _ (fun e=>a (wP (wP e)))⟩,h.im.set hB.1 hB.2.1 hB.2.2 i u,heap_set h.q i u⟩
end
theorem nZ{P:aQ→Prop}{okF:aQ→Bool}{l:List UInt8}{v:tT}{W:J}(hv:Lib.HoldsBytes W v l)(hl:l.length≤140737488355328)(hh:∀(V:J)(m:aQ)(vs:List tT),Gl W V→bG.at_ V (fun b=>b<V.heap.size) m vs→P m→Calls Tryz.prog 8 #[xk vs.toArray] V (fun e W2=>e=Ending.returned (xv (okF m))∧Gl V W2))
  (M:(dT ((l,va),va)).2.1.2=va→(dT ((l,va),va)).2.2=va→P (dT ((l,va),va)).1) :
  Calls Tryz.prog 9 #[v] W fun e W'=>Gl W W'∧∃vs,e=Ending.returned (y9 #[xk vs.toArray,I U (lZ okF l).2])∧bG.at_ W' (aP W W') (lZ okF l).1 vs:=by
 obtain⟨W1,bB⟩:=zzx (W.alloc (r9 ZM 28));have fv:Gl W W1:=by rw[bB];exact (Fz _ W).alloc (Fy _) _
 have hj:W1.heap[W.heap.size]?=A (r9 ZM 28 (0,0)):=by rw[bB];exact oA W _
 have hk:W1.heap.size=W.heap.size+1:=by rw[bB];simp
 have ho:Lib.HoldsBytes W1 v l:=by
  obtain⟨p,cap,e1,e2,e3⟩:=hv;refine⟨p,cap,e1,e2,fun a ha i x hx=>?_⟩;have h1:=e3 a ha i x hx;exact (fv.cell (World.block_lt_of_cell? _ _ h1)).trans h1
 obtain⟨pv,nv,cv,ih⟩:∃p n c,v=O p n c:=by obtain⟨p,cap,e,_⟩:=hv;exact⟨_,_,_,e⟩
 have hp:=Hd (tc ho hl (by omega));unfold dT at M;unfold lZ dT;dsimp only at M ⊢;obtain⟨⟨tx,s1⟩,h1⟩:∃x,ez (l,va)=x:=⟨_,rfl⟩;have hq:tx.size≤65536:=by have:=ze (l,va);rw[h1]at this;exact this
 rw[h1]at M ⊢;dsimp only at M ⊢;have cr:I64 (bT (s1,va)).1:=gk (aT 8 s1).1;obtain⟨⟨nx,s2⟩,h2⟩:∃x,bT (s1,va)=x:=⟨_,rfl⟩;rw[h2]at cr M ⊢;dsimp only at cr M ⊢;obtain⟨⟨fs,s3⟩,h3⟩:∃x,dC f6 256 s2=x:=⟨_,rfl⟩;rw[h3]at M ⊢;dsimp only at M ⊢;obtain⟨⟨ts,s4⟩,h4⟩:∃x,dC fp 4096 s3=x:=⟨_,rfl⟩;rw[h4]at M ⊢;dsimp only at M ⊢;have cu:I64 (bT s4).1:=gk (aT 8 s4.1).1;obtain⟨⟨mn,s5⟩,h5⟩:∃x,bT s4=x:=⟨_,rfl⟩;rw[h5]at cu M ⊢;dsimp only at cu M ⊢;obtain⟨⟨se,s6⟩,h6⟩:∃x,dC dV 32 s5=x:=⟨_,rfl⟩;rw[h6]at M ⊢;dsimp only at M ⊢;obtain⟨m,hm⟩:∃m:aQ,(⟨tx,nx,fs,ts,se,mn⟩:aQ)=m:=⟨_,rfl⟩;rw[hm]at M ⊢;obtain⟨res,f⟩:∃x:aQ×Int,(if (s6.2||s6.1.2||!s6.1.1.isEmpty||!okF m)=true then (aQ.none,(4:Int)) else (m,0))=x:=⟨_,rfl⟩;rw[f];obtain⟨HT,ht,hy,hz,hA,hC,dt⟩:=zz7 (fun V Q R g (h:cX V Q R g ((l,va),va))=>by have:=qD h.r;rw[h1]at this;exact this) (fun V Q R g (h:cX V Q R g (s1,va))=>by have:=eC h;rw[h2]at this;exact this) (fun V Q R g (h:cX V Q R g s2)=>by have:=tI h 256 (by decide) (by decide);rw[h3]at this;exact this) (fun V Q R g (h:cX V Q R g s3)=>by have:=rF h 4096 (by decide) (by decide);rw[h4]at this;exact this) (fun V Q R g (h:cX V Q R g s4)=>by have:=eC h;rw[h5]at this;exact this) (fun V Q R g (h:cX V Q R g s5)=>by have:=pY h 32 (by decide) (by decide);rw[h6]at this;exact this) f;obtain⟨ix,iA,iB,iX,hD,HP,hE⟩:=zz7 hm cr cu hq hh M fv;obtain⟨jj,hG,t⟩:=zz3 hj bB hk;subst ih;unfold ZM at *;clear hv ho hl hh M h1 h2 h3 h4 h5 h6 f hm cr cu hq fv hj bB hk
 go_enter Tryz.func9,Tryz.ntmps9
 go_upto_region 1 with fail
 change Code.wp _ _ _ _ (W.alloc (r9 #[tS ⟨#[]⟩,I U 0,O Y 0 0,O Y 0 0,O Y 0 0,I U 0] 28));rw[←hG.o];clear hG;go_wp2_with fail
 refine hp.o.mono ?_;rintro e H ⟨R,g,rfl,C,hR,cy⟩;have k3:=C.size;have k0:=cy.lt;have k1:=cy.lt2;obtain⟨w3,bR⟩:=zzx (H.alloc (r9 #[vv (A ⟨R,0,Y⟩),xv va] 75));have cA:Gl H w3:=by rw[bR];exact (Fz _ H).alloc (Fy _) _
 have af:cX w3 H.heap.size R g ((l,va),va):=⟨by rw[bR];exact oA H _,cy.C cA,by omega,by omega⟩;have k4:w3.heap.size=H.heap.size+1:=by rw[bR];simp
 obtain⟨cC,j2,hI,hJ⟩:=zz4 ((hE.o.trans (C.mono hE.o.size)).trans (cA.mono (by have:=t.o;omega))) ((cA.block W.heap.size (by have:=t.o;omega)).trans (aa C jj.o (by have:=t.o;omega))) af bR;have fz:=af.z.1;have hK:=Hd (HT.o _ _ _ _ af);have k5:H.heap.size≠R:=by omega
 have k6:H.heap.size≠g:=by omega
 clear C cy cA af bR hp HT;go_upto_region 2 with fail
 change Code.wp _ _ _ _ (H.alloc (r9 #[vv (A ⟨R,0,Y⟩),xv va] 75));rw[←hJ.o];clear hJ;go_wp2_with fail
 refine hK.o.mono ?_;rintro e w4 ⟨rfl,N⟩;have N:=hI.o.rd N;obtain⟨hL,b0⟩:=zz2 (ht.o _ _ _ _ N.2) N;clear N hK ht fz;go_wp2_with fail
 refine hL.o.mono ?_;rintro e y ⟨rfl,aq⟩;obtain⟨w6,b1⟩:=zzx (y.alloc (r9 #[tS tx,I U nx,O Y 0 0,O Y 0 0,O Y 0 0,I U 0] 28));have fI:Gl y w6:=by rw[b1];exact (Fz _ y).alloc (Fy _) _
 have b2:=(b0.o.h aq).C fI;have k7:=(b0.o.h aq).1.u;have k8:w6.heap.size=y.heap.size+1:=by rw[b1];simp
 have cR:pO w6 H.heap.size R g y.heap.size s2 #[tS tx,I U nx,O Y 0 0,O Y 0 0,O Y 0 0,I U 0] w6:=⟨Chg.refl _ _,b2.2,by rw[b1];exact oA y _⟩;have hM:=(fI.block W.heap.size (by have:=t.o;omega)).trans (((b0.o.h aq).1.q W.heap.size (by have:=t.o;omega) (fun e=>by have:=t.o;rcases e with e|e<;>omega)).trans j2.o)
 obtain⟨kc,kk,ar,hN⟩:=zz4 hM cR b2 b1;have hB:y.heap.size≠H.heap.size∧y.heap.size≠R∧y.heap.size≠g:=⟨by omega,by omega,by omega⟩;have d:=Hd hB;have HF:Hid (∀b,w6.heap.size≤b→¬yl H.heap.size R y.heap.size W.heap.size b):=fun b S e=>by
  have:=t.o;rcases e with (e|e|e)|e<;>omega
 have dv:=Hd (hy.o _ _ _ _ cR.im);have fz:=cR.im.z.1;clear aq fI b2 cR hM b1 hL hy hB;go_upto_region 3 with fail
 change Code.wp _ _ _ _ (y.alloc (r9 #[tS tx,I U nx,O Y 0 0,O Y 0 0,O Y 0 0,I U 0] 28));rw[←hN.o];clear hN;go_wp2_with fail
 refine dv.o.mono ?_;rintro e w7 ⟨vf,rfl,b3,D,T⟩;obtain⟨pf,cf,rfl⟩:=D.q;obtain⟨nf,fT⟩:=zzy (fs.length);dsimp only at b3 D;rw[fT]at D T ⊢;have gf:=kk.o.turn ⟨d.o.1,d.o.2.1⟩ b3;obtain⟨⟨_,_,e2,_⟩,_,_,f2,_⟩:=aH gf.q;have cT:=gf.store d.o 2 (O pf nf cf);obtain⟨w8,cV⟩:=zzx (w7.setCell ⟨y.heap.size,2,Y⟩ (O pf nf cf));rw[←cV]at cT;have eg:Chg (iN H.heap.size R y.heap.size) w7 w8:=by rw[cV];exact⟨Z,Z,Z,by rw[dN];exact Fy _,fun b S X=>oF _ _ _ _ (fun e=>X (wP (wP e)))⟩
 obtain⟨hO,b4,gg,hQ,hS,k9,en⟩:=zz7 eg D T cT cV fT (hz.o _ _ _ _ cT.im);clear b3 D T gf cT cV dv hz eg fT fz;go_upto_region 4 with fail
 rw[←hS.o];clear hS e2 f2;go_wp2_with fail
 refine en.o.mono ?_;rintro e w9 ⟨vt,rfl,z,E,ad⟩;obtain⟨pt,ct,rfl⟩:=E.q;obtain⟨nt,gD⟩:=zzy (ts.length);dsimp only at z E;rw[gD]at E ad ⊢;have gE:=hQ.o.turn ⟨d.o.1,d.o.2.1⟩ z;have eo:Chg (iN H.heap.size R y.heap.size) w8 w9:=⟨z.1.os,z.1.a,z.1.c,z.1.u,fun b S X=>z.1.q b S (fun e=>X (e.elim wD fun e=>wP (wD e)))⟩;obtain⟨⟨_,_,_,e3,_⟩,_,_,_,f3,_⟩:=aH gE.q;have a1:=gE.store d.o 3 (O pt nt ct);obtain⟨cW,a6⟩:=zzx (w9.setCell ⟨y.heap.size,3,Y⟩ (O pt nt ct));rw[←a6]at a1;have b5:Chg (iN H.heap.size R y.heap.size) w9 cW:=by rw[a6];exact⟨Z,Z,Z,by rw[dN];exact Fy _,fun b S X=>oF _ _ _ _ (fun e=>X (wP (wP e)))⟩
 obtain⟨hT,gF,b6,gH,hW,er,la⟩:=zz7 eo b5 E ad a1 a6 gD;have et:=Hd (hA.o _ _ _ _ a1.im);clear z E ad gE a1 a6 en hA eo b5 gD;go_upto_region 5 with fail
 rw[←er.o];clear er e3 f3;go_wp2_with fail
 refine et.o.mono ?_;rintro e gL ⟨rfl,u⟩;have b7:=hW.o.turn ⟨d.o.1,d.o.2.1⟩ u;have b8:Chg (iN H.heap.size R y.heap.size) cW gL:=⟨u.1.os,u.1.a,u.1.c,u.1.u,fun b S X=>u.1.q b S (fun e=>X (e.elim wD fun e=>wP (wD e)))⟩;obtain⟨⟨_,_,_,_,_,e5⟩,_,_,_,_,_,f5⟩:=aH b7.q;have ba:=b7.store d.o 5 (I U mn);obtain⟨c6,bb⟩:=zzx (gL.setCell ⟨y.heap.size,5,Y⟩ (I U mn));rw[←bb]at ba;have b9:Chg (iN H.heap.size R y.heap.size) gL c6:=by rw[bb];exact⟨Z,Z,Z,by rw[dN];exact Fy _,fun b S X=>oF _ _ _ _ (fun e=>X (wP (wP e)))⟩
 obtain⟨gM,e6,e7,ca⟩:=zz4 (b8.h b9) ba bb (hC.o _ _ _ _ ba.im);clear u b7 ba bb et hC b8 b9;go_upto_region 6 with fail
 rw[←e7.o];clear e7 e5 f5;go_wp2_with fail
 refine ca.o.mono ?_;rintro e gN ⟨vs,rfl,j,w,L⟩;obtain⟨ps,cs,rfl⟩:=w.q;obtain⟨ns,kn⟩:=zzy (se.length);dsimp only at j w;rw[kn]at w L ⊢;have cb:=e6.o.turn ⟨d.o.1,d.o.2.1⟩ j;have cc:Chg (iN H.heap.size R y.heap.size) c6 gN:=⟨j.1.os,j.1.a,j.1.c,j.1.u,fun b S X=>j.1.q b S (fun e=>X (e.elim wD fun e=>wP (wD e)))⟩;obtain⟨⟨_,_,_,_,e4,_⟩,_,_,_,_,f4,_⟩:=aH cb.q;have k:=cb.store d.o 4 (O ps ns cs);obtain⟨q,bd⟩:=zzx (gN.setCell ⟨y.heap.size,4,Y⟩ (O ps ns cs));rw[←bd]at k;have ch:Chg (iN H.heap.size R y.heap.size) gN q:=by rw[bd];exact⟨Z,Z,Z,by rw[dN];exact Fy _,fun b S X=>oF _ _ _ _ (fun e=>X (wP (wP e)))⟩
 have K:q.heap[W.heap.size]?=A (r9 #[tS ⟨#[]⟩,I U 0,O Y 0 0,O Y 0 0,O Y 0 0,I U 0] 28 (0,0)):=
  (k.chg.q W.heap.size (by have:=t.o;omega) (fun e=>by have:=t.o;rcases e with e|e|e<;>omega)).trans kc.o
 have e8:q.heap[y.heap.size]?=A (r9 #[tS tx,I U nx,O pf nf cf,O pt nt ct,O ps ns cs,I U mn] 28 (0,0)):=k.q;have k2:=k.chg.u;have ck:Gl W q:=by
  have h1:Chg (fun b=>W.heap.size≤b) W q:=⟨k.chg.os.trans (ar.o.1.os.trans cC.o.os),k.chg.a.trans (ar.o.1.a.trans cC.o.tape),k.chg.c.trans (ar.o.1.c.trans cC.o.output),by have:=t.o;omega,fun b S _ =>
   (k.chg.q b (by have:=t.o;omega) (fun e=>by have:=t.o;rcases e with e|e|e<;>omega)).trans ((ar.o.1.q b (by have:=t.o;omega) (fun e=>by have:=t.o;rcases e with e|e<;>omega)).trans (cC.o.block b S))⟩
  exact Chg.C (Fz _ W) h1 (fun _ h=>h) (Fy _)
 have cl:∀(c8:J),Chg (fun b=>b=W.heap.size) q c8→bG.at_ c8 (aP W c8) m [tS tx,I U nx,O pf nf cf,O pt nt ct,O ps ns cs,I U mn]:=fun c8 hU=>by
  have bq:∀x,iN H.heap.size R y.heap.size x→yl H.heap.size R y.heap.size W.heap.size x:=fun x h=>wD h
  have kv:Chg (yl H.heap.size R y.heap.size W.heap.size) q c8:=iZ hU (fun x h=>wP h);have hX:=(iZ ch bq).h kv;have c9:=(iZ gF.o bq).h ((iZ gM.o bq).h ((iZ cc bq).h hX));have c7:=(iZ hO.o bq).h ((iZ hT.o bq).h c9);have hs:=t.o;have z8:=hQ.o.chg.u;have z12:=e6.o.chg.u;rw[←ix.o];have h7:=b4.o;have h9:=b6.o;exact eY.2 ⟨FH iX.o (by decide),iA.o,iB.o,_,_,_,Z,qj b4.o gg.o c7 HF.o (by omega),qj b6.o gH.o c9 (fun b S=>HF.o b (by omega)) (by omega),qj w L hX (fun b S=>HF.o b (by omega)) (by omega)⟩
 obtain⟨gO,hY,cm,e9,fm,fr,gS⟩:=zz7 cl k e8 K bd ck (qF k.im.r);have dd:=Hd (hD.o q m _ ck (bG.D (fun b S=>S.2) (cl q (Chg.refl _ _))));clear j w L cb k e8 K bd ca cc ch ck cl hD;go_upto_region 7 with fail
 rw[←fm.o];clear fm e4 f4;obtain⟨q0,q1,_⟩:=hY.o.im.z;obtain⟨⟨e0,e1,e2,e3,e4,e5⟩,_⟩:=aH cm.o;have bk:Hid (∀(V:J),Gl q V→(V.heap[W.heap.size]?=A (r9 #[tS ⟨#[]⟩,I U 0,O Y 0 0,O Y 0 0,O Y 0 0,I U 0] 28 (0,0)))∧∀(c0 c1 c2 c3 c4 c5:tT),Gl W (jB V W.heap.size c0 c1 c2 c3 c4 c5)∧Chg (fun b=>b=W.heap.size) q (jB V W.heap.size c0 c1 c2 c3 c4 c5)):=fun V hV=>by
  have h1:=fr.o.trans (hV.mono fr.o.size);refine⟨aa hV e9.o (Fx.1 e9.o).1,fun c0 c1 c2 c3 c4 c5=>?_⟩;have hr:gU (jB V W.heap.size c0 c1 c2 c3 c4 c5) V:=(cw _ _ _).h ((cw _ _ _).h ((cw _ _ _).h ((cw _ _ _).h ((cw _ _ _).h (cw _ _ _)))));have hc:Chg (fun b=>b=W.heap.size) V (jB V W.heap.size c0 c1 c2 c3 c4 c5):=⟨hr.1,hr.2.1,hr.2.2,by rw[sW];exact Fy _,fun b S X=>rm _ _ _ _ _ _ X⟩;exact⟨Chg.C h1 hc (fun i hi=>by omega) h1.size,(Chg.t hV).h hc⟩
 have gT:Hid (∀c8:J,bG.at_ c8 (aP W c8) aQ.none [tS ⟨#[]⟩,I U 0,O Y 0 0,O Y 0 0,O Y 0 0,I U 0]):=fun c8 =>eY.2 ⟨FR _,(by decide:(-9223372036854775808:Int)≤0∧(0:Int)<9223372036854775808),(by decide:(-9223372036854775808:Int)≤0∧(0:Int)<9223372036854775808),_,_,_,Z,Rd.th,Rd.th,Rd.th⟩
 have K:=(bk.o q (Fz _ _)).1;have bl:=Hd (sk K);obtain⟨⟨z0,z1,z2,z3,z4,z5⟩,y0,y1,y2,y3,y4,y5⟩:=aH K;have ft:=Hd ((bk.o q (Fz _ _)).2);clear K
 cases C:s6.2 with
 | true =>
  have f:=dt.o;rw[C]at f q1;have F:res=(aQ.none,4):=by rw[←f];simp
  have G:=Hd F;clear f F C gS dd;go_wp2_with fail
  change bodyPost _ _ _ _ _ (jB q W.heap.size (tS ⟨#[]⟩) (I U 0) (O Y 0 0) (O Y 0 0) (O Y 0 0) (I U 0));refine oW Tryz.results9 (by simp[go_sem]) (by simp[go_sem]) Z (x:=I U 4) Z (bl.o _ _ _ _ _ _) ⟨(ft.o _ _ _ _ _ _).1,[tS ⟨#[]⟩,I U 0,O Y 0 0,O Y 0 0,O Y 0 0,I U 0],?_,?_⟩
  ·rw[G.o]
  ·rw[G.o];exact gT.o _
 | false =>
  rw[C]at q1;obtain⟨dn,bt⟩:=zzy ((!s6.1.2&&s6.1.1.isEmpty));have hd:=gS.o;rw[bt]at hd;have h0:Hid (dn=true→P m):=fun h=>by
   rw[h]at bt;simp only[FV,Bool.not_eq_true']at bt;exact HP.o bt.1 C
  have hf:=Hd hd;have f:=dt.o;have cn:(s6.2||s6.1.2||!s6.1.1.isEmpty||!okF m)=(!dn||!okF m):=by
   rw[C,←bt]
   cases s6.1.2<;>cases s6.1.1.isEmpty<;>rfl
  rw[cn]at f;have hg:=Hd f;clear f hd bt C cn gS
  cases dn with
  | false =>
   have F:res=(aQ.none,4):=by rw[←hg.o];simp
   have G:=Hd F;clear F dd;go_wp2_with fail
   refine hf.o.mono ?_;rintro e kI ⟨rfl,rfl⟩;go_wp2_with fail
   change bodyPost _ _ _ _ _ (jB q W.heap.size (tS ⟨#[]⟩) (I U 0) (O Y 0 0) (O Y 0 0) (O Y 0 0) (I U 0));refine oW Tryz.results9 (by simp[go_sem]) (by simp[go_sem]) Z (x:=I U 4) Z (bl.o _ _ _ _ _ _) ⟨(ft.o _ _ _ _ _ _).1,[tS ⟨#[]⟩,I U 0,O Y 0 0,O Y 0 0,O Y 0 0,I U 0],?_,?_⟩
   ·rw[G.o]
   ·rw[G.o];exact gT.o _
  | true =>
   have h8:=Hd (dd.o (h0.o Z));clear dd h0;go_wp2_with fail
   refine hf.o.mono ?_;rintro e kI ⟨rfl,rfl⟩;go_wp2_with fail
   refine h8.o.mono ?_;rintro e dg ⟨rfl,bm⟩;have cp:=(bk.o dg bm).1;obtain⟨bn,cq⟩:=zz2 (sk cp) ((bk.o dg bm).2);clear z0 z1 z2 z3 z4 z5 y0 y1 y2 y3 y4 y5 e0 e1 e2 e3 e4 e5 q0 q1;obtain⟨⟨z0,z1,z2,z3,z4,z5⟩,y0,y1,y2,y3,y4,y5⟩:=aH cp;obtain⟨⟨e0,e1,e2,e3,e4,e5⟩,_⟩:=aH (aa bm cm.o (Fx.1 cm.o).1);clear cp bm h8 hf
   cases ds:okF m with
   | false =>
    have F:res=(aQ.none,4):=by rw[←hg.o,ds];simp
    have G:=Hd F;clear F ds;go_wp2_with fail
    change bodyPost _ _ _ _ _ (jB dg W.heap.size (tS ⟨#[]⟩) (I U 0) (O Y 0 0) (O Y 0 0) (O Y 0 0) (I U 0));refine oW Tryz.results9 (by simp[go_sem]) (by simp[go_sem]) Z (x:=I U 4) Z (bn.o _ _ _ _ _ _) ⟨(cq.o _ _ _ _ _ _).1,[tS ⟨#[]⟩,I U 0,O Y 0 0,O Y 0 0,O Y 0 0,I U 0],?_,?_⟩
    ·rw[G.o]
    ·rw[G.o];exact gT.o _
   | true =>
    have F:res=(m,0):=by rw[←hg.o,ds];simp
    have G:=Hd F;clear F ds;go_wp2_with fail
    change bodyPost _ _ _ _ _ (jB dg W.heap.size (tS tx) (I U nx) (O pf nf cf) (O pt nt ct) (O ps ns cs) (I U mn));refine oW Tryz.results9 (by simp[go_sem]) (by simp[go_sem]) Z (x:=I U 0) Z (bn.o _ _ _ _ _ _) ⟨(cq.o _ _ _ _ _ _).1,[tS tx,I U nx,O pf nf cf,O pt nt ct,O ps ns cs,I U mn],?_,?_⟩
    ·rw[G.o]
    ·rw[G.o];exact gO.o _ (cq.o _ _ _ _ _ _).2
