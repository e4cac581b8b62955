/- Machines got of bytes; by contract. Condition: image.Right by contract; at most 140737488355328 bytes. -/
import Derived.Test.YtoahnjkclckodaaGreatDoorIF
open Go renaming World→J,Value→tS,undef→xk
open Go.Value renaming string→r9,int→I,pointer→vo,tuple→y9,agg→wP,slice→O,bool→xt
open Go.IntKind renaming i64→U
open Option renaming some→A,none→Y
open Go.Obj renaming cells→r7
open Bool renaming false→ur
open Or renaming inl→wD,inr→wF
namespace Go.Proofs.YtoahnjkclckodaaGreatDoor
set_option maxHeartbeats 4000000
set_option maxRecDepth 100000
open Go.RowKit
def ji(Q R B b:Nat):Prop:=b=Q∨b=R∨b=B
def Bd(Q R B a b:Nat):Prop:=ji Q R B b∨b=a
theorem ju{F G:Nat→Prop}{a b:J}(h:Chg F a b)(d:∀x,F x→G x):Chg G a b:=⟨h.os,h.a,h.c,h.z,fun x f i=>h.q x f (fun e=>i (d x e))⟩
theorem fC{w:J}{F:Nat→Prop}{vs:List tS}{m:au}:bG.at_ w F m vs↔m.c.size≤maxLen∧I64 m.g∧I64 m.h∧∃sf st ss,vs=[r9 m.c,I U m.g,sf,st,ss,I U m.h]∧aG.h w F m.a sf∧dx.h w F m.d st∧ea.h w F m.e ss:=by
 constructor
 ·rintro ⟨i,j,rfl,⟨a1,a2,rfl,⟨rfl,a⟩,k,l,rfl,⟨rfl,b⟩,n,c2,rfl,⟨sf,rfl,d⟩,⟨st,rfl,e⟩⟩,d1,d2,rfl,⟨ss,rfl,f⟩,⟨rfl,h⟩⟩;exact⟨a,b,h,sf,st,ss,Z,d,e,f⟩
 ·rintro ⟨a,b,h,sf,st,ss,rfl,d,e,f⟩;exact⟨[_,_,sf,st],[ss,_],Z,⟨[_],_,Z,⟨Z,a⟩,[_],_,Z,⟨Z,b⟩,[sf],[st],Z,⟨sf,Z,d⟩,⟨st,Z,e⟩⟩,[ss],[_],Z,⟨ss,Z,f⟩,⟨Z,h⟩⟩
theorem rY{α:Type}{r:Rd α}{E:TypeId}{W d V e:J}{F:Nat→Prop}{xs:List α}{v:tS}(h:aA V (fun b=>aW d V b∧v.ownBlock≠A b) E r xs v)(j:∀b,v.ownBlock=A b→d.heap.size≤b)(f:Chg F V e)(hF:∀b,d.heap.size≤b→¬F b)(l:W.heap.size≤d.heap.size):r.h e (aW W e) xs v:=by
 have k:=f.z;refine (h.K (F':=fun b=>aW d V b) (fun b a=>f.q b (h.lt a) (hF b (j b a))) (fun b a o i=>(f.q b a.1.2 (hF b a.1.1)).trans i) (fun b a=>a.1)).h (fun b a=>⟨by have:=a.1;omega,JS a.2 k⟩) (fun b a=>⟨by have:=j b a;omega,JS (h.lt a) k⟩)
theorem qO{W:J}{f:Func}{t u b:Nat}{ty:TypeId}{a d c2 e c4 i x:tS}{tmps:Array tS}{R:Ending→J→Prop}(n:f.results=#[.cell t ty,.tmp u])(j:(isAgg ty).run Tryz.prog W=.ok true W)(k:(Go.sizeOf ty).run Tryz.prog W=.ok 6 W)(o:tmps.getD t xk=vo (A ⟨b,0,Y⟩))(hu:tmps.getD u xk=x)
  (h:W.heap[b]?=A (r7 #[a,d,c2,e,c4,i] ty (0,0))) (p:R (Ending.returned (y9 #[wP #[a,d,c2,e,c4,i],x])) W):bodyPost Tryz.prog f R .ret ⟨tmps,[]⟩ W:=by
 obtain⟨⟨a0,a1,a2,a3,a4,a5⟩,_⟩:=aC h;have l:tmps[t]?.getD xk=vo (A ⟨b,0,Y⟩):=by simpa using o
 have m:tmps[u]?.getD xk=x:=by simpa using hu
 refine bodyPost_ret (v:=y9 #[wP #[a,d,c2,e,c4,i],x]) ?_ Z p;simp[results,n,go_sem,l,m,j,k,a0,a1,a2,a3,a4,a5]
def lY(okF:au→Bool) (l:List UInt8):au×Int:=
 let r:=ei ((l,ur),ur)
 if r.2.2||r.2.1.2||!r.2.1.1.isEmpty||!okF r.1 then (.none,4) else (r.1,0)
theorem Ca(s:WSt):(dO s).1.size≤65536:=by
 have a:=count_le s;have b:(aT (bf s).1 (bf s).2).1.length≤(bf s).1:=by
  unfold aT
  split
  ·exact J0 _
  ·exact List.length_take_le _ _
 show (aT (bf s).1 (bf s).2).1.toArray.size≤65536
 rw[List.size_toArray];omega
def ZM:Array Value:=#[r9 ⟨#[]⟩,I U 0,O Y 0 0,O Y 0 0,O Y 0 0,I U 0]
structure rF (W0:J) (Q R g B:Nat) (s:ISt) (c:Array tS) (V:J):Prop where
 chg:Chg (ji Q R B) W0 V
 im:dq V Q R g s
 q:V.heap[B]?=A (r7 c 28 (0,0))
section
variable {W0 V V':J} {Q R g B:Nat} {s s':ISt} {c:Array tS}
theorem rF.turn(h:rF W0 Q R g B s c V)(hB:B≠Q∧B≠R)(k:cZ V Q R g s' V'):rF W0 Q R g B s' c V':=
 ⟨h.chg.h ⟨k.1.os,k.1.a,k.1.c,k.1.z,fun b a d=>k.1.q b a (fun e=>d (e.elim wD fun e=>wF (wD e)))⟩,k.2,(k.1.q B (JL.1 h.q).1 (fun e=>e.elim hB.1 hB.2)).trans h.q⟩
theorem rF.store(h:rF W0 Q R g B s c V)(hB:B≠Q∧B≠R∧B≠g)(i:Nat)(u:tS):rF W0 Q R g B s (c.setIfInBounds i u) (V.setCell ⟨B,i,Y⟩ u):=
 ⟨h.chg.h ⟨Z,Z,Z,by rw[d6];exact JM _,fun b d a=>oA _ _ _ _ (fun e=>a (wF (wF e)))⟩,h.im.set hB.1 hB.2.1 hB.2.2 i u,heap_set h.q i u⟩
end
theorem pU{P:au→Prop}{okF:au→Bool}{l:List UInt8}{v:tS}{W:J}(hv:Lib.HoldsBytes W v l)(hl:l.length≤140737488355328)(hd:∀(V:J)(m:au)(vs:List tS),Kr W V→bG.at_ V (fun b=>b<V.heap.size) m vs→P m→Calls Tryz.prog 8 #[wP vs.toArray] V (fun e W2=>e=Ending.returned (xt (okF m))∧Kr V W2))
  (M:(ei ((l,ur),ur)).2.1.2=ur→(ei ((l,ur),ur)).2.2=ur→P (ei ((l,ur),ur)).1) :
  Calls Tryz.prog 9 #[v] W fun e W'=>Kr W W'∧∃vs,e=Ending.returned (y9 #[wP vs.toArray,I U (lY okF l).2])∧bG.at_ W' (aW W W') (lY okF l).1 vs:=by
 obtain⟨W1,bt⟩:=zzx (W.alloc (r7 ZM 28));have fr:Kr W W1:=by rw[bt];exact (JO _ W).alloc (JM _) _
 have hf:W1.heap[W.heap.size]?=A (r7 ZM 28 (0,0)):=by rw[bt];exact oc W _
 have hg:W1.heap.size=W.heap.size+1:=by rw[bt];simp
 have hh:Lib.HoldsBytes W1 v l:=by
  obtain⟨p,cap,e1,e2,e3⟩:=hv;refine⟨p,cap,e1,e2,fun a ha i x hx=>?_⟩;have h1:=e3 a ha i x hx;exact (fr.cell (World.block_lt_of_cell? _ _ h1)).trans h1
 obtain⟨pv,nv,cv,hY⟩:∃p n c,v=O p n c:=by obtain⟨p,cap,e,_⟩:=hv;exact⟨_,_,_,e⟩
 have hj:=Hd (vH hh hl (by omega));unfold ei at M;unfold lY ei;dsimp only at M ⊢;obtain⟨⟨tx,s1⟩,h1⟩:∃x,dO (l,ur)=x:=⟨_,rfl⟩;have hk:tx.size≤65536:=by have:=Ca (l,ur);rw[h1]at this;exact this
 rw[h1]at M ⊢;dsimp only at M ⊢;have cq:I64 (bL (s1,ur)).1:=gu (aT 8 s1).1;obtain⟨⟨nx,s2⟩,h2⟩:∃x,bL (s1,ur)=x:=⟨_,rfl⟩;rw[h2]at cq M ⊢;dsimp only at cq M ⊢;obtain⟨⟨fs,s3⟩,h3⟩:∃x,da fl 256 s2=x:=⟨_,rfl⟩;rw[h3]at M ⊢;dsimp only at M ⊢;obtain⟨⟨ts,s4⟩,h4⟩:∃x,da eD 4096 s3=x:=⟨_,rfl⟩;rw[h4]at M ⊢;dsimp only at M ⊢;have cr:I64 (bL s4).1:=gu (aT 8 s4.1).1;obtain⟨⟨mn,s5⟩,h5⟩:∃x,bL s4=x:=⟨_,rfl⟩;rw[h5]at cr M ⊢;dsimp only at cr M ⊢;obtain⟨⟨se,s6⟩,h6⟩:∃x,da dz 32 s5=x:=⟨_,rfl⟩;rw[h6]at M ⊢;dsimp only at M ⊢;obtain⟨m,hm⟩:∃m:au,(⟨tx,nx,fs,ts,se,mn⟩:au)=m:=⟨_,rfl⟩;rw[hm]at M ⊢;obtain⟨res,f⟩:∃x:au×Int,(if (s6.2||s6.1.2||!s6.1.1.isEmpty||!okF m)=true then (au.none,(4:Int)) else (m,0))=x:=⟨_,rfl⟩;rw[f];obtain⟨HT,ho,hp,hq,ht,hy,ds⟩:=zz7 (fun V Q R g (h:dq V Q R g ((l,ur),ur))=>by have:=sM h.r;rw[h1]at this;exact this) (fun V Q R g (h:dq V Q R g (s1,ur))=>by have:=eV h;rw[h2]at this;exact this) (fun V Q R g (h:dq V Q R g s2)=>by have:=wo h 256 (by decide) (by decide);rw[h3]at this;exact this) (fun V Q R g (h:dq V Q R g s3)=>by have:=ue h 4096 (by decide) (by decide);rw[h4]at this;exact this) (fun V Q R g (h:dq V Q R g s4)=>by have:=eV h;rw[h5]at this;exact this) (fun V Q R g (h:dq V Q R g s5)=>by have:=rO h 32 (by decide) (by decide);rw[h6]at this;exact this) f;obtain⟨h0,h8,ih,ix,hz,HP,hA⟩:=zz7 hm cq cr hk hd M fr;obtain⟨iA,hC,t⟩:=zz3 hf bt hg;subst hY;unfold ZM at *;clear hv hh hl hd M h1 h2 h3 h4 h5 h6 f hm cq cr hk fr hf bt hg
 go_enter Tryz.func9,Tryz.ntmps9
 go_upto_region 1 with fail
 change Code.wp _ _ _ _ (W.alloc (r7 #[r9 ⟨#[]⟩,I U 0,O Y 0 0,O Y 0 0,O Y 0 0,I U 0] 28));rw[←hC.o];clear hC;go_wp2_with fail
 refine hj.o.mono ?_;rintro e H ⟨R,g,rfl,C,hR,cu⟩;have k0:=C.size;have kn:=cu.lt;have kv:=cu.lt2;obtain⟨w3,bB⟩:=zzx (H.alloc (r7 #[vo (A ⟨R,0,Y⟩),xt ur] 75));have cy:Kr H w3:=by rw[bB];exact (JO _ H).alloc (JM _) _
 have af:dq w3 H.heap.size R g ((l,ur),ur):=⟨by rw[bB];exact oc H _,cu.C cy,by omega,by omega⟩;have k1:w3.heap.size=H.heap.size+1:=by rw[bB];simp
 obtain⟨cA,iB,hD,hE⟩:=zz4 ((hA.o.trans (C.mono hA.o.size)).trans (cy.mono (by have:=t.o;omega))) ((cy.block W.heap.size (by have:=t.o;omega)).trans (aa C iA.o (by have:=t.o;omega))) af bB;have ft:=af.z.1;have hG:=Hd (HT.o _ _ _ _ af);have k2:H.heap.size≠R:=by omega
 have k3:H.heap.size≠g:=by omega
 clear C cu cy af bB hj HT;go_upto_region 2 with fail
 change Code.wp _ _ _ _ (H.alloc (r7 #[vo (A ⟨R,0,Y⟩),xt ur] 75));rw[←hE.o];clear hE;go_wp2_with fail
 refine hG.o.mono ?_;rintro e w4 ⟨rfl,N⟩;have N:=hD.o.rd N;obtain⟨hI,bR⟩:=zz2 (ho.o _ _ _ _ N.2) N;clear N hG ho ft;go_wp2_with fail
 refine hI.o.mono ?_;rintro e y ⟨rfl,aq⟩;obtain⟨w6,b0⟩:=zzx (y.alloc (r7 #[r9 tx,I U nx,O Y 0 0,O Y 0 0,O Y 0 0,I U 0] 28));have fv:Kr y w6:=by rw[b0];exact (JO _ y).alloc (JM _) _
 have b1:=(bR.o.h aq).C fv;have k4:=(bR.o.h aq).1.z;have k5:w6.heap.size=y.heap.size+1:=by rw[b0];simp
 have cC:rF w6 H.heap.size R g y.heap.size s2 #[r9 tx,I U nx,O Y 0 0,O Y 0 0,O Y 0 0,I U 0] w6:=⟨Chg.refl _ _,b1.2,by rw[b0];exact oc y _⟩;have hJ:=(fv.block W.heap.size (by have:=t.o;omega)).trans (((bR.o.h aq).1.q W.heap.size (by have:=t.o;omega) (fun e=>by have:=t.o;rcases e with e|e<;>omega)).trans iB.o)
 obtain⟨iX,jj,ar,hK⟩:=zz4 hJ cC b1 b0;have hB:y.heap.size≠H.heap.size∧y.heap.size≠R∧y.heap.size≠g:=⟨by omega,by omega,by omega⟩;have d:=Hd hB;have HF:Hid (∀b,w6.heap.size≤b→¬Bd H.heap.size R y.heap.size W.heap.size b):=fun b S e=>by
  have:=t.o;rcases e with (e|e|e)|e<;>omega
 have dt:=Hd (hp.o _ _ _ _ cC.im);have ft:=cC.im.z.1;clear aq fv b1 cC hJ b0 hI hp hB;go_upto_region 3 with fail
 change Code.wp _ _ _ _ (y.alloc (r7 #[r9 tx,I U nx,O Y 0 0,O Y 0 0,O Y 0 0,I U 0] 28));rw[←hK.o];clear hK;go_wp2_with fail
 refine dt.o.mono ?_;rintro e w7 ⟨vf,rfl,b2,D,T⟩;obtain⟨pf,cf,rfl⟩:=D.q;obtain⟨nf,fz⟩:=zzy (fs.length);dsimp only at b2 D;rw[fz]at D T ⊢;have fI:=jj.o.turn ⟨d.o.1,d.o.2.1⟩ b2;obtain⟨⟨_,_,e2,_⟩,_,_,f2,_⟩:=aC fI.q;have cR:=fI.store d.o 2 (O pf nf cf);obtain⟨w8,cT⟩:=zzx (w7.setCell ⟨y.heap.size,2,Y⟩ (O pf nf cf));rw[←cT]at cR;have dv:Chg (ji H.heap.size R y.heap.size) w7 w8:=by rw[cT];exact⟨Z,Z,Z,by rw[d6];exact JM _,fun b S X=>oA _ _ _ _ (fun e=>X (wF (wF e)))⟩
 obtain⟨hL,b3,fT,hM,hN,k6,ef⟩:=zz7 dv D T cR cT fz (hq.o _ _ _ _ cR.im);clear b2 D T fI cR cT dt hq dv fz ft;go_upto_region 4 with fail
 rw[←hN.o];clear hN e2 f2;go_wp2_with fail
 refine ef.o.mono ?_;rintro e w9 ⟨vt,rfl,z,E,ad⟩;obtain⟨pt,ct,rfl⟩:=E.q;obtain⟨nt,gf⟩:=zzy (ts.length);dsimp only at z E;rw[gf]at E ad ⊢;have gg:=hM.o.turn ⟨d.o.1,d.o.2.1⟩ z;have eg:Chg (ji H.heap.size R y.heap.size) w8 w9:=⟨z.1.os,z.1.a,z.1.c,z.1.z,fun b S X=>z.1.q b S (fun e=>X (e.elim wD fun e=>wF (wD e)))⟩;obtain⟨⟨_,_,_,e3,_⟩,_,_,_,f3,_⟩:=aC gg.q;have a1:=gg.store d.o 3 (O pt nt ct);obtain⟨cV,a6⟩:=zzx (w9.setCell ⟨y.heap.size,3,Y⟩ (O pt nt ct));rw[←a6]at a1;have b4:Chg (ji H.heap.size R y.heap.size) w9 cV:=by rw[a6];exact⟨Z,Z,Z,by rw[d6];exact JM _,fun b S X=>oA _ _ _ _ (fun e=>X (wF (wF e)))⟩
 obtain⟨hO,gr,b5,gD,hQ,en,k7⟩:=zz7 eg b4 E ad a1 a6 gf;have eo:=Hd (ht.o _ _ _ _ a1.im);clear z E ad gg a1 a6 ef ht eg b4 gf;go_upto_region 5 with fail
 rw[←en.o];clear en e3 f3;go_wp2_with fail
 refine eo.o.mono ?_;rintro e gE ⟨rfl,u⟩;have b6:=hQ.o.turn ⟨d.o.1,d.o.2.1⟩ u;have b7:Chg (ji H.heap.size R y.heap.size) cV gE:=⟨u.1.os,u.1.a,u.1.c,u.1.z,fun b S X=>u.1.q b S (fun e=>X (e.elim wD fun e=>wF (wD e)))⟩;obtain⟨⟨_,_,_,_,_,e5⟩,_,_,_,_,_,f5⟩:=aC b6.q;have ba:=b6.store d.o 5 (I U mn);obtain⟨cW,bb⟩:=zzx (gE.setCell ⟨y.heap.size,5,Y⟩ (I U mn));rw[←bb]at ba;have b8:Chg (ji H.heap.size R y.heap.size) gE cW:=by rw[bb];exact⟨Z,Z,Z,by rw[d6];exact JM _,fun b S X=>oA _ _ _ _ (fun e=>X (wF (wF e)))⟩
 obtain⟨gF,er,et,b9⟩:=zz4 (b7.h b8) ba bb (hy.o _ _ _ _ ba.im);clear u b6 ba bb eo hy b7 b8;go_upto_region 6 with fail
 rw[←et.o];clear et e5 f5;go_wp2_with fail
 refine b9.o.mono ?_;rintro e gH ⟨vs,rfl,j,w,L⟩;obtain⟨ps,cs,rfl⟩:=w.q;obtain⟨ns,j2⟩:=zzy (se.length);dsimp only at j w;rw[j2]at w L ⊢;have ca:=er.o.turn ⟨d.o.1,d.o.2.1⟩ j;have cb:Chg (ji H.heap.size R y.heap.size) cW gH:=⟨j.1.os,j.1.a,j.1.c,j.1.z,fun b S X=>j.1.q b S (fun e=>X (e.elim wD fun e=>wF (wD e)))⟩;obtain⟨⟨_,_,_,_,e4,_⟩,_,_,_,_,f4,_⟩:=aC ca.q;have k:=ca.store d.o 4 (O ps ns cs);obtain⟨q,bd⟩:=zzx (gH.setCell ⟨y.heap.size,4,Y⟩ (O ps ns cs));rw[←bd]at k;have cc:Chg (ji H.heap.size R y.heap.size) gH q:=by rw[bd];exact⟨Z,Z,Z,by rw[d6];exact JM _,fun b S X=>oA _ _ _ _ (fun e=>X (wF (wF e)))⟩
 have K:q.heap[W.heap.size]?=A (r7 #[r9 ⟨#[]⟩,I U 0,O Y 0 0,O Y 0 0,O Y 0 0,I U 0] 28 (0,0)):=
  (k.chg.q W.heap.size (by have:=t.o;omega) (fun e=>by have:=t.o;rcases e with e|e|e<;>omega)).trans iX.o
 have e6:q.heap[y.heap.size]?=A (r7 #[r9 tx,I U nx,O pf nf cf,O pt nt ct,O ps ns cs,I U mn] 28 (0,0)):=k.q;have kI:=k.chg.z;have ch:Kr W q:=by
  have h1:Chg (fun b=>W.heap.size≤b) W q:=⟨k.chg.os.trans (ar.o.1.os.trans cA.o.os),k.chg.a.trans (ar.o.1.a.trans cA.o.tape),k.chg.c.trans (ar.o.1.c.trans cA.o.output),by have:=t.o;omega,fun b S _ =>
   (k.chg.q b (by have:=t.o;omega) (fun e=>by have:=t.o;rcases e with e|e|e<;>omega)).trans ((ar.o.1.q b (by have:=t.o;omega) (fun e=>by have:=t.o;rcases e with e|e<;>omega)).trans (cA.o.block b S))⟩
  exact Chg.C (JO _ W) h1 (fun _ h=>h) (JM _)
 have ck:∀(c6:J),Chg (fun b=>b=W.heap.size) q c6→bG.at_ c6 (aW W c6) m [r9 tx,I U nx,O pf nf cf,O pt nt ct,O ps ns cs,I U mn]:=fun c6 hU=>by
  have bn:∀x,ji H.heap.size R y.heap.size x→Bd H.heap.size R y.heap.size W.heap.size x:=fun x h=>wD h
  have kc:Chg (Bd H.heap.size R y.heap.size W.heap.size) q c6:=ju hU (fun x h=>wF h);have hS:=(ju cc bn).h kc;have c9:=(ju gr.o bn).h ((ju gF.o bn).h ((ju cb bn).h hS));have c7:=(ju hL.o bn).h ((ju hO.o bn).h c9);have hs:=t.o;have z8:=hM.o.chg.z;have z12:=er.o.chg.z;rw[←h0.o];have h7:=b3.o;have h9:=b5.o;exact fC.2 ⟨JU ix.o (by decide),h8.o,ih.o,_,_,_,Z,rY b3.o fT.o c7 HF.o (by omega),rY b5.o gD.o c9 (fun b S=>HF.o b (by omega)) (by omega),rY w L hS (fun b S=>HF.o b (by omega)) (by omega)⟩
 obtain⟨gL,hT,cl,e7,e8,e9,gM⟩:=zz7 ck k e6 K bd ch (sO k.im.r);have c8:=Hd (hz.o q m _ ch (bG.N (fun b S=>S.2) (ck q (Chg.refl _ _))));clear j w L ca k e6 K bd b9 cb cc ch ck hz;go_upto_region 7 with fail
 rw[←e8.o];clear e8 e4 f4;obtain⟨q0,q1,_⟩:=hT.o.im.z;obtain⟨⟨e0,e1,e2,e3,e4,e5⟩,_⟩:=aC cl.o;have bg:Hid (∀(V:J),Kr q V→(V.heap[W.heap.size]?=A (r7 #[r9 ⟨#[]⟩,I U 0,O Y 0 0,O Y 0 0,O Y 0 0,I U 0] 28 (0,0)))∧∀(c0 c1 c2 c3 c4 c5:tS),Kr W (j7 V W.heap.size c0 c1 c2 c3 c4 c5)∧Chg (fun b=>b=W.heap.size) q (j7 V W.heap.size c0 c1 c2 c3 c4 c5)):=fun V hV=>by
  have h1:=e9.o.trans (hV.mono e9.o.size);refine⟨aa hV e7.o (JL.1 e7.o).1,fun c0 c1 c2 c3 c4 c5=>?_⟩;have hr:iz (j7 V W.heap.size c0 c1 c2 c3 c4 c5) V:=(cP _ _ _).h ((cP _ _ _).h ((cP _ _ _).h ((cP _ _ _).h ((cP _ _ _).h (cP _ _ _)))));have hc:Chg (fun b=>b=W.heap.size) V (j7 V W.heap.size c0 c1 c2 c3 c4 c5):=⟨hr.1,hr.2.1,hr.2.2,by rw[vw];exact JM _,fun b S X=>tU _ _ _ _ _ _ X⟩;exact⟨Chg.C h1 hc (fun i hi=>by omega) h1.size,(Chg.u hV).h hc⟩
 have gN:Hid (∀c6:J,bG.at_ c6 (aW W c6) au.none [r9 ⟨#[]⟩,I U 0,O Y 0 0,O Y 0 0,O Y 0 0,I U 0]):=fun c6 =>fC.2 ⟨J0 _,(by decide:(-9223372036854775808:Int)≤0∧(0:Int)<9223372036854775808),(by decide:(-9223372036854775808:Int)≤0∧(0:Int)<9223372036854775808),_,_,_,Z,Rd.tk,Rd.tk,Rd.tk⟩
 have K:=(bg.o q (JO _ _)).1;have bk:=Hd (uE K);obtain⟨⟨z0,z1,z2,z3,z4,z5⟩,y0,y1,y2,y3,y4,y5⟩:=aC K;have fm:=Hd ((bg.o q (JO _ _)).2);clear K
 cases C:s6.2 with
 | true =>
  have f:=ds.o;rw[C]at f q1;have F:res=(au.none,4):=by rw[←f];simp
  have G:=Hd F;clear f F C gM c8;go_wp2_with fail
  change bodyPost _ _ _ _ _ (j7 q W.heap.size (r9 ⟨#[]⟩) (I U 0) (O Y 0 0) (O Y 0 0) (O Y 0 0) (I U 0));refine qO Tryz.results9 (by simp[go_sem]) (by simp[go_sem]) Z (x:=I U 4) Z (bk.o _ _ _ _ _ _) ⟨(fm.o _ _ _ _ _ _).1,[r9 ⟨#[]⟩,I U 0,O Y 0 0,O Y 0 0,O Y 0 0,I U 0],?_,?_⟩
  ·rw[G.o]
  ·rw[G.o];exact gN.o _
 | false =>
  rw[C]at q1;obtain⟨dn,bq⟩:=zzy ((!s6.1.2&&s6.1.1.isEmpty));have gO:=gM.o;rw[bq]at gO;have hW:Hid (dn=true→P m):=fun h=>by
   rw[h]at bq;simp only[J4,Bool.not_eq_true']at bq;exact HP.o bq.1 C
  have gS:=Hd gO;have f:=ds.o;have cm:(s6.2||s6.1.2||!s6.1.1.isEmpty||!okF m)=(!dn||!okF m):=by
   rw[C,←bq]
   cases s6.1.2<;>cases s6.1.1.isEmpty<;>rfl
  rw[cm]at f;have gT:=Hd f;clear f gO bq C cm gM
  cases dn with
  | false =>
   have F:res=(au.none,4):=by rw[←gT.o];simp
   have G:=Hd F;clear F c8;go_wp2_with fail
   refine gS.o.mono ?_;rintro e kk ⟨rfl,rfl⟩;go_wp2_with fail
   change bodyPost _ _ _ _ _ (j7 q W.heap.size (r9 ⟨#[]⟩) (I U 0) (O Y 0 0) (O Y 0 0) (O Y 0 0) (I U 0));refine qO Tryz.results9 (by simp[go_sem]) (by simp[go_sem]) Z (x:=I U 4) Z (bk.o _ _ _ _ _ _) ⟨(fm.o _ _ _ _ _ _).1,[r9 ⟨#[]⟩,I U 0,O Y 0 0,O Y 0 0,O Y 0 0,I U 0],?_,?_⟩
   ·rw[G.o]
   ·rw[G.o];exact gN.o _
  | true =>
   have hX:=Hd (c8.o (hW.o Z));clear c8 hW;go_wp2_with fail
   refine gS.o.mono ?_;rintro e kk ⟨rfl,rfl⟩;go_wp2_with fail
   refine hX.o.mono ?_;rintro e dd ⟨rfl,bl⟩;have cn:=(bg.o dd bl).1;obtain⟨bm,cp⟩:=zz2 (uE cn) ((bg.o dd bl).2);clear z0 z1 z2 z3 z4 z5 y0 y1 y2 y3 y4 y5 e0 e1 e2 e3 e4 e5 q0 q1;obtain⟨⟨z0,z1,z2,z3,z4,z5⟩,y0,y1,y2,y3,y4,y5⟩:=aC cn;obtain⟨⟨e0,e1,e2,e3,e4,e5⟩,_⟩:=aC (aa bl cl.o (JL.1 cl.o).1);clear cn bl hX gS
   cases dg:okF m with
   | false =>
    have F:res=(au.none,4):=by rw[←gT.o,dg];simp
    have G:=Hd F;clear F dg;go_wp2_with fail
    change bodyPost _ _ _ _ _ (j7 dd W.heap.size (r9 ⟨#[]⟩) (I U 0) (O Y 0 0) (O Y 0 0) (O Y 0 0) (I U 0));refine qO Tryz.results9 (by simp[go_sem]) (by simp[go_sem]) Z (x:=I U 4) Z (bm.o _ _ _ _ _ _) ⟨(cp.o _ _ _ _ _ _).1,[r9 ⟨#[]⟩,I U 0,O Y 0 0,O Y 0 0,O Y 0 0,I U 0],?_,?_⟩
    ·rw[G.o]
    ·rw[G.o];exact gN.o _
   | true =>
    have F:res=(m,0):=by rw[←gT.o,dg];simp
    have G:=Hd F;clear F dg;go_wp2_with fail
    change bodyPost _ _ _ _ _ (j7 dd W.heap.size (r9 tx) (I U nx) (O pf nf cf) (O pt nt ct) (O ps ns cs) (I U mn));refine qO Tryz.results9 (by simp[go_sem]) (by simp[go_sem]) Z (x:=I U 0) Z (bm.o _ _ _ _ _ _) ⟨(cp.o _ _ _ _ _ _).1,[r9 tx,I U nx,O pf nf cf,O pt nt ct,O ps ns cs,I U mn],?_,?_⟩
    ·rw[G.o]
    ·rw[G.o];exact gL.o _ (cp.o _ _ _ _ _ _).2
