/- Parts of one proof, joined; conditions stand in each theorem. -/
import Derived.Test.YtoahnjkclckodaaGreatDoorND
import Derived.Maps.Own
import Derived.Maps.Views
open Go.IntKind renaming u8→r8,i64→U
open Go.Proofs.Tryz renaming prog→va
open Go renaming World→J,Calls→vv,TypeId→xD,Addr→z7,Value→tS,Ending→AJ,undef→xk,wpQuiet_nil→xL
open Option renaming some→A,none→Y
open Go.Value renaming string→r9,int→I,tuple→y9,bool→xt,slice→O,agg→wP,pointer→vo
open Go.Ending renaming returned→wg
open Go.Obj renaming cells→r7
open Or renaming inl→wD,inr→wF
open Except renaming ok→xn,error→zs
namespace Go.Proofs.YtoahnjkclckodaaGreatDoor
set_option maxHeartbeats 4000000
set_option maxRecDepth 100000
open Go.RowKit Go.Maps
def Cw:List (List UInt8×Int):=[([111,114],10),([97,110,100],9),([60,61],8),([60],7),([33,61],6),([61],5),([42],3),([45],2),([43],1)]
def nX{H:Type}:List (List UInt8×Int)→DataW H
 | []=>.map []
 | p::r=>(nX r).put (.string p.1) (.lit (.int r8 p.2))
def oI:List (List UInt8×Int)→List UInt8→Int
 | [],_=>0
 | p::r,t=>if t=p.1 then p.2 else oI r t
theorem xN{H:Type}:∀l:List (List UInt8×Int),IsMap (nX (H:=H) l)
 | []=>⟨[],Z⟩
 | p::r=>by
  obtain⟨es,h⟩:=xN (H:=H) r;exact⟨_,by rw[nX,h];rfl⟩
theorem Ad{H:Type}(t:List UInt8):∀l:List (List UInt8×Int),(nX (H:=H) l).atKey (.string t) (.lit (.int r8 0))=.lit (.int r8 (oI l t))
 | []=>rfl
 | p::r=>by
  by_cases h:t=p.1
  ·rw[nX,h,atKey_put_same (xN r) (by trivial),oI,oj Z]
  ·rw[nX,atKey_put_other (fun e=>h (by injection e)),oI,oe h,Ad t r]
theorem xx:Keyed va 9:=string_keyed Tryz.underlying9
theorem fq{H:Type}{w:J}{b n:Nat}{l:List (List UInt8×Int)}(h:w.ownsMap va 9 (plainElem (H:=H) va 163) b n (nX l))(d:n<20)(k:ByteArray)(c:Int)(e:k.size<20)(a:(Lit.int r8 c).wf=true) :
  ∃w',(Instr.mapUpdate 312 (.map (A b)) (r9 k) (I r8 c)).run va w=.ok () w'∧w'.ownsMap va 9 (plainElem (H:=H) va 163) b (n+1) (nX ((k.data.toList,c)::l))∧w.grownBy w' (A b):=
 h.update xx Tryz.underlying312 (by unfold maxLen;omega) (WideMaps.keyOf_string_mk Tryz.underlying9 (by unfold maxLen;omega)) (plainElem_int Tryz.underlying163 a)
theorem I5(w:J):(zeroValue 163).run va w=.ok (I r8 0) w:=by kernel_rfl
theorem G2(t:List UInt8)(h:t≠[62])(i:t≠[62,61]):opM t 2=(oI Cw t,false):=by
 have j:(t==[62])=false:=by simpa using h
 have k:(t==[62,61])=false:=by simpa using i
 unfold opM;simp only[j,k];simp only[Cw,oI]
 by_cases a:t=[43]
 ·subst a;rfl
 by_cases c2:t=[45]
 ·subst c2;rfl
 by_cases b:t=[42]
 ·subst b;rfl
 by_cases c4:t=[61]
 ·subst c4;rfl
 by_cases c:t=[33,61]
 ·subst c;rfl
 by_cases d:t=[60]
 ·subst d;rfl
 by_cases e:t=[60,61]
 ·subst e;rfl
 by_cases f:t=[97,110,100]
 ·subst f;rfl
 by_cases g:t=[111,114]
 ·subst g;rfl
 simp[a,c2,b,c4,c,d,e,f,g]
theorem IS(t:ByteArray)(i:t.size≤maxLen)(w:J):vv va 188 #[r9 t] w fun e w'=>e=wg (y9 #[I r8 (opM t.data.toList 2).1,xt (opM t.data.toList 2).2])∧Kr w w':=by
 have k:=@run_makeMap va;have l:(w.alloc (.map #[] 0)).ownsMap va 9 (plainElem (H:=Unit) va 163) w.heap.size 0 (nX []):=World.ownsMap_made _ _ _ _;obtain⟨w1,G,m,g1⟩:=fq l (by omega) ⟨#[43]⟩ 1 (by decide) (by decide);obtain⟨K,r2,n,g2⟩:=fq m (by omega) ⟨#[45]⟩ 2 (by decide) (by decide);obtain⟨L,M,o,g3⟩:=fq n (by omega) ⟨#[42]⟩ 3 (by decide) (by decide);obtain⟨w4,r4,p,g4⟩:=fq o (by omega) ⟨#[61]⟩ 5 (by decide) (by decide);obtain⟨N,P,q,g5⟩:=fq p (by omega) ⟨#[33,61]⟩ 6 (by decide) (by decide);obtain⟨Q,R,r,g6⟩:=fq q (by omega) ⟨#[60]⟩ 7 (by decide) (by decide);obtain⟨S,T,s,g7⟩:=fq r (by omega) ⟨#[60,61]⟩ 8 (by decide) (by decide);obtain⟨V,W,u,g8⟩:=fq s (by omega) ⟨#[97,110,100]⟩ 9 (by decide) (by decide);obtain⟨f,X,v,g9⟩:=fq u (by omega) ⟨#[111,114]⟩ 10 (by decide) (by decide);obtain⟨c,hr,d,x⟩:=v.lookup_int xx Tryz.underlying312 Tryz.underlying163 (I5 f) (WideMaps.keyOf_string_mk Tryz.underlying9 i);have y:c=oI Cw t.data.toList:=by
  have e:=Ad (H:=Unit) t.data.toList Cw;have z:=d.symm.trans e;injection z with B
  injection B
 have C:Kr w f:=by
  have D:Kr w (w.alloc (.map #[] 0)):=(JO _ _).alloc (JM _) _;have st:∀{a b:J},Kr w a→a.grownBy b (A w.heap.size)→Kr w b:=fun h g=>h.grown g h.size (fun j E=>by cases E;exact JM _)
  exact st (st (st (st (st (st (st (st (st D g1) g2) g3) g4) g5) g6) g7) g8) g9
 go_enter Tryz.func188,Tryz.ntmps188
 go_wp2
 ·have e:t.data.toList=[62]:=by rw[←J1];rename_i h;simpa using h
  rw[e];exact⟨Z,_,results_tmp2 Z _ _ _,Z,JO _ _⟩
 ·have e:t.data.toList=[62,61]:=by rw[←J1];rename_i h;simpa using h
  rw[e];exact⟨Z,_,results_tmp2 Z _ _ _,Z,JO _ _⟩
 ·have F:t.data.toList≠[62]:=by rw[←J1];rename_i h _;simpa using h
  have n2:t.data.toList≠[62,61]:=by rw[←J1];rename_i h;simpa using h
  rw[G2 _ F n2,←y];exact⟨Z,_,results_tmp2 Z _ _ _,Z,C⟩
theorem Eg{E S:xD}{sz bytes:Nat}(m:Elem E S sz bytes){w:J}{ops:Array Oper}{rest:List Oper}{o:Oper}{a:Act}{Q:Exit→Act→J→Prop}(r:o.guard=Y)(s x:Operand)
  (q:o.op=.call { callee:=.builtin .append,args:=#[s,x],argTypes:=#[S,S] }) {p:Option z7} {n c g9:Nat} {xs z:List tS} (N:a.eval s=O p n c) (P:a.eval x=O (A ⟨g9,0,Y⟩) 1 1)
  (k:w.ownsRow 0 E sz (O p n c) n xs) (R:w.heap[g9]?=A (r7 z.toArray E (0,0))) (T:z.length=sz) (V:∀u∈z,u.oneCell'=true) (hn:n≤100000)
  (h:∀g cap w',((O p n c).ownBlock=A g∨w.heap.size≤g)→Chg (fun b=>(O p n c).ownBlock=A b) w w'→w'.ownsRow 0 E sz (O (A ⟨g,0,Y⟩) (n+1) cap) (n+1) (xs++z)→
   wpList va ops Q rest (a.put o.dst (O (A ⟨g,0,Y⟩) (n+1) cap)) w'):wpList va ops Q (o::rest) a w:=by
 obtain⟨i0,W,t,v,y,B,C⟩:=m.info;have D:=m.small;have F:=m.pos;have f:∀j u,z[j]?=A u→w.cell? ((⟨g9,0,Y⟩:z7).add j)=A u:=fun j u X=>by
  have e:(⟨g9,0,Y⟩:z7).add j=⟨g9,j,Y⟩:=by
   unfold Addr.add
   by_cases M:j=0
   ·subst M;rfl
   ·rw[oe M];simp
  rw[e,Kq _ _ _ _ _ _ R]
  simpa using X
 have G:(n+1)*bytes≤140737488355328:=by
  have:=Nat.mul_le_mul (show n+1≤100001 by omega) D.2;omega
 refine bS w r s x S q 0 E i0 W sz bytes m.und t v y B C F (O p n c) n xs N k ⟨g9,0,Y⟩ 1 1 z P (by omega) f V (by unfold maxLen;omega) G (J0 _) (by decide) ?_;intro v' w' d i;rcases i with ⟨g,cap,H,K,l⟩|⟨cap,H,K⟩
 ·subst K;have q:(O p n c).ownBlock=A g:=by rw[H];rfl
  refine h g cap w' (wD q) ?_ d;exact⟨l.os,l.tape,l.output,l.size,fun b hb L=>l.block b hb (fun e=>L (q.trans e.symm))⟩
 ·subst H;exact h _ cap w' (wF (JM _)) (Chg.u K) d
theorem F7:Elem 166 164 7 80:=Elem.of (z:=wP #[I r8 0,I r8 0,I U 0,r9 ByteArray.empty,I U 0,I r8 0,O Y 0 0]) Tryz.underlying164 (by kernel_rfl) (by kernel_rfl) (by decide) (by decide)
theorem ax.h{w:J}{B:Nat}:∀{d:Nat} {ks:List ac} {a:tS},ax w B d ks a→∃p c,a=O p ks.length c
 | 0,_,_,h=>by
  obtain⟨rfl,p,c,rfl⟩:=h;exact⟨p,c,Z⟩
 | _+1,_,_,h=>by
  rcases h with ⟨rfl,p,c,rfl⟩|⟨b,off,cap,_,_,_,_,rfl,_⟩
  ·exact⟨p,c,Z⟩
  ·exact⟨_,_,Z⟩
def fo:Nat→ac→Prop
 | 0,T=>T.h.size≤72007
 | d+1,T=>T.h.size≤72007∧T.z.length≤20000∧∀k∈T.z,fo d k
theorem fo.h:∀{d:Nat} {T:ac},fo d T→T.h.size≤72007
 | 0,_,h=>h
 | _+1,_,h=>h.1
structure pO (M:Nat) (vars:List ByteArray) (vV:tS) (w:J):Prop where
 m:w.cell? ⟨M,2,Y⟩=A vV
 lt:M<w.heap.size
 v:Rd.str.h w (fun b=>b<w.heap.size) vars vV
theorem pO.C{M:Nat}{vars:List ByteArray}{vV:tS}{w w':J}(h:pO M vars vV w)(b:Kr w w'):pO M vars vV w':=
 ⟨(b.cell (p:=⟨M,2,Y⟩) h.lt).trans h.m,JS h.lt b.size,Rd.sI (fun _ a=>JS a b.size) (Rd.sm h.v (fun _ a=>a) b)⟩
def bs(w w':J) (b:Nat):Prop:=w.heap.size≤b∧b<w'.heap.size
def dY(d:Nat) (r:Except Flt ak) (w:J) (e:AJ) (w':J):Prop:=Kr w w'∧match r with
 | .ok E=>∃s,e=wg (wP #[I r8 E.q,I r8 E.h.q,I U E.h.u,r9 E.h.h,I U E.u,I r8 E.op,s])∧nZ E∧fU w' (bs w w') d E.z s
 | .error er=>e=aR er.1 er.2
def j6(d:Nat) (r:Except Flt (List ak)) (w:J) (e:AJ) (w':J):Prop:=Kr w w'∧match r with
 | .ok es=>∃v,e=wg v∧aA w' (fun b=>bs w w' b∧v.ownBlock≠A b) 166 (bX d) es v∧∀g,v.ownBlock=A g→w.heap.size≤g
 | .error er=>e=aR er.1 er.2
theorem Cg{α β:Type}{f:α→Except Flt β}{l:List α}{k:Nat}{a:List β}{x:α}(b:l[k]?=A x)(h:cF f (l.take k)=xn a):cF f (l.take (k+1))=match f x with | .error e=>zs e | .ok y=>xn (a++[y]):=iU b h
theorem A8{α β:Type}{f:α→Except Flt β}{l:List α}{k:Nat}{e:Flt}(h:cF f (l.take k)=zs e):cF f l=zs e:=by
 unfold cF at *
 conv=>lhs;rw[←List.take_append_drop k l]
 rw[j1,h]
theorem Chg.X{F:Nat→Prop}{B:Nat}{w w1 c:J}(h:Below B w w1)(a:Chg F w1 c)(hF:∀b,F b→B≤b)(hB:B≤w1.heap.size):Below B w c:=
 h.trans ⟨a.os,a.a,a.c,a.z,fun b e=>a.q b (by omega) (fun d=>by have:=hF b d;omega)⟩
theorem Cu{d:Nat}{w wr v W2 f m:J}{es:List ak}{E:ak}{p:Option z7}{k c g cap:Nat}{s:tS}{us:List tS}(L:es.length=k)
  (x:Kr w wr) (M:wr.heap.size≤v.heap.size) (j:Kr wr f) (i:Kr W2 f)
  (N:(bX d).z wr (fun b=>bs w wr b∧(O p k c).ownBlock≠A b) es us) (n:wr.ownsRow 0 166 7 (O p k c) k us) (q:∀g,(O p k c).ownBlock=A g→w.heap.size≤g)
  (r:nZ E) (y:fU W2 (bs v W2) d E.z s)
  (H:(O p k c).ownBlock=A g∨f.heap.size≤g) (z:Chg (fun b=>(O p k c).ownBlock=A b) f m) (t:m.ownsRow 0 166 7 (O (A ⟨g,0,Y⟩) (k+1) cap) (k+1) (us++cU E s)) :
  Kr w m∧aA m (fun b=>bs w m b∧(O (A ⟨g,0,Y⟩) (k+1) cap).ownBlock≠A b) 166 (bX d) (es++[E]) (O (A ⟨g,0,Y⟩) (k+1) cap)∧∀a,(O (A ⟨g,0,Y⟩) (k+1) cap).ownBlock=A a→w.heap.size≤a:=by
 have P:=i.size;have Q:=z.z;have l:Kr w f:=x.trans (j.mono x.size);have R:(bX d).at_ W2 (bs v W2) E (cU E s):=m8.2 ⟨r,s,Z,y⟩;have B:∀a,(O p k c).ownBlock=A a→a<wr.heap.size:=fun a h=>(aP n a h).2
 let F:Nat→Prop:=fun b=>(bs w wr b∧(O p k c).ownBlock≠A b)∨bs v W2 b
 have hF:∀b,F b→w.heap.size≤b∧b<f.heap.size∧(O p k c).ownBlock≠A b:=by
  rintro b (⟨⟨K,S⟩,T⟩|⟨K,S⟩)
  ·exact⟨K,by have:=j.size;omega,T⟩
  ·exact⟨by have:=x.size;omega,by omega,fun e=>by have:=B b e;omega⟩
 have C:(bX d).z f F es us:=Rd.tF (fun b h=>wD h) (Rd.tE (fun b h o u=>(j.block b h.1.2).trans u) N);have D:(bX d).at_ f F E (cU E s):=(bX d).N (fun b h=>wF h) ((bX d).K (fun b h o u=>(i.block b h.2).trans u) R);have G:(bX d).z m F (es++[E]) (us++cU E s):=Rd.tE (fun b h o u=>(z.q b (hF b h).2.1 (hF b h).2.2).trans u) (Rd.th C D);refine⟨Chg.X l z (fun b h=>q b h) l.size,⟨us++cU E s,?_,Rd.tF (fun b h=>⟨⟨(hF b h).1,by have:=(hF b h).2.1;omega⟩,fun e=>?_⟩) G⟩,fun a e=>?_⟩
 ·rw[l6,J2,L];exact t
 ·injection e with e
  have e:g=b:=e;subst e;rcases H with h|h
  ·exact (hF g (by assumption)).2.2 h
  ·have:=(hF g (by assumption)).2.1;omega
 ·injection e with e
  have e:g=a:=e;subst e;rcases H with h|h
  ·exact q g h
  ·have:=l.size;omega
def yu(w:J) (d:Nat) (f:ac→Except Flt ak) (Ts:List ac) (n:Nat) (v i:tS) (W:J):Prop:=
 ∃k es,k≤n∧i=I U (k:Int)∧cF f (Ts.take k)=xn es∧es.length=k∧Kr w W∧aA W (fun b=>bs w W b∧v.ownBlock≠A b) 166 (bX d) es v∧∀g,v.ownBlock=A g→w.heap.size≤g
theorem qg(d M:Nat)(vars:List ByteArray)(vV:tS)(f:ac→Except Flt ak)(Ts:List ac)(sl:tS)(w:J)(hv:pO M vars vV w)(l:ax w w.heap.size (d+1) Ts sl)(af:Ts.length≤20000)
  (y:∀T∈Ts,∀(s:tS) (W:J),pO M vars vV W→Fits T→ax W W.heap.size d T.z s→vv va 158 #[vo (A ⟨M,0,Y⟩),wP #[I r8 T.q,r9 T.h,I U T.u,I U T.C,s]] W (dY d (f T) W)) :
  vv va 159 #[vo (A ⟨M,0,Y⟩),sl] w (j6 d (cF f Ts) w):=by
 obtain⟨n,H⟩:=zzy (Ts.length);obtain⟨p,c,aq⟩:∃p c,sl=O p n c:=by
  rcases l with ⟨rfl,sp,cap,rfl⟩|⟨b,off,cap,h1,h2,h3,h4,rfl,h6⟩
  ·exact⟨sp,cap,by rw[←H];rfl⟩
  ·exact⟨_,_,by rw[H]⟩
 subst aq;obtain⟨HK,HV,HO⟩:=zz3 l hv y;rw[H]at af;have HN:=Hd H;clear l hv y H
 go_enter Tryz.func159,Tryz.ntmps159
 go_wp2
 go_loopw [5,10] (yu w d f Ts n) (fun _ i _=>n-(intOf i).toNat)
 case atStart=>exact⟨0,[],J0 _,Z,Z,Z,JO _ _,aA.nil,fun g h=>by cases h⟩
 case round =>
  obtain⟨k,es,hk,rfl,hl,D,hb,m,K⟩:=hrel;obtain⟨p5,c5,L⟩:=m.q;rw[D]at L;subst L;have bl:(0:Int)≤k:=by omega
  obtain⟨B,HL,HE,HG,HR⟩:=zz5 hb hl D K m;clear hb hl D K m
  by_cases ar:k<n
  ·have bm:(k:Int)<n:=by omega
   obtain⟨T,N⟩:∃T,Ts[k]?=A T:=⟨_,JR (by rw[HN.o];exact ar)⟩;have l:=HK.o.C B.o;rcases l with ⟨rfl,_⟩|⟨b,off,cap,h1,h2,h3,h4,he,h6⟩
   ·simp at N
   rw[HN.o]at he;injection he with e1 _ e3
   subst e1;subst e3;obtain⟨q,s,c0,c1,c2,c3,c4,F⟩:=h6 k T N;obtain⟨ps,cs,rfl⟩:=F.h;obtain⟨HF,P⟩:=zz2 q (Cg N HL.o);have r:Kr wr (wr.alloc (r7 #[I r8 T.q,r9 T.h,I U T.u,I U T.C,O ps T.z.length cs] 145)):=(JO _ wr).alloc (JM _) _;obtain⟨HA,HC⟩:=zz2 r (HO.o T (J8 N) (O ps T.z.length cs) (wr.alloc (r7 #[I r8 T.q,r9 T.h,I U T.u,I U T.C,O ps T.z.length cs] 145)) ((HV.o.C B.o).C r) q ((F.C (r.mono B.o.size)).up (JU B.o.size r.size)));have a1:=oc wr (r7 #[I r8 T.q,r9 T.h,I U T.u,I U T.C,O ps T.z.length cs] 145);clear q F h6 h1 h2 h3 h4 r N;go_wp2_with fail
   refine HC.o.mono ?_;rintro e W2 ⟨Q,he⟩;have t:=Hd (HA.o.trans (Q.mono HA.o.size));clear Q c0 c1 c2 c3 c4 a1
   cases R:f T with
   | error er =>
    rw[R]at he;have he:e=aR er.1 er.2:=he;subst he;have HX:Hid (cF f Ts=zs er):=A8 (k:=k+1) (by rw[P.o,R]);refine⟨Z,B.o.trans (t.o.mono B.o.size),?_⟩;rw[HX.o];rfl
   | ok E =>
    rw[R]at he;obtain⟨s2,rfl,u,G⟩:=he;have a6:Hid (cF f (Ts.take (k+1))=xn (es++[E])):=by show _=_;rw[P.o,R]
    obtain⟨ba,bb⟩:=zz2 u G;obtain⟨us,a,j⟩:=HR.o;rw[HE.o,l6]at a;have bd:=Hd j;have v:Kr W2 (W2.alloc (r7 #[I r8 E.q,I r8 E.h.q,I U E.h.u,r9 E.h.h,I U E.u,I r8 E.op,s2] 166)):=(JO _ W2).alloc (JM _) _;obtain⟨C,bg,bk⟩:=zz3 v a (hH a (t.o.trans (v.mono t.o.size)));obtain⟨pe,ce,S⟩:=ge G;clear u G R a j v;subst S;go_wp2_with (at_builtin;go_must (refine Eg F7 Z (.tmp 14) (.tmp 18) Z (p:=p5) (n:=k) (c:=c5) (z:=cU E (O pe E.z.length ce)) Z Z bk.o (oc W2 _) Z (by simp[Value.oneCell',cU]) (by omega) ?_);intro g cap W4 hg hC x)
    obtain⟨V,X,ad⟩:=Cu HE.o B.o HA.o.size (t.o.trans (C.o.mono t.o.size)) C.o bd.o bg.o HG.o ba.o bb.o hg hC x;have HP:Hid (yu w d f Ts n (O (A ⟨g,0,Y⟩) (k+1) cap) (I U ((k+1:Nat):Int)) W4):=⟨k+1,es++[E],by omega,Z,a6.o,by rw[J2,HE.o];rfl,V,X,ad⟩;clear hg hC x V X ad;go_wp2_with fail
    refine⟨HP.o,?_⟩;simp[intOf];omega
  ·have HX:Hid (cF f Ts=xn es):=by
    show _=_
    rw[←HL.o,J5 (by rw[HN.o];omega)]
   go_wp2_with fail
   go_ret;refine⟨B.o,?_⟩;rw[HX.o];exact⟨_,Z,HR.o,HG.o⟩
def st7(W:J) (g o:Nat) (a b c d e f h:tS):World:=((((((W.setCell ⟨g,o+0,Y⟩ a).setCell ⟨g,o+1,Y⟩ b).setCell ⟨g,o+2,Y⟩ c).setCell ⟨g,o+3,Y⟩ d).setCell ⟨g,o+4,Y⟩ e).setCell ⟨g,o+5,Y⟩ f).setCell ⟨g,o+6,Y⟩ h
theorem EF(a b:ak)(h j:Option z7)(k n2 l c2 g cap:Nat)(cur:Array tS)(w:J)(n:w.heap[g]?=A (r7 cur 166 (0,0)))
  (c:∀i u,(cU a (O h k l))[i]?=A u→w.cell? ⟨g,i,Y⟩=A u) (d:∀i u,(cU b (O j n2 c2))[i]?=A u→w.cell? ⟨g,7+i,Y⟩=A u) :
  vv va 189 #[O (A ⟨g,0,Y⟩) 2 cap] w fun e w'=>e=wg (y9 #[])∧w'=(st7 (st7 w g 0 (I r8 b.q) (I r8 b.h.q) (I U b.h.u) (r9 b.h.h) (I U b.u) (I r8 b.op) (O j n2 c2)) g 7 (I r8 a.q) (I r8 a.h.q) (I U a.h.u) (r9 a.h.h) (I U a.u) (I r8 a.op) (O h k l)).drew:=by
 have a0:=c 0 _ Z;have a1:=c 1 _ Z;have a2:=c 2 _ Z;have a3:=c 3 _ Z;have a4:=c 4 _ Z;have a5:=c 5 _ Z;have q:=c 6 _ Z;have r:w.cell? ⟨g,7,Y⟩=_:=d 0 _ Z;have s:w.cell? ⟨g,8,Y⟩=_:=d 1 _ Z;have t:w.cell? ⟨g,9,Y⟩=_:=d 2 _ Z;have v:w.cell? ⟨g,10,Y⟩=_:=d 3 _ Z;have x:w.cell? ⟨g,11,Y⟩=_:=d 4 _ Z;have y:w.cell? ⟨g,12,Y⟩=_:=d 5 _ Z;have z:w.cell? ⟨g,13,Y⟩=_:=d 6 _ Z;have f0:=aB n;clear c d n
 go_enter Tryz.func189,Tryz.ntmps189
 go_wp2_with fail
 refine wp_loop_rounds 2 ?_;rw[rounds_succ];go_wp2_with fail
 go_region
 go_wp2_with fail
 clear a0 a1 a2 a3 a4 a5 q r s t v x y z f0;obtain⟨p,f⟩:=zzx ((st7 (st7 w g 0 (I r8 b.q) (I r8 b.h.q) (I U b.h.u) (r9 b.h.h) (I U b.u) (I r8 b.op) (O j n2 c2)) g 7 (I r8 a.q) (I r8 a.h.q) (I U a.h.u) (r9 a.h.h) (I U a.u) (I r8 a.op) (O h k l)).drew);change Code.rounds _ _ _ _ _ (st7 (st7 w g 0 (I r8 b.q) (I r8 b.h.q) (I U b.h.u) (r9 b.h.h) (I U b.u) (I r8 b.op) (O j n2 c2)) g 7 (I r8 a.q) (I r8 a.h.q) (I U a.h.u) (r9 a.h.h) (I U a.u) (I r8 a.op) (O h k l)).drew;rw[←f];have m:=Hd f;clear f;rw[rounds_succ];go_wp2_with fail
 go_end0
 exact⟨Z,m.o⟩
theorem iE{w:J}{g:Nat}{l:List tS}{t:xD}(h:w.heap[g]?=A (r7 l.toArray t (0,0)))(i:Nat)(u:tS):(w.setCell ⟨g,i,Y⟩ u).heap[g]?=A (r7 (l.set i u).toArray t (0,0)):=by rw[heap_set h i u,JP]
theorem rC{W:J}{g o:Nat}{l:List tS}{t:xD}(i:W.heap[g]?=A (r7 l.toArray t (0,0)))(a b c d e f h:tS) :
  (st7 W g o a b c d e f h).heap[g]?=A (r7 (((((((l.set (o+0) a).set (o+1) b).set (o+2) c).set (o+3) d).set (o+4) e).set (o+5) f).set (o+6) h).toArray t (0,0)):=by
 unfold st7;exact iE (iE (iE (iE (iE (iE (iE i _ _) _ _) _ _) _ _) _ _) _ _) _ _
theorem I8{W:J}{g:Nat}{h i rest:List tS}{t:xD}(q:W.heap[g]?=A (r7 (h++i++rest).toArray t (0,0)))(r:h.length=7)(s:i.length=7)(a b c d e f u j b' k l m n p:tS) :
  (st7 (st7 W g 0 a b c d e f u) g 7 j b' k l m n p).drew.heap[g]?=A (r7 ([a,b,c,d,e,f,u]++[j,b',k,l,m,n,p]++rest).toArray t (0,0)):=by
 have v:=rC (o:=7) (rC (o:=0) q a b c d e f u) j b' k l m n p;have w:∀X:J,X.drew.heap=X.heap:=fun _=>rfl
 rw[w,v]
 match h,r,i,s with
 | [_,_,_,_,_,_,_],_,[_,_,_,_,_,_,_],_=>simp[List.set_cons_succ,List.set_cons_zero]
theorem uj{W:J}{g o:Nat}(a b c d e f h:tS):Chg (fun x=>x=g) W (st7 W g o a b c d e f h):=by
 have step:∀{V:J},Chg (fun x=>x=g) W V→∀(i:Nat) (u:tS),Chg (fun x=>x=g) W (V.setCell ⟨g,i,Y⟩ u):=fun j i u=>j.K (p:=⟨g,i,Y⟩) (wD Z) u
 unfold st7;exact step (step (step (step (step (step (step (Chg.refl _ W) _ a) _ b) _ c) _ d) _ e) _ f) _ h
theorem FZ{W:J}{a B rest:List tS}{g cap:Nat}(b:a.length=7)(hB:B.length=7)(h:W.heap[g]?=A (r7 (a++B++rest).toArray 166 (0,0)))(c:2≤cap)(d:cap≤maxLen)(e:(a++B++rest).length=cap*7) :
  W.ownsRow 0 166 7 (O (A ⟨g,0,Y⟩) 2 cap) 2 (a++B):=
 ⟨by rw[J2,b,hB],wF ⟨g,cap,_,Z,J0 _,h,c,d,by rw[List.size_toArray];exact e,List.take_left' (by rw[J2,b,hB])⟩⟩
theorem Hp(a b:ak)(c j:Option z7)(d n2 f c2 g cap:Nat)(w:J)(k:w.ownsRow 0 166 7 (O (A ⟨g,0,Y⟩) 2 cap) 2 (cU a (O c d f)++cU b (O j n2 c2))) :
  vv va 189 #[O (A ⟨g,0,Y⟩) 2 cap] w fun e w'=>e=wg (y9 #[])∧Chg (fun x=>x=g) w w'∧w'.ownsRow 0 166 7 (O (A ⟨g,0,Y⟩) 2 cap) 2 (cU b (O j n2 c2)++cU a (O c d f)):=by
 obtain⟨_,⟨h,_⟩|⟨B,q,cur,h,_,m,r,s,t,v⟩⟩:=k
 ·cases h
 injection h with l _ y
 injection l with l
 injection l with l
 subst l;subst y;obtain⟨rest,z⟩:∃rest,cur=(cU a (O c d f)++cU b (O j n2 c2)++rest).toArray:=⟨cur.toList.drop (2*7),by rw[←v,List.take_append_drop]⟩;subst z;refine (EF a b c j d n2 f c2 g cap _ w m (fun i u hu=>?_) (fun i u hu=>?_)).mono ?_
 ·rw[Kq _ _ _ _ _ _ m];have hi:i<7:=(J3.1 hu).1;rw[List.getElem?_toArray,List.append_assoc,Kl (by exact hi)];exact hu
 ·rw[Kq _ _ _ _ _ _ m];have hi:i<7:=(J3.1 hu).1;rw[List.getElem?_toArray,List.append_assoc,Kd (by show 7≤7+i;omega),Kl (by show 7+i-7<7;omega)];have e:7+i-(cU a (O c d f)).length=i:=by show 7+i-7=i;omega
  rw[e];exact hu
 ·rintro e w' ⟨rfl,rfl⟩;have n:(st7 (st7 w g 0 (I r8 b.q) (I r8 b.h.q) (I U b.h.u) (r9 b.h.h) (I U b.u) (I r8 b.op) (O j n2 c2)) g 7 (I r8 a.q) (I r8 a.h.q) (I U a.h.u) (r9 a.h.h) (I U a.u) (I r8 a.op) (O c d f)).drew.heap[g]?=A (r7 (cU b (O j n2 c2)++cU a (O c d f)++rest).toArray 166 (0,0)):=
   I8 m Z Z (I r8 b.q) (I r8 b.h.q) (I U b.h.u) (r9 b.h.h) (I U b.u) (I r8 b.op) (O j n2 c2) (I r8 a.q) (I r8 a.h.q) (I U a.h.u) (r9 a.h.h) (I U a.u) (I r8 a.op) (O c d f)
  have p:=((uj (W:=w) (g:=g) (o:=0) (I r8 b.q) (I r8 b.h.q) (I U b.h.u) (r9 b.h.h) (I U b.u) (I r8 b.op) (O j n2 c2)).h (uj (g:=g) (o:=7) (I r8 a.q) (I r8 a.h.q) (I U a.h.u) (r9 a.h.h) (I U a.u) (I r8 a.op) (O c d f))).h (Chg.u ((JO _ _).drew));exact⟨Z,p,FZ Z Z n r s (by rw[←t];rfl)⟩
theorem f6{w:J}{T:Nat}{a b c d e f h:tS}{t:xD}(g:w.heap[T]?=A (r7 #[a,b,c,d,e,f,h] t (0,0))) :
  w.cell? ⟨T,0,Y⟩=A a∧w.cell? ⟨T,1,Y⟩=A b∧w.cell? ⟨T,2,Y⟩=A c∧w.cell? ⟨T,3,Y⟩=A d∧w.cell? ⟨T,4,Y⟩=A e∧w.cell? ⟨T,5,Y⟩=A f∧w.cell? ⟨T,6,Y⟩=A h:=by
 simp[World.cell?,g]
theorem lE{W:J}{g:Nat}{i j x2 x3 x4 x5 x6:tS}{t:xD}(k:W.heap[g]?=A (r7 #[i,j,x2,x3,x4,x5,x6] t (0,0)))(a b c d e f h:tS):(st7 W g 0 a b c d e f h).heap[g]?=A (r7 #[a,b,c,d,e,f,h] t (0,0)):=by
 have m:=rC (o:=0) (l:=[i,j,x2,x3,x4,x5,x6]) k a b c d e f h;rw[m];simp
theorem ka(W:J)(i:AJ→J→Prop)(T:Nat)(a b c d e f h:tS)(j:W.heap[T]?=A (r7 #[a,b,c,d,e,f,h] 166 (0,0)))
  (tmps:Array tS) (k:tmps.getD 4 xk=vo (A ⟨T,0,Y⟩)) (l:i (wg (wP #[a,b,c,d,e,f,h])) W):bodyPost va Tryz.f158 i .ret ⟨tmps,[]⟩ W:=by
 obtain⟨m,n,c2,o,c4,p,q⟩:=f6 j;have g:tmps[4]?.getD xk=vo (A ⟨T,0,Y⟩):=by simpa using k
 refine bodyPost_ret (v:=wP #[a,b,c,d,e,f,h]) ?_ Z l;simp[results,Tryz.results158,go_sem,g,m,n,c2,o,c4,p,q]
theorem IM(t:ByteArray):I64 (ot t):=by
 have h:=vx (strip t.data.toList);unfold nS at h;unfold ot I64;dsimp only
 split<;>omega
theorem tX(T:ac)(c:T.h.size≤72007):gy (br T):=by
 have a:U8 2:=⟨by decide,by decide⟩;have b:U8 1:=⟨by decide,by decide⟩;have i0:I64 0:=⟨by decide,by decide⟩;unfold br
 split
 ·exact⟨a,i0,by show T.h.size≤maxLen;unfold maxLen;omega⟩
 ·exact⟨b,IM _,J0 _⟩
theorem Jl(t:List UInt8)(k:Nat):U8 (opM t k).1:=by
 have h:∀(b:Bool) (x y:Int×Bool),U8 x.1→U8 y.1→U8 (if b then x else y).1:=fun b x y c d=>by cases b;exact d;exact c
 have a:∀(n:Nat) (b:Bool),n<20→U8 ((n:Int),b).1:=fun n b e=>⟨by show (0:Int)≤n;omega,by show (n:Int)<256;omega⟩
 unfold opM;refine h _ _ _ (h _ _ _ (a 7 _ (by decide)) (h _ _ _ (a 8 _ (by decide)) (h _ _ _ (a 1 _ (by decide)) (h _ _ _ (a 2 _ (by decide)) (h _ _ _ (a 3 _ (by decide)) (h _ _ _ (a 5 _ (by decide)) (h _ _ _ (a 6 _ (by decide)) (h _ _ _ (a 7 _ (by decide)) (h _ _ _ (a 8 _ (by decide)) (h _ _ _ (a 9 _ (by decide)) (h _ _ _ (a 10 _ (by decide)) (a 0 _ (by decide))))))))))))) (h _ _ _ (a 4 _ (by decide)) (a 11 _ (by decide)))
theorem pg{B:Nat}{w W:J}{g:Nat}(j:Below B w W)(i:B≤g)(a b c d e f h:tS):Below B w (st7 W g 0 a b c d e f h):=by
 unfold st7;exact ((((((j.setCell i a).setCell i b).setCell i c).setCell i d).setCell i e).setCell i f).setCell i h
theorem sD(d M:Nat)(vars:List ByteArray)(T:ac)(p:Option z7)(n c:Nat)(w:J)(i:T.q=14∨T.q=15)(r:T.h.size≤72007) :
  vv va 158 #[vo (A ⟨M,0,Y⟩),wP #[I r8 T.q,r9 T.h,I U T.u,I U T.C,O p n c]] w (dY d (aJ vars d T) w):=by
 have t:Hid (aJ vars d T=xn (.mk 1 (br T) 0 0 [])):=by
  show _=_
  cases d<;>(unfold aJ;rcases i with h|h<;>rw[h]<;>rfl)
 obtain⟨l,j,_⟩:=bc w (r7 #[I r8 T.q,r9 T.h,I U T.u,I U T.C,O p n c] 145) (r7 #[I r8 0,I r8 0,I U 0,r9 ⟨#[]⟩,I U 0,I r8 0,O Y 0 0] 166);have k:Kr w ((w.alloc (r7 #[I r8 T.q,r9 T.h,I U T.u,I U T.C,O p n c] 145)).alloc (r7 #[I r8 0,I r8 0,I U 0,r9 ⟨#[]⟩,I U 0,I r8 0,O Y 0 0] 166)):=((JO _ w).alloc (JM _) _).alloc (by simp) _;have s:Hid (vv va 187 #[wP #[I r8 T.q,r9 T.h,I U T.u,I U T.C,O p n c]] ((w.alloc (r7 #[I r8 T.q,r9 T.h,I U T.u,I U T.C,O p n c] 145)).alloc (r7 #[I r8 0,I r8 0,I U 0,r9 ⟨#[]⟩,I U 0,I r8 0,O Y 0 0] 166)) fun e w'=>e=wg (wP #[I r8 (br T).q,I U (br T).u,r9 (br T).h])∧Below ((w.alloc (r7 #[I r8 T.q,r9 T.h,I U T.u,I U T.C,O p n c] 145)).alloc (r7 #[I r8 0,I r8 0,I U 0,r9 ⟨#[]⟩,I U 0,I r8 0,O Y 0 0] 166)).heap.size ((w.alloc (r7 #[I r8 T.q,r9 T.h,I U T.u,I U T.C,O p n c] 145)).alloc (r7 #[I r8 0,I r8 0,I U 0,r9 ⟨#[]⟩,I U 0,I r8 0,O Y 0 0] 166)) w'):=uL T (O p n c) _ i r;obtain⟨b,f,u⟩:=zz3 j k (tX T r);clear l j k;rcases i with i|i
 all_goals
  rw[i]at s b f ⊢
  go_enter Tryz.func158,Tryz.ntmps158
  go_wp2_with fail
  refine s.o.mono ?_;rintro e v ⟨rfl,g⟩;have a:=aa g b.o (JL.1 b.o).1;obtain⟨m,q⟩:=zz2 (f.o.trans (g.mono f.o.size)) (lE a (I r8 1) (I r8 (br T).q) (I U (br T).u) (r9 (br T).h) (I U 0) (I r8 0) (O Y 0 0));have x:Hid (dY d (aJ vars d T) w (wg (wP #[I r8 1,I r8 (br T).q,I U (br T).u,r9 (br T).h,I U 0,I r8 0,O Y 0 0])) (st7 v (w.heap.size+1) 0 (I r8 1) (I r8 (br T).q) (I U (br T).u) (r9 (br T).h) (I U 0) (I r8 0) (O Y 0 0))):=by
   refine⟨pg m.o (J9 _) _ _ _ _ _ _ _,?_⟩;rw[t.o];refine⟨O Y 0 0,Z,⟨⟨by show (0:Int)≤1;decide,by show (1:Int)<256;decide⟩,u.o,⟨by show (-9223372036854775808:Int)≤0;decide,by show (0:Int)<9223372036854775808;decide⟩,⟨by show (0:Int)≤0;decide,by show (0:Int)<256;decide⟩⟩,?_⟩
   cases d with
   | zero=>exact⟨Z,Y,0,Z⟩
   | succ d=>exact wD ⟨Z,Y,0,Z⟩
  obtain⟨y,z,c2,B,c4,C,D⟩:=f6 a;have f0:=ab a;clear a g;go_wp2_with fail
  exact ka _ _ (w.heap.size+1) _ _ _ _ _ _ _ q.o _ Z x.o
theorem yw(d M:Nat)(vars:List ByteArray)(vV:tS)(T:ac)(p:Option z7)(n c:Nat)(w:J)(u:pO M vars vV w)(hk:T.q=13) :
  vv va 158 #[vo (A ⟨M,0,Y⟩),wP #[I r8 T.q,r9 T.h,I U T.u,I U T.C,O p n c]] w (dY d (aJ vars d T) w):=by
 have K:Hid (aJ vars d T=match idxOf T.h vars with|some k=>xn (.mk 2 .zero k 0 [])|none=>zs (213,T.C)):=by
  show _=_
  cases d<;>(unfold aJ;rw[hk];rfl)
 rw[hk];have N:=Rd.sb u.v;obtain⟨pV,cV,P⟩:=Rd.q u.v;subst P;obtain⟨w1,i⟩:=zzx ((w.alloc (r7 #[I r8 13,r9 T.h,I U T.u,I U T.C,O p n c] 145)).alloc (r7 #[I r8 0,I r8 0,I U 0,r9 ⟨#[]⟩,I U 0,I r8 0,O Y 0 0] 166));obtain⟨j,r,_⟩:=bc w (r7 #[I r8 13,r9 T.h,I U T.u,I U T.C,O p n c] 145) (r7 #[I r8 0,I r8 0,I U 0,r9 ⟨#[]⟩,I U 0,I r8 0,O Y 0 0] 166);have s:Kr w w1:=by rw[i];exact ((JO _ w).alloc (JM _) _).alloc (by simp) _
 rw[←i]at j r;obtain⟨y,z,a⟩:=zz3 j r s;have t:=u.C s;obtain⟨Q,R⟩:=zz2 u.v (fun (x:Wb w1)=>vG vars T.h (O pV vars.length cV) _ x.1 (t.C x.2).v);obtain⟨nv,B⟩:=zzy (vars.length);have hm:=t.m;rw[B]at R hm N;obtain⟨S,L,V,W,X⟩:=cells5 j;clear j r s u t B
 go_enter Tryz.func158,Tryz.ntmps158
 go_upto_region 6 with fail
 change Code.wp _ _ _ _ ((w.alloc (r7 #[I r8 13,r9 T.h,I U T.u,I U T.C,O p n c] 145)).alloc (r7 #[I r8 0,I r8 0,I U 0,r9 ⟨#[]⟩,I U 0,I r8 0,O Y 0 0] 166));rw[show (w.alloc (r7 #[I r8 13,r9 T.h,I U T.u,I U T.C,O p n c] 145)).alloc (r7 #[I r8 0,I r8 0,I U 0,r9 ⟨#[]⟩,I U 0,I r8 0,O Y 0 0] 166)=w1 from i.symm];clear i;have X1:=fun x:Wb w1=>x.h L
 have M2:=fun x:Wb w1=>x.h hm
 refine ao (by kernel_rfl) (by kernel_rfl) ?_
 repeat (go_big_quiet_step ((go_at_call 186;exact Calls.h (R.o _))))
 refine xL ?_;intro W2 C;have D:=bA C;have b:=Hd D;clear C D X1 M2 R S L V W X hm;have E:=aa b.o y.o (JL.1 y.o).1;have F:=Hd (aa b.o z.o (JL.1 z.o).1);obtain⟨S,L,V,W,X⟩:=cells5 E;clear E
 cases f:idxOf T.h vars with
 | some k =>
  rw[f]at K;rw[show eK (A k)=(k:Int) from rfl];have ar:¬(k:Int)<0:=by omega
  have l:=Hd (bZ [(false,213)] 13 T.h T.u T.C (O p n c) W2.heap.size 1 1 (W2.alloc (r7 #[xt false,I U 213] 238)) Z (by omega) (oc W2 _));have g:Hid (Kr w (W2.alloc (r7 #[xt false,I U 213] 238))):=(a.o.trans (b.o.mono a.o.size)).alloc (JU a.o.size b.o.size) _;have G:Hid ((W2.alloc (r7 #[xt false,I U 213] 238)).heap[w.heap.size+1]?=_):=aa ((JO W2.heap.size W2).alloc (JM _) _) F.o (JL.1 F.o).1;have H:I64 (k:Int):=by
   have a1:=(oQ T.h vars 0 k f).2;have h2:=Rd.sb Q.o;unfold maxLen at h2;unfold I64;omega
  have ad:=Hd H;clear f H;go_wp2_with fail
  refine l.o.mono ?_;rintro e w5 ⟨h,he⟩;have he:e=wg (y9 #[]):=he;subst he;have q:=aa h G.o (JL.1 G.o).1;have af:=Hd (g.o.trans (h.mono g.o.size));have aq:=Hd (lE q (I r8 2) (I r8 0) (I U 0) (r9 ⟨#[]⟩) (I U (k:Int)) (I r8 0) (O Y 0 0));have HP:Hid (dY d (aJ vars d T) w (wg (wP #[I r8 2,I r8 0,I U 0,r9 ⟨#[]⟩,I U (k:Int),I r8 0,O Y 0 0])) (st7 w5 (w.heap.size+1) 0 (I r8 2) (I r8 0) (I U 0) (r9 ⟨#[]⟩) (I U (k:Int)) (I r8 0) (O Y 0 0))):=by
   refine⟨pg af.o (J9 _) _ _ _ _ _ _ _,?_⟩;rw[K.o];refine⟨O Y 0 0,Z,⟨⟨by show (0:Int)≤2;decide,by show (2:Int)<256;decide⟩,⟨⟨by show (0:Int)≤0;decide,by show (0:Int)<256;decide⟩,⟨by show (-9223372036854775808:Int)≤0;decide,by show (0:Int)<9223372036854775808;decide⟩,J0 _⟩,ad.o,⟨by show (0:Int)≤0;decide,by show (0:Int)<256;decide⟩⟩,?_⟩
   cases d with
   | zero=>exact⟨Z,Y,0,Z⟩
   | succ d=>exact wD ⟨Z,Y,0,Z⟩
  obtain⟨c0,c1,c2,c3,c4,c5,c6⟩:=f6 q;have f0:=ab q;clear q h l S L V W X;go_wp2_with fail
  exact ka _ _ (w.heap.size+1) _ _ _ _ _ _ _ aq.o _ Z HP.o
 | none =>
  rw[f]at K;clear f;rw[show eK Y=(-1:Int) from rfl];have l:=Hd (bZ [(true,213)] 13 T.h T.u T.C (O p n c) W2.heap.size 1 1 (W2.alloc (r7 #[xt true,I U 213] 238)) Z (by omega) (oc W2 _));have g:Hid (Kr w (W2.alloc (r7 #[xt true,I U 213] 238))):=(a.o.trans (b.o.mono a.o.size)).alloc (JU a.o.size b.o.size) _;go_wp2_with fail
  refine l.o.mono ?_;rintro e w5 ⟨h,he⟩;have he:e=aR 213 T.C:=he;subst he;refine⟨Z,g.o.trans (h.mono g.o.size),?_⟩;rw[K.o];rfl
def opR(T:ac) (r:Except Flt (List ak)):Except Flt ak:=match r with
 | .error e=>zs e
 | .ok ks=>xn (.mk 3 .zero 0 (opM T.h.data.toList T.z.length).1 (if (opM T.h.data.toList T.z.length).2 then ks.reverse else ks))
theorem Ei{W:J}{g o:Nat}(a b c d e f h:tS)(k:Nat)(l:k≠g):(st7 W g o a b c d e f h).heap[k]?=W.heap[k]?:=by
 have j:∀(V:J) (i:Nat) (u:tS),(V.setCell ⟨g,i,Y⟩ u).heap[k]?=V.heap[k]?:=fun V i u=>JQ V ⟨g,i,Y⟩ u k l
 unfold st7;rw[j,j,j,j,j,j,j]
theorem Ay(t:List UInt8)(k:Nat)(h:¬k=2):opM t k=if t==[45] then (4,false) else (11,false):=by
 unfold opM;have e:(k==2)=false:=by simpa using h
 rw[e];rfl
theorem Ie{d:Nat}{W:J}{F:Nat→Prop}{q:Option z7}{m:Nat}{ks:List ak}(h:aA W F 166 (bX d) ks (O q 2 m))(r:ks.length=2) :
  ∃a b k w l f n2 c2 g,ks=[a,b]∧q=A ⟨g,0,Y⟩∧W.ownsRow 0 166 7 (O q 2 m) 2 (cU a (O k w l)++cU b (O f n2 c2))∧
   ∀W',(∀x,F x→∀o,W.heap[x]?=A o→W'.heap[x]?=A o)→W'.ownsRow 0 166 7 (O q 2 m) 2 (cU b (O f n2 c2)++cU a (O k w l))→aA W' F 166 (bX d) [b,a] (O q 2 m):=by
 obtain⟨us,j,y,c⟩:=h
 match ks,r with
 | [a,b],_ =>
  rw[l6]at j y;obtain⟨L,z,n⟩:=c 0 a Z;obtain⟨M,B,p⟩:=c 1 b Z;obtain⟨_,N,rfl,s⟩:=m8.1 z;obtain⟨_,P,rfl,t⟩:=m8.1 B;obtain⟨k,l,rfl⟩:=ge s;obtain⟨f,c2,rfl⟩:=ge t;rw[l6]at n p;have u:us=cU a (O k a.z.length l)++cU b (O f b.z.length c2):=by
   apply List.ext_getElem?;intro i
   by_cases C:i<7
   ·rw[Kl (by exact C)];have:=n i _ (JR (by exact C));rw[show 0*7+i=i by omega]at this;rw[this];exact (JR _).symm
   ·rw[Kd (by show 7≤i;omega)]
    by_cases D:i<14
    ·have E:i-7<(cU b (O f b.z.length c2)).length:=by show i-7<7;omega
     have:=p (i-7) _ (JR E);rw[show 1*7+(i-7)=i by omega]at this;rw[this];exact (JR _).symm
    ·rw[List.getElem?_eq_none (by rw[y];show 2*7≤i;omega),List.getElem?_eq_none (by show 7≤i-7;omega)]
  subst u;have e:W.ownsRow 0 166 7 (O q 2 m) 2 (cU a (O k a.z.length l)++cU b (O f b.z.length c2)):=j;obtain⟨g,G⟩:∃g,q=A ⟨g,0,Y⟩:=by
   rcases e.2 with ⟨_,H⟩|⟨g,_,_,v,_⟩
   ·cases H
   ·injection v with v _ _;exact⟨g,v⟩
  refine⟨a,b,k,_,l,f,_,c2,g,Z,G,e,fun W' r K=>⟨_,?_,Rd.th (xs:=[b]) (us:=cU b (O f b.z.length c2)) (Rd.th (xs:=[]) (us:=[]) Rd.tv ((bX d).K r B)) ((bX d).K r z)⟩⟩;rw[l6];exact K
theorem mm{d:Nat}{w w1 W2 W:J}{op:Int}{ks:List ak}{v:tS}(n:Kr w W)(p:w.heap.size+2≤w1.heap.size)(q:W2.heap.size≤W.heap.size)(i:U8 op)
  (c:aA W (fun b=>bs w1 W2 b∧v.ownBlock≠A b) 166 (bX d) ks v) (f:∀g,v.ownBlock=A g→w1.heap.size≤g) (j:∀g,v.ownBlock=A g→g<W2.heap.size) :
  dY (d+1) (xn (.mk 3 .zero 0 op ks)) w (wg (wP #[I r8 3,I r8 0,I U 0,r9 ⟨#[]⟩,I U 0,I r8 op,v])) (st7 W (w.heap.size+1) 0 (I r8 3) (I r8 0) (I U 0) (r9 ⟨#[]⟩) (I U 0) (I r8 op) v):=by
 have k:=pg n (J9 _) (I r8 3) (I r8 0) (I U 0) (r9 ⟨#[]⟩) (I U 0) (I r8 op) v;have t:=(uj (W:=W) (g:=w.heap.size+1) (o:=0) (I r8 3) (I r8 0) (I U 0) (r9 ⟨#[]⟩) (I U 0) (I r8 op) v).z;have i0:I64 0:=⟨by decide,by decide⟩;have r:U8 0:=⟨by decide,by decide⟩;have s:U8 3:=⟨by decide,by decide⟩;refine⟨k,v,Z,⟨s,⟨r,i0,J0 _⟩,i0,i⟩,?_⟩;have l:=c.z (W':=st7 W (w.heap.size+1) 0 (I r8 3) (I r8 0) (I U 0) (r9 ⟨#[]⟩) (I U 0) (I r8 op) v) (M:=w.heap.size+1) (F':=bs w (st7 W (w.heap.size+1) 0 (I r8 3) (I r8 0) (I U 0) (r9 ⟨#[]⟩) (I U 0) (I r8 op) v)) (fun e=>by have:=f _ e;omega) (fun b a e=>by have:=a.1.1;omega) (fun b a=>⟨by have:=a.1.1;omega,by have:=a.1.2;omega⟩) (fun b a=>Ei _ _ _ _ _ _ _ b a);exact l.h (fun b h=>h) (fun g m=>⟨by have:=f g m;omega,by have:=j g m;omega⟩)
theorem Az(d M:Nat)(T:ac)(p:Option z7)(c:Nat)(r:Except Flt (List ak))(w:J)(hk:T.q≠13∧T.q≠14∧T.q≠15)(hs:T.h.size≤72007)(hlen:∀ks,r=xn ks→ks.length=T.z.length)
  (hex:∀W,Kr w W→vv va 159 #[vo (A ⟨M,0,Y⟩),O p T.z.length c] W (j6 d r W)) :
  vv va 158 #[vo (A ⟨M,0,Y⟩),wP #[I r8 T.q,r9 T.h,I U T.u,I U T.C,O p T.z.length c]] w (dY (d+1) (opR T r) w):=by
 obtain⟨n,hn⟩:=zzy (T.z.length);have HN:=Hd hn;rw[hn]at hex hlen ⊢;have HL:=Hd hlen;obtain⟨w1,ad⟩:=zzx ((w.alloc (r7 #[I r8 T.q,r9 T.h,I U T.u,I U T.C,O p n c] 145)).alloc (r7 #[I r8 0,I r8 0,I U 0,r9 ⟨#[]⟩,I U 0,I r8 0,O Y 0 0] 166));obtain⟨af,bl,_⟩:=bc w (r7 #[I r8 T.q,r9 T.h,I U T.u,I U T.C,O p n c] 145) (r7 #[I r8 0,I r8 0,I U 0,r9 ⟨#[]⟩,I U 0,I r8 0,O Y 0 0] 166);have bm:Kr w w1:=by rw[ad];exact ((JO _ w).alloc (JM _) _).alloc (by simp) _
 rw[←ad]at af bl;obtain⟨bR,bn,b7,HC⟩:=zz4 af bl bm (hex w1 bm);have cW:¬((T.q:Int)=13):=by have:=hk.1;omega
 have c7:¬((T.q:Int)=14):=by have:=hk.2.1;omega
 have c8:¬((T.q:Int)=15):=by have:=hk.2.2;omega
 obtain⟨e0,e1,e2,e3,e4⟩:=cells5 af;clear af bl bm hex hn hlen hk
 go_enter Tryz.func158,Tryz.ntmps158
 go_upto_region 9 with fail
 change Code.wp _ _ _ _ ((w.alloc (r7 #[I r8 T.q,r9 T.h,I U T.u,I U T.C,O p n c] 145)).alloc (r7 #[I r8 0,I r8 0,I U 0,r9 ⟨#[]⟩,I U 0,I r8 0,O Y 0 0] 166));rw[←ad];clear ad;go_wp2_with fail
 refine HC.o.mono ?_;rintro e W2 ⟨aq,he⟩;obtain⟨j,bq,K⟩:=zz3 (b7.o.trans (aq.mono b7.o.size)) (aa aq bR.o (JL.1 bR.o).1) (aa aq bn.o (JL.1 bn.o).1);clear e0 e1 e2 e3 e4 aq
 cases r with
 | error er =>
  have he:e=aR er.1 er.2:=he;subst he;exact⟨Z,j.o,Z⟩
 | ok ks =>
  obtain⟨v,rfl,B,b8⟩:=he;have bt:=HL.o ks Z;obtain⟨q,k,hv⟩:=B.q;rw[bt]at hv;subst hv;obtain⟨ar,L,HK⟩:=zz3 B b8 bt;obtain⟨e0,e1,e2,e3,e4⟩:=cells5 bq.o;have N:Hid (w.heap.size+2≤w1.heap.size):=by
   have h:=(JL.1 bn.o).1
   show _≤_
   omega
  have P:=Hd (fun g hg=>B.lt (g:=g) hg);clear B b8 bt;go_upto_region 10 with fail
  obtain⟨W3,a1⟩:=zzx (W2.alloc (r7 #[I r8 3,I r8 0,I U 0,r9 ⟨#[]⟩,I U 0,I r8 0,O q n k] 166));have s:Kr W2 W3:=by rw[a1];exact (JO _ _).alloc (JM _) _
  have b9:W3.heap[W2.heap.size]?=A (r7 #[I r8 3,I r8 0,I U 0,r9 ⟨#[]⟩,I U 0,I r8 0,O q n k] 166 (0,0)):=by rw[a1];exact oc W2 _
  rw[←a1];clear a1 e0 e1 e2 e3 e4;obtain⟨C,E,cu,a6,c9⟩:=zz5 s b9 (aa s bq.o (JL.1 bq.o).1) (aa s K.o (JL.1 K.o).1) (j.o.trans (s.mono j.o.size));clear s b9;obtain⟨e0,e1,e2,e3,e4⟩:=cells5 cu.o
  by_cases h2:n=2
  ·subst h2;have ca:=Hd (IS T.h (by unfold maxLen;omega) W3);clear e0 e2 e3;go_upto_region 13 with fail
   clear e4;go_wp2_with fail
   refine ca.o.mono ?_;rintro e u ⟨rfl,D⟩;have f:=aa D E.o (JL.1 E.o).1;obtain⟨cb,cv,cc⟩:=zz3 f (aa D a6.o (JL.1 a6.o).1) (C.o.trans (D.mono C.o.size));have f0:=ab f 5;obtain⟨b0,b1,b2,b3,b4,X,b6⟩:=f6 f;clear b0 b1 b2 b3 b4 b6 f D e1;go_upto_region 16 with fail
   have HU:=Hd (Jl T.h.data.toList 2);have F:Hid (opR T (xn ks)=xn (.mk 3 .zero 0 (opM T.h.data.toList 2).1 (if (opM T.h.data.toList 2).2 then ks.reverse else ks))):=by
    show opR T (xn ks)=_
    unfold opR;rw[HN.o]
   generalize (opM T.h.data.toList 2).1=op at *;generalize (opM T.h.data.toList 2).2=tu at *;obtain⟨W5,Q⟩:=zzx (u.setCell ⟨W2.heap.size,5,Y⟩ (I r8 op));have t:W5.heap[W2.heap.size]?=A (r7 #[I r8 3,I r8 0,I U 0,r9 ⟨#[]⟩,I U 0,I r8 op,O q 2 k] 166 (0,0)):=by rw[Q];exact heap_set cb.o 5 _
   have G:W5.heap[w.heap.size+1]?=A (r7 #[I r8 0,I r8 0,I U 0,r9 ⟨#[]⟩,I U 0,I r8 0,O Y 0 0] 166 (0,0)):=by rw[Q];exact (JQ u ⟨W2.heap.size,5,Y⟩ _ _ (by have:=(JL.1 K.o).1;show w.heap.size+1≠W2.heap.size;omega)).trans cv.o
   have a:Kr W2 W5:=by rw[Q];exact cc.o.setCell (JM _) _
   rw[←Q];clear Q X f0;have ba:=j.o.trans (a.mono j.o.size)
   cases tu with
   | false =>
    have HP:Hid (dY (d+1) (opR T (xn ks)) w (wg (wP #[I r8 3,I r8 0,I U 0,r9 ⟨#[]⟩,I U 0,I r8 op,O q 2 k])) (st7 W5 (w.heap.size+1) 0 (I r8 3) (I r8 0) (I U 0) (r9 ⟨#[]⟩) (I U 0) (I r8 op) (O q 2 k))):=by
     show dY _ _ _ _ _
     rw[F.o];exact mm (w1:=w1) (W2:=W2) ba N.o a.size HU.o (ar.o.C a (fun b m=>m.1.2) (fun b m=>m)) L.o P.o
    have z:=Hd (lE G (I r8 3) (I r8 0) (I U 0) (r9 ⟨#[]⟩) (I U 0) (I r8 op) (O q 2 k));obtain⟨b0,b1,b2,b3,b4,X,b6⟩:=f6 t;obtain⟨c0,c1,c2,c3,c4,c5,c6⟩:=f6 G;have f0:=ab G;clear t G a ba;go_upto_region 18 with fail
    go_wp2_with fail
    exact ka _ _ (w.heap.size+1) _ _ _ _ _ _ _ z.o _ Z HP.o
   | true =>
    have cf:=ar.o.C (F':=fun b=>bs w1 W2 b∧(O q 2 k).ownBlock≠A b) a (fun b m=>m.1.2) (fun b m=>m);obtain⟨x,y,p1,n1,cy,p2,n2,cA,g,ch,hq,bd,R⟩:=Ie cf HK.o;subst hq;have ck:=Hd (Hp x y p1 p2 n1 n2 cy cA g k W5 bd);have cC:=L.o g Z;have cR:=P.o g Z;obtain⟨cT,bg,cl,cm,cn⟩:=zz5 R t G a ba;have bB:Hid (w.heap.size+1≠g∧W2.heap.size≠g∧w.heap.size≤g):=by
     have:=N.o;exact⟨by omega,by omega,by omega⟩
    have cV:=Hd ch;obtain⟨b0,b1,b2,b3,b4,X,b6⟩:=f6 t;clear t G a ba cf bd R cC cR ch b0 b1 b2 b3 b4 X;go_upto_region 17 with fail
    go_wp2_with fail
    refine ck.o.mono ?_;rintro e W6 ⟨rfl,H,S⟩;have cp:=(JL.1 bg.o).1;have bk:=(H.q _ cp bB.o.2.1).trans bg.o;have bb:=(H.q _ (JL.1 cl.o).1 bB.o.1).trans cl.o;have cr:=Chg.X cn.o H (fun b h=>by rw[h];exact bB.o.2.2) cn.o.size;have ct:=cT.o W6 (fun b m o ho=>(H.q b (JS m.1.2 cm.o.size) (fun e=>m.2 (by rw[e];rfl))).trans ho) S;have HP:Hid (dY (d+1) (opR T (xn ks)) w (wg (wP #[I r8 3,I r8 0,I U 0,r9 ⟨#[]⟩,I U 0,I r8 op,O (A ⟨g,0,Y⟩) 2 k])) (st7 W6 (w.heap.size+1) 0 (I r8 3) (I r8 0) (I U 0) (r9 ⟨#[]⟩) (I U 0) (I r8 op) (O (A ⟨g,0,Y⟩) 2 k))):=by
     show dY _ _ _ _ _
     rw[F.o,cV.o];exact mm (w1:=w1) (W2:=W2) cr N.o (JU cm.o.size H.z) HU.o ct L.o P.o
    have z:=Hd (lE bb (I r8 3) (I r8 0) (I U 0) (r9 ⟨#[]⟩) (I U 0) (I r8 op) (O (A ⟨g,0,Y⟩) 2 k));obtain⟨b0,b1,b2,b3,b4,X,b6⟩:=f6 bk;obtain⟨c0,c1,c2,c3,c4,c5,c6⟩:=f6 bb;have f0:=ab bb;clear bk bb cr ct H S cp;go_upto_region 18 with fail
    go_wp2_with fail
    exact ka _ _ (w.heap.size+1) _ _ _ _ _ _ _ z.o _ Z HP.o
  ·have dd:¬((n:Int)=2):=by omega
   clear e0 e2 e3;go_upto_region 14 with fail
   clear e4;have f0:=ab E.o 5;obtain⟨b0,b1,b2,b3,b4,X,b6⟩:=f6 E.o;clear b0 b1 b2 b3 b4 b6;go_upto_region 16 with fail
   ·have F:Hid (opR T (xn ks)=xn (.mk 3 .zero 0 4 ks)):=by
     have e:(T.h.data.toList==[45])=true:=by rw[←J1];assumption
     show opR T (xn ks)=_
     unfold opR;rw[HN.o,Ay _ _ h2,e];rfl
    obtain⟨u,i⟩:=zzx (W3.setCell ⟨W2.heap.size,5,Y⟩ (I r8 4));have f:u.heap[W2.heap.size]?=A (r7 #[I r8 3,I r8 0,I U 0,r9 ⟨#[]⟩,I U 0,I r8 4,O q n k] 166 (0,0)):=by rw[i];exact heap_set E.o 5 _
    have l:u.heap[w.heap.size+1]?=A (r7 #[I r8 0,I r8 0,I U 0,r9 ⟨#[]⟩,I U 0,I r8 0,O Y 0 0] 166 (0,0)):=by rw[i];exact (JQ W3 ⟨W2.heap.size,5,Y⟩ _ _ (by have:=(JL.1 K.o).1;show w.heap.size+1≠W2.heap.size;omega)).trans a6.o
    have a:Kr W2 u:=by rw[i];exact C.o.setCell (JM _) _
    rw[←i];clear i X f0;have V:=j.o.trans (a.mono j.o.size);have HP:Hid (dY (d+1) (opR T (xn ks)) w (wg (wP #[I r8 3,I r8 0,I U 0,r9 ⟨#[]⟩,I U 0,I r8 4,O q n k])) (st7 u (w.heap.size+1) 0 (I r8 3) (I r8 0) (I U 0) (r9 ⟨#[]⟩) (I U 0) (I r8 4) (O q n k))):=by
     show dY _ _ _ _ _
     rw[F.o];exact mm (w1:=w1) (W2:=W2) V N.o a.size ⟨by decide,by decide⟩ (ar.o.C a (fun b m=>m.1.2) (fun b m=>m)) L.o P.o
    have z:=Hd (lE l (I r8 3) (I r8 0) (I U 0) (r9 ⟨#[]⟩) (I U 0) (I r8 4) (O q n k));obtain⟨b0,b1,b2,b3,b4,X,b6⟩:=f6 f;obtain⟨c0,c1,c2,c3,c4,c5,c6⟩:=f6 l;have f0:=ab l;clear f l a V e1;go_upto_region 18 with fail
    go_wp2_with fail
    exact ka _ _ (w.heap.size+1) _ _ _ _ _ _ _ z.o _ Z HP.o
   ·have F:Hid (opR T (xn ks)=xn (.mk 3 .zero 0 11 ks)):=by
     have e:(T.h.data.toList==[45])=false:=by rw[←J1];assumption
     show opR T (xn ks)=_
     unfold opR;rw[HN.o,Ay _ _ h2,e];rfl
    obtain⟨u,i⟩:=zzx (W3.setCell ⟨W2.heap.size,5,Y⟩ (I r8 11));have f:u.heap[W2.heap.size]?=A (r7 #[I r8 3,I r8 0,I U 0,r9 ⟨#[]⟩,I U 0,I r8 11,O q n k] 166 (0,0)):=by rw[i];exact heap_set E.o 5 _
    have l:u.heap[w.heap.size+1]?=A (r7 #[I r8 0,I r8 0,I U 0,r9 ⟨#[]⟩,I U 0,I r8 0,O Y 0 0] 166 (0,0)):=by rw[i];exact (JQ W3 ⟨W2.heap.size,5,Y⟩ _ _ (by have:=(JL.1 K.o).1;show w.heap.size+1≠W2.heap.size;omega)).trans a6.o
    have a:Kr W2 u:=by rw[i];exact C.o.setCell (JM _) _
    rw[←i];clear i X f0;have V:=j.o.trans (a.mono j.o.size);have HP:Hid (dY (d+1) (opR T (xn ks)) w (wg (wP #[I r8 3,I r8 0,I U 0,r9 ⟨#[]⟩,I U 0,I r8 11,O q n k])) (st7 u (w.heap.size+1) 0 (I r8 3) (I r8 0) (I U 0) (r9 ⟨#[]⟩) (I U 0) (I r8 11) (O q n k))):=by
     show dY _ _ _ _ _
     rw[F.o];exact mm (w1:=w1) (W2:=W2) V N.o a.size ⟨by decide,by decide⟩ (ar.o.C a (fun b m=>m.1.2) (fun b m=>m)) L.o P.o
    have z:=Hd (lE l (I r8 3) (I r8 0) (I U 0) (r9 ⟨#[]⟩) (I U 0) (I r8 11) (O q n k));obtain⟨b0,b1,b2,b3,b4,X,b6⟩:=f6 f;obtain⟨c0,c1,c2,c3,c4,c5,c6⟩:=f6 l;have f0:=ab l;clear f l a V e1;go_upto_region 18 with fail
    go_wp2_with fail
    exact ka _ _ (w.heap.size+1) _ _ _ _ _ _ _ z.o _ Z HP.o
theorem Dy{α β:Type}{f:α→Except Flt β}:∀(l:List α) (a:List β),cF f l=xn a→a.length=l.length:=by
 have h:∀(l:List α) (b a:List β),aV (fun a x=>match f x with | .error e=>zs e | .ok y=>xn (a++[y])) b l=xn a→a.length=b.length+l.length:=by
  intro l
  induction l with
  | nil=>intro b a h;injection h with h;subst h;rfl
  | cons x l d =>
   intro b a h;unfold aV at h
   cases c:f x with
   | error e=>rw[c]at h;cases h
   | ok y =>
    rw[c]at h;have:=d _ _ h;rw[this];simp;omega
 intro l a g;have:=h l [] a g;rw[this];simp
theorem yq(M:Nat)(vars:List ByteArray)(vV:tS):∀(d:Nat) (T:ac) (s:tS) (w:J),pO M vars vV w→fo d T→ax w w.heap.size d T.z s→
  vv va 158 #[vo (A ⟨M,0,Y⟩),wP #[I r8 T.q,r9 T.h,I U T.u,I U T.C,s]] w (dY d (aJ vars d T) w):=by
 intro d
 induction d with
 | zero =>
  intro T s w g a i;obtain⟨p,c,rfl⟩:=i.h
  by_cases b:T.q=14∨T.q=15
  ·exact sD 0 M vars T p _ c w b a.h
  by_cases f:T.q=13
  ·exact yw 0 M vars vV T p _ c w g f
  have j:T.z=[]:=i.1
  have h:=Az 0 M T p c (xn []) w ⟨f,fun h=>b (wD h),fun h=>b (wF h)⟩ a.h (fun ks h=>by injection h with h;subst h;rw[j];rfl) (fun W k=>by
   have:=qg 0 M vars vV (aJ vars 0) [] (O p T.z.length c) W (g.C k) (wD ⟨Z,p,c,by rw[j];rfl⟩) (by simp) (fun T u=>by simp at u)
   exact this)
  refine h.mono ?_;rintro e w' ⟨v,he⟩;refine⟨v,?_⟩;obtain⟨s2,q,r,t⟩:=he;have hm:aJ vars 0 T=xn (.mk 3 .zero 0 (opM T.h.data.toList T.z.length).1 []):=by
   unfold aJ;have l:(T.q==14||T.q==15)=false:=by simp only[Bool.or_eq_false_iff,o9];exact⟨fun h=>b (wD h),fun h=>b (wF h)⟩
   have m:(T.q==13)=false:=by simpa using f
   rw[l,m];rfl
  rw[hm];have x:(if (opM T.h.data.toList T.z.length).2 then ([]:List ak).reverse else [])=[]:=by split<;>rfl
  rw[x]at q r t;refine⟨s2,q,r,Z,?_⟩;obtain⟨y,c2,z⟩:=ge t;exact⟨y,c2,z⟩
 | succ d B =>
  intro T s w g a i;obtain⟨p,c,rfl⟩:=i.h
  by_cases b:T.q=14∨T.q=15
  ·exact sD (d+1) M vars T p _ c w b a.h
  by_cases f:T.q=13
  ·exact yw (d+1) M vars vV T p _ c w g f
  have h:=Az d M T p c (cF (aJ vars d) T.z) w ⟨f,fun h=>b (wD h),fun h=>b (wF h)⟩ a.h (fun ks h=>Dy _ _ h) (fun W k =>
   qg d M vars vV (aJ vars d) T.z (O p T.z.length c) W (g.C k) ((i.C k).up k.size) a.2.1 (fun K C s W' n _ o=>B K s W' n (a.2.2 K C) o))
  refine h.mono ?_;rintro e w' he;have hm:aJ vars (d+1) T=opR T (cF (aJ vars d) T.z):=by
   conv=>lhs;unfold aJ
   have l:(T.q==14||T.q==15)=false:=by simp only[Bool.or_eq_false_iff,o9];exact⟨fun h=>b (wD h),fun h=>b (wF h)⟩
   have m:(T.q==13)=false:=by simpa using f
   rw[l,m];rfl
  rw[hm];exact he
theorem jA:Elem 272 157 4 48:=Elem.of (z:=wP #[I r8 0,I U 0,I U 0,O Y 0 0]) Tryz.underlying157 (by kernel_rfl) Z (by decide) (by decide)
def i6(F:Nat→Prop) (d M:Nat) (ts:List am) (rs:List aD) (vars:List ByteArray) (nm:ByteArray) (sal nv:Int) (cs:List bj) (acs:List dr) (vT vR vV vC vA:tS) (r:Except Flt dr) (w:J) (e:AJ) (w':J):Prop:=
 Chg (bh M [vT,vR,vV,vC,vA]) w w'∧match r with
 | .ok x=>e=wg (y9 #[])∧∃(F':Nat→Prop) (a:tS),MkW F' d M ts rs vars nm sal nv cs (acs++[x]) vT vR vV vC a w'∧Grew vA a w.heap.size∧(∀b,F b→F' b)∧∀b,F' b→F b∨w.heap.size≤b
 | .error er=>e=aR er.1 er.2
theorem CM(F:Nat→Prop)(d M:Nat)(ts:List am)(rs:List aD)(vars:List ByteArray)(nm:ByteArray)(sal nv:Int)(cs:List bj)(acs:List dr)(vT vR vV vC vA:tS)(T:ac)(p:Option z7)(n c:Nat)(w:J)
  (hw:MkW F d M ts rs vars nm sal nv cs acs vT vR vV vC vA w) (hk:T.q≠8∧T.q≠9∧T.q≠10) (a6:acs.length≤10000) :
  vv va 131 #[vo (A ⟨M,0,Y⟩),wP #[I r8 T.q,r9 T.h,I U T.u,I U T.C,O p n c]] w (i6 F d M ts rs vars nm sal nv cs acs vT vR vV vC vA (xn ⟨4,0,0,[]⟩) w):=by
 have k8:¬((T.q:Int)=8):=by have:=hk.1;omega
 have k9:¬((T.q:Int)=9):=by have:=hk.2.1;omega
 have bk:¬((T.q:Int)=10):=by have:=hk.2.2;omega
 obtain⟨k,l,ba⟩:=hw.a.q;subst ba;obtain⟨q,bb⟩:=zzy (acs.length);have u:=Hd bb;obtain⟨f,t⟩:=zzx ((w.alloc (r7 #[I r8 T.q,r9 T.h,I U T.u,I U T.C,O p n c] 145)).alloc (r7 #[I r8 4,I U 0,I U 0,O Y 0 0] 272));obtain⟨L,z,_⟩:=bc w (r7 #[I r8 T.q,r9 T.h,I U T.u,I U T.C,O p n c] 145) (r7 #[I r8 4,I U 0,I U 0,O Y 0 0] 272);have B:Kr w f:=by rw[t];exact ((JO _ w).alloc (JM _) _).alloc (by simp) _
 rw[←t]at L z;obtain⟨N,r,P,i⟩:=zz4 (fun g hg=>hw.a.lt (g:=g) hg) z B (hw.C B);clear L z B hw hk;obtain⟨us,s,Q⟩:=i.o.a;rw[u.o]at s;rw[u.o]at a6;obtain⟨R,bd⟩:=zz2 s Q;have e0:f.cell? ⟨w.heap.size+1,0,Y⟩=A (I r8 4):=by rw[Kq _ _ _ _ _ _ r.o];rfl
 have e1:f.cell? ⟨w.heap.size+1,1,Y⟩=A (I U 0):=by rw[Kq _ _ _ _ _ _ r.o];rfl
 have e2:f.cell? ⟨w.heap.size+1,2,Y⟩=A (I U 0):=by rw[Kq _ _ _ _ _ _ r.o];rfl
 have e3:f.cell? ⟨w.heap.size+1,3,Y⟩=A (O Y 0 0):=by rw[Kq _ _ _ _ _ _ r.o];rfl
 have C:f.cell? ⟨M,7,Y⟩=A (O k q l):=by rw[Kq _ _ _ _ _ _ i.o.m,←u.o];rfl
 have hK:∀b,(b=M∨b=w.heap.size+1)→b<f.heap.size∧(O k q l).ownBlock≠A b:=fun b j=>by
  rw[←u.o];rcases j with rfl|rfl
  ·exact⟨i.o.lt,row_ne i.o.m i.o.a (by decide)⟩
  ·exact⟨(JL.1 r.o).1,fun e=>by have:=N.o _ e;omega⟩
 have S:=Hd (jR (E:=272) (sz:=4) (row:=us++[I r8 4,I U 0,I U 0,O Y 0 0]) (K:=fun b=>b=M∨b=w.heap.size+1) hK);have E0:=fun x:Ks f (fun b=>b=M∨b=w.heap.size+1)=>x.h (wF Z) e0
 have E1:=fun x:Ks f (fun b=>b=M∨b=w.heap.size+1)=>x.h (wF Z) e1
 have E2:=fun x:Ks f (fun b=>b=M∨b=w.heap.size+1)=>x.h (wF Z) e2
 have E3:=fun x:Ks f (fun b=>b=M∨b=w.heap.size+1)=>x.h (wF Z) e3
 have M2:=fun x:Ks f (fun b=>b=M∨b=w.heap.size+1)=>x.h (wD Z) C
 clear s Q e0 e1 e2 e3 C hK
 go_enter Tryz.func131,Tryz.ntmps131
 go_upto_region 10 with fail
 change Code.wp _ _ _ _ ((w.alloc (r7 #[I r8 T.q,r9 T.h,I U T.u,I U T.C,O p n c] 145)).alloc (r7 #[I r8 4,I U 0,I U 0,O Y 0 0] 272));rw[←t];clear t;refine RE.z (by kernel_rfl) 9 [7,8] [8] (stA 272 4 f k q l (us++[I r8 4,I U 0,I U 0,O Y 0 0])) (ApR f) (fun _ ys=>ys.getD 0 xk) (phA 272 4 f k q l [I r8 4,I U 0,I U 0,O Y 0 0] (us++[I r8 4,I U 0,I U 0,O Y 0 0]) 7 8) (by kernel_rfl) (fun _ _ _ _ _ _ h j=>h.C j) (fun _ _ _ _ h _ hR=>h.K hR) stA.zero ?_;simp only[JY,J7,JZ,J6]
 repeat (refine RE.q (fun W=>∃x:Ks f (fun b=>b=M∨b=w.heap.size+1),W=x.1) (S.o _) Z Z Z stA.zero ?_;go_big_quiet_step (fail);refine xL ?_)
 refine RE.h Z Z ?_ (fun bg=>?_)
 ·intro W V D X;obtain⟨s9,_,h9⟩:=V;exact ek jA (vs:=[I r8 4,I U 0,I U 0,O Y 0 0]) _ Z Z Z h9.z (fun v W' j ho=>⟨[v],Z,j,ApR.u j,ho⟩)
 simp only[Act.put,JP,JW,JV];refine RE.h Z Z ?_ (fun ad=>?_)
 ·intro W V D X;obtain⟨x,rfl⟩:∃x:Wb f,W=x.1:=D Z;exact i9 jA (p:=k) (n:=q) (c:=l) (w4:=f) (vs:=[I r8 4,I U 0,I U 0,O Y 0 0]) (xs:=us) _ _ Z Z (X 7 bg (by kernel_rfl) Z) Z (by simp[Value.oneCell']) x.2 R.o (by omega) (fun v' W' h1 h2 h3=>⟨[v'],Z,h1,h2,h3⟩)
 simp only[Act.put,JP,JW,JV];refine RE.u ?_;intro W D X;have D:ApS 272 4 f k q l (us++[I r8 4,I U 0,I U 0,O Y 0 0]) W:=D;have hV:ApV 272 4 f k q l (us++[I r8 4,I U 0,I U 0,O Y 0 0]) W (ad.getD 0 xk):=X 8 ad Z;obtain⟨g',cap,eg,hg,V,y⟩:=jZ D hV;rw[eg];have af:Chg (fun b=>(O k acs.length l).ownBlock=A b) f W:=by rw[u.o];exact V
 have G:(O k acs.length l).ownBlock=A g'∨f.heap.size≤g':=by rw[u.o];exact hg
 have aq:(jq d).at_ f F ⟨4,0,0,[]⟩ [I r8 4,I U 0,I U 0,O Y 0 0]:=sN.2 ⟨⟨by decide,by decide⟩,⟨by decide,by decide⟩,⟨by decide,by decide⟩,O Y 0 0,Z,Rd.tk⟩;obtain⟨ar,a1,H⟩:=i.o.pushA u.o bd.o aq G af y;have C:W.cell? ⟨M,7,Y⟩=A (O k q l):=by rw[Kq _ _ _ _ _ _ (H.trans i.o.m),←u.o];rfl
 have bl:=aB (H.trans i.o.m) 7;have HP:Hid (i6 F d M ts rs vars nm sal nv cs acs vT vR vV vC (O k acs.length l) (xn ⟨4,0,0,[]⟩) w (wg (y9 #[])) (W.setCell ⟨M,7,Y⟩ (O (A ⟨g',0,Y⟩) (q+1) cap))):=by
  refine⟨dI (Chg.u P.o) a1 (fun x hx=>wD hx),Z,F,_,ar,fun b j=>?_,fun _ h=>h,fun _ h=>wD h⟩;injection j with j
  have j:g'=b:=j;subst j;rcases G with h|h
  ·exact wD h
  ·have:=P.o.size;exact wF (by omega)
 clear D hV X eg hg V y af G ar a1 H E0 E1 E2 E3 M2 S aq;go_wp2_with fail
 go_end0
 exact HP.o
