/- Parts of one proof, joined; conditions stand in each theorem. -/
import Derived.Test.YtoahnjkclckodaaGreatDoorND
import Derived.Maps.Own
import Derived.Maps.Views
open Go.IntKind renaming u8→tF,i64→U
open Go.Proofs.Tryz renaming prog→vo
open Go renaming World→J,Calls→wg,TypeId→zs,Addr→At,Value→tT
open Option renaming some→A,none→Y
open Go.Value renaming string→tS,int→I,tuple→y9,bool→xv,slice→O,agg→xk,pointer→vv
open Go.Ending renaming returned→wj
open Go.Obj renaming cells→r9
open Except renaming ok→xt,error→z6
namespace Go.Proofs.YtoahnjkclckodaaGreatDoor
set_option maxHeartbeats 4000000
set_option maxRecDepth 100000
open Go.RowKit Go.Maps
def zy:List (List UInt8×Int):=[([111,114],10),([97,110,100],9),([60,61],8),([60],7),([33,61],6),([61],5),([42],3),([45],2),([43],1)]
def mw{H:Type}:List (List UInt8×Int)→DataW H
 | []=>.map []
 | p::r=>(mw r).put (.string p.1) (.lit (.int tF p.2))
def mN:List (List UInt8×Int)→List UInt8→Int
 | [],_=>0
 | p::r,t=>if t=p.1 then p.2 else mN r t
theorem uG{H:Type}:∀l:List (List UInt8×Int),IsMap (mw (H:=H) l)
 | []=>⟨[],Z⟩
 | p::r=>by
  obtain⟨es,h⟩:=uG (H:=H) r;exact⟨_,by rw[mw,h];rfl⟩
theorem xl{H:Type}(t:List UInt8):∀l:List (List UInt8×Int),(mw (H:=H) l).atKey (.string t) (.lit (.int tF 0))=.lit (.int tF (mN l t))
 | []=>rfl
 | p::r=>by
  by_cases h:t=p.1
  ·rw[mw,h,atKey_put_same (uG r) (by trivial),mN,oE Z]
  ·rw[mw,atKey_put_other (fun e=>h (by injection e)),mN,oB h,xl t r]
theorem uv:Keyed vo 9:=string_keyed Tryz.underlying9
theorem eQ{H:Type}{w:J}{b n:Nat}{l:List (List UInt8×Int)}(h:w.ownsMap vo 9 (plainElem (H:=H) vo 163) b n (mw l))(d:n<20)(k:ByteArray)(c:Int)(e:k.size<20)(a:(Lit.int tF c).wf=true) :
  ∃w',(Instr.mapUpdate 312 (.map (A b)) (tS k) (I tF c)).run vo w=.ok () w'∧w'.ownsMap vo 9 (plainElem (H:=H) vo 163) b (n+1) (mw ((k.data.toList,c)::l))∧w.grownBy w' (A b):=
 h.update uv Tryz.underlying312 (by unfold maxLen;omega) (WideMaps.keyOf_string_mk Tryz.underlying9 (by unfold maxLen;omega)) (plainElem_int Tryz.underlying163 a)
theorem EF(w:J):(zeroValue 163).run vo w=.ok (I tF 0) w:=by kernel_rfl
theorem Dg(t:List UInt8)(h:t≠[62])(i:t≠[62,61]):opM t 2=(mN zy t,false):=by
 have j:(t==[62])=false:=by simpa using h
 have k:(t==[62,61])=false:=by simpa using i
 unfold opM;simp only[j,k];simp only[zy,mN]
 by_cases a:t=[43]
 ·subst a;rfl
 by_cases c2:t=[45]
 ·subst c2;rfl
 by_cases b:t=[42]
 ·subst b;rfl
 by_cases c4:t=[61]
 ·subst c4;rfl
 by_cases c:t=[33,61]
 ·subst c;rfl
 by_cases d:t=[60]
 ·subst d;rfl
 by_cases e:t=[60,61]
 ·subst e;rfl
 by_cases f:t=[97,110,100]
 ·subst f;rfl
 by_cases g:t=[111,114]
 ·subst g;rfl
 simp[a,c2,b,c4,c,d,e,f,g]
theorem Eu(t:ByteArray)(i:t.size≤maxLen)(w:J):wg vo 188 #[tS t] w fun e w'=>e=wj (y9 #[I tF (opM t.data.toList 2).1,xv (opM t.data.toList 2).2])∧Gl w w':=by
 have k:=@run_makeMap vo;have l:(w.alloc (.map #[] 0)).ownsMap vo 9 (plainElem (H:=Unit) vo 163) w.heap.size 0 (mw []):=World.ownsMap_made _ _ _ _;obtain⟨w1,G,m,g1⟩:=eQ l (by omega) ⟨#[43]⟩ 1 (by decide) (by decide);obtain⟨K,r2,n,g2⟩:=eQ m (by omega) ⟨#[45]⟩ 2 (by decide) (by decide);obtain⟨L,M,o,g3⟩:=eQ n (by omega) ⟨#[42]⟩ 3 (by decide) (by decide);obtain⟨w4,r4,p,g4⟩:=eQ o (by omega) ⟨#[61]⟩ 5 (by decide) (by decide);obtain⟨N,P,q,g5⟩:=eQ p (by omega) ⟨#[33,61]⟩ 6 (by decide) (by decide);obtain⟨Q,R,r,g6⟩:=eQ q (by omega) ⟨#[60]⟩ 7 (by decide) (by decide);obtain⟨S,T,s,g7⟩:=eQ r (by omega) ⟨#[60,61]⟩ 8 (by decide) (by decide);obtain⟨V,W,u,g8⟩:=eQ s (by omega) ⟨#[97,110,100]⟩ 9 (by decide) (by decide);obtain⟨f,X,v,g9⟩:=eQ u (by omega) ⟨#[111,114]⟩ 10 (by decide) (by decide);obtain⟨c,hr,d,x⟩:=v.lookup_int uv Tryz.underlying312 Tryz.underlying163 (EF f) (WideMaps.keyOf_string_mk Tryz.underlying9 i);have y:c=mN zy t.data.toList:=by
  have e:=xl (H:=Unit) t.data.toList zy;have z:=d.symm.trans e;injection z with B
  injection B
 have C:Gl w f:=by
  have D:Gl w (w.alloc (.map #[] 0)):=(Fz _ _).alloc (Fy _) _;have st:∀{a b:J},Gl w a→a.grownBy b (A w.heap.size)→Gl w b:=fun h g=>h.grown g h.size (fun j E=>by cases E;exact Fy _)
  exact st (st (st (st (st (st (st (st (st D g1) g2) g3) g4) g5) g6) g7) g8) g9
 go_enter Tryz.func188,Tryz.ntmps188
 go_wp2
 ·have e:t.data.toList=[62]:=by rw[←FS];rename_i h;simpa using h
  rw[e];exact⟨Z,_,results_tmp2 Z _ _ _,Z,Fz _ _⟩
 ·have e:t.data.toList=[62,61]:=by rw[←FS];rename_i h;simpa using h
  rw[e];exact⟨Z,_,results_tmp2 Z _ _ _,Z,Fz _ _⟩
 ·have F:t.data.toList≠[62]:=by rw[←FS];rename_i h _;simpa using h
  have n2:t.data.toList≠[62,61]:=by rw[←FS];rename_i h;simpa using h
  rw[Dg _ F n2,←y];exact⟨Z,_,results_tmp2 Z _ _ _,Z,C⟩
theorem AT{E S:zs}{sz bytes:Nat}(m:Elem E S sz bytes){w:J}{ops:Array Oper}{rest:List Oper}{o:Oper}{a:Act}{Q:Exit→Act→J→Prop}(r:o.guard=Y)(s x:Operand)
  (q:o.op=.call { callee:=.builtin .append,args:=#[s,x],argTypes:=#[S,S] }) {p:Option At} {n c g9:Nat} {xs z:List tT} (N:a.eval s=O p n c) (P:a.eval x=O (A ⟨g9,0,Y⟩) 1 1)
  (k:w.ownsRow 0 E sz (O p n c) n xs) (R:w.heap[g9]?=A (r9 z.toArray E (0,0))) (T:z.length=sz) (V:∀u∈z,u.oneCell'=true) (hn:n≤100000)
  (h:∀g cap w',((O p n c).ownBlock=A g∨w.heap.size≤g)→Chg (fun b=>(O p n c).ownBlock=A b) w w'→w'.ownsRow 0 E sz (O (A ⟨g,0,Y⟩) (n+1) cap) (n+1) (xs++z)→
   wpList vo ops Q rest (a.put o.dst (O (A ⟨g,0,Y⟩) (n+1) cap)) w'):wpList vo ops Q (o::rest) a w:=by
 obtain⟨i0,W,t,v,y,B,C⟩:=m.info;have D:=m.small;have F:=m.pos;have f:∀j u,z[j]?=A u→w.cell? ((⟨g9,0,Y⟩:At).add j)=A u:=fun j u X=>by
  have e:(⟨g9,0,Y⟩:At).add j=⟨g9,j,Y⟩:=by
   unfold Addr.add
   by_cases M:j=0
   ·subst M;rfl
   ·rw[oB M];simp
  rw[e,Gk _ _ _ _ _ _ R]
  simpa using X
 have G:(n+1)*bytes≤140737488355328:=by
  have:=Nat.mul_le_mul (show n+1≤100001 by omega) D.2;omega
 refine cj w r s x S q 0 E i0 W sz bytes m.und t v y B C F (O p n c) n xs N k ⟨g9,0,Y⟩ 1 1 z P (by omega) f V (by unfold maxLen;omega) G (FR _) (by decide) ?_;intro v' w' d i;rcases i with ⟨g,cap,H,K,l⟩|⟨cap,H,K⟩
 ·subst K;have q:(O p n c).ownBlock=A g:=by rw[H];rfl
  refine h g cap w' (Or.inl q) ?_ d;exact⟨l.os,l.tape,l.output,l.size,fun b hb L=>l.block b hb (fun e=>L (q.trans e.symm))⟩
 ·subst H;exact h _ cap w' (Or.inr (Fy _)) (Chg.t K) d
theorem Cn:Elem 166 164 7 80:=Elem.of (z:=xk #[I tF 0,I tF 0,I U 0,tS ByteArray.empty,I U 0,I tF 0,O Y 0 0]) Tryz.underlying164 (by kernel_rfl) (by kernel_rfl) (by decide) (by decide)
theorem ap.h{w:J}{B:Nat}:∀{d:Nat} {ks:List ac} {a:tT},ap w B d ks a→∃p c,a=O p ks.length c
 | 0,_,_,h=>by
  obtain⟨rfl,p,c,rfl⟩:=h;exact⟨p,c,Z⟩
 | _+1,_,_,h=>by
  rcases h with ⟨rfl,p,c,rfl⟩|⟨b,off,cap,_,_,_,_,rfl,_⟩
  ·exact⟨p,c,Z⟩
  ·exact⟨_,_,Z⟩
def eP:Nat→ac→Prop
 | 0,T=>T.h.size≤72007
 | d+1,T=>T.h.size≤72007∧T.z.length≤20000∧∀k∈T.z,eP d k
theorem eP.h:∀{d:Nat} {T:ac},eP d T→T.h.size≤72007
 | 0,_,h=>h
 | _+1,_,h=>h.1
structure nV (M:Nat) (vars:List ByteArray) (vV:tT) (w:J):Prop where
 m:w.cell? ⟨M,2,Y⟩=A vV
 lt:M<w.heap.size
 v:Rd.str.h w (fun b=>b<w.heap.size) vars vV
theorem nV.C{M:Nat}{vars:List ByteArray}{vV:tT}{w w':J}(h:nV M vars vV w)(b:Gl w w'):nV M vars vV w':=
 ⟨(b.cell (p:=⟨M,2,Y⟩) h.lt).trans h.m,FG h.lt b.size,Rd.sv (fun _ a=>FG a b.size) (Rd.sm h.v (fun _ a=>a) b)⟩
def bf(w w':J) (b:Nat):Prop:=w.heap.size≤b∧b<w'.heap.size
def dK(d:Nat) (r:Except Flt a8) (w:J) (e:Ending) (w':J):Prop:=Gl w w'∧match r with
 | .ok E=>∃s,e=wj (xk #[I tF E.q,I tF E.h.q,I U E.h.u,tS E.h.h,I U E.t,I tF E.op,s])∧my E∧fu w' (bf w w') d E.z s
 | .error er=>e=aJ er.1 er.2
def jA(d:Nat) (r:Except Flt (List a8)) (w:J) (e:Ending) (w':J):Prop:=Gl w w'∧match r with
 | .ok es=>∃v,e=wj v∧aw w' (fun b=>bf w w' b∧v.ownBlock≠A b) 166 (bM d) es v∧∀g,v.ownBlock=A g→w.heap.size≤g
 | .error er=>e=aJ er.1 er.2
theorem zh{α β:Type}{f:α→Except Flt β}{l:List α}{k:Nat}{a:List β}{x:α}(b:l[k]?=A x)(h:cL f (l.take k)=xt a):cL f (l.take (k+1))=match f x with | .error e=>z6 e | .ok y=>xt (a++[y]):=it b h
theorem yg{α β:Type}{f:α→Except Flt β}{l:List α}{k:Nat}{e:Flt}(h:cL f (l.take k)=z6 e):cL f l=z6 e:=by
 unfold cL at *
 conv=>lhs;rw[←List.take_append_drop k l]
 rw[jw,h]
theorem Chg.K{F:Nat→Prop}{B:Nat}{w w1 c:J}(h:Below B w w1)(a:Chg F w1 c)(hF:∀b,F b→B≤b)(hB:B≤w1.heap.size):Below B w c:=
 h.trans ⟨a.os,a.a,a.c,a.u,fun b e=>a.q b (by omega) (fun d=>by have:=hF b d;omega)⟩
theorem zw{d:Nat}{w wr v W2 f m:J}{es:List a8}{E:a8}{p:Option At}{k c g cap:Nat}{s:tT}{us:List tT}(L:es.length=k)
  (x:Gl w wr) (M:wr.heap.size≤v.heap.size) (j:Gl wr f) (i:Gl W2 f)
  (N:(bM d).z wr (fun b=>bf w wr b∧(O p k c).ownBlock≠A b) es us) (n:wr.ownsRow 0 166 7 (O p k c) k us) (q:∀g,(O p k c).ownBlock=A g→w.heap.size≤g)
  (r:my E) (y:fu W2 (bf v W2) d E.z s)
  (H:(O p k c).ownBlock=A g∨f.heap.size≤g) (z:Chg (fun b=>(O p k c).ownBlock=A b) f m) (t:m.ownsRow 0 166 7 (O (A ⟨g,0,Y⟩) (k+1) cap) (k+1) (us++cD E s)) :
  Gl w m∧aw m (fun b=>bf w m b∧(O (A ⟨g,0,Y⟩) (k+1) cap).ownBlock≠A b) 166 (bM d) (es++[E]) (O (A ⟨g,0,Y⟩) (k+1) cap)∧∀a,(O (A ⟨g,0,Y⟩) (k+1) cap).ownBlock=A a→w.heap.size≤a:=by
 have P:=i.size;have Q:=z.u;have l:Gl w f:=x.trans (j.mono x.size);have R:(bM d).at_ W2 (bf v W2) E (cD E s):=l7.2 ⟨r,s,Z,y⟩;have B:∀a,(O p k c).ownBlock=A a→a<wr.heap.size:=fun a h=>(aL n a h).2
 let F:Nat→Prop:=fun b=>(bf w wr b∧(O p k c).ownBlock≠A b)∨bf v W2 b
 have hF:∀b,F b→w.heap.size≤b∧b<f.heap.size∧(O p k c).ownBlock≠A b:=by
  rintro b (⟨⟨K,S⟩,T⟩|⟨K,S⟩)
  ·exact⟨K,by have:=j.size;omega,T⟩
  ·exact⟨by have:=x.size;omega,by omega,fun e=>by have:=B b e;omega⟩
 have C:(bM d).z f F es us:=Rd.tE (fun b h=>Or.inl h) (Rd.tv (fun b h o u=>(j.block b h.1.2).trans u) N);have D:(bM d).at_ f F E (cD E s):=(bM d).D (fun b h=>Or.inr h) ((bM d).t (fun b h o u=>(i.block b h.2).trans u) R);have G:(bM d).z m F (es++[E]) (us++cD E s):=Rd.tv (fun b h o u=>(z.q b (hF b h).2.1 (hF b h).2.2).trans u) (Rd.sI C D);refine⟨Chg.K l z (fun b h=>q b h) l.size,⟨us++cD E s,?_,Rd.tE (fun b h=>⟨⟨(hF b h).1,by have:=(hF b h).2.1;omega⟩,fun e=>?_⟩) G⟩,fun a e=>?_⟩
 ·rw[lj,FT,L];exact t
 ·injection e with e
  have e:g=b:=e;subst e;rcases H with h|h
  ·exact (hF g (by assumption)).2.2 h
  ·have:=(hF g (by assumption)).2.1;omega
 ·injection e with e
  have e:g=a:=e;subst e;rcases H with h|h
  ·exact q g h
  ·have:=l.size;omega
def vg(w:J) (d:Nat) (f:ac→Except Flt a8) (Ts:List ac) (n:Nat) (v i:tT) (W:J):Prop:=
 ∃k es,k≤n∧i=I U (k:Int)∧cL f (Ts.take k)=xt es∧es.length=k∧Gl w W∧aw W (fun b=>bf w W b∧v.ownBlock≠A b) 166 (bM d) es v∧∀g,v.ownBlock=A g→w.heap.size≤g
theorem oq(d M:Nat)(vars:List ByteArray)(vV:tT)(f:ac→Except Flt a8)(Ts:List ac)(sl:tT)(w:J)(hv:nV M vars vV w)(l:ap w w.heap.size (d+1) Ts sl)(af:Ts.length≤20000)
  (y:∀T∈Ts,∀(s:tT) (W:J),nV M vars vV W→Fits T→ap W W.heap.size d T.z s→wg vo 158 #[vv (A ⟨M,0,Y⟩),xk #[I tF T.q,tS T.h,I U T.u,I U T.t,s]] W (dK d (f T) W)) :
  wg vo 159 #[vv (A ⟨M,0,Y⟩),sl] w (jA d (cL f Ts) w):=by
 obtain⟨n,H⟩:=zzy (Ts.length);obtain⟨p,c,aq⟩:∃p c,sl=O p n c:=by
  rcases l with ⟨rfl,sp,cap,rfl⟩|⟨b,off,cap,h1,h2,h3,h4,rfl,h6⟩
  ·exact⟨sp,cap,by rw[←H];rfl⟩
  ·exact⟨_,_,by rw[H]⟩
 subst aq;obtain⟨HK,HV,HO⟩:=zz3 l hv y;rw[H]at af;have HN:=Hd H;clear l hv y H
 go_enter Tryz.func159,Tryz.ntmps159
 go_wp2
 go_loopw [5,10] (vg w d f Ts n) (fun _ i _=>n-(intOf i).toNat)
 case atStart=>exact⟨0,[],FR _,Z,Z,Z,Fz _ _,aw.nil,fun g h=>by cases h⟩
 case round =>
  obtain⟨k,es,hk,rfl,hl,D,hb,m,K⟩:=hrel;obtain⟨p5,c5,L⟩:=m.q;rw[D]at L;subst L;have bm:(0:Int)≤k:=by omega
  obtain⟨B,HL,HE,HG,HR⟩:=zz5 hb hl D K m;clear hb hl D K m
  by_cases ar:k<n
  ·have bn:(k:Int)<n:=by omega
   obtain⟨T,N⟩:∃T,Ts[k]?=A T:=⟨_,FD (by rw[HN.o];exact ar)⟩;have l:=HK.o.C B.o;rcases l with ⟨rfl,_⟩|⟨b,off,cap,h1,h2,h3,h4,he,h6⟩
   ·simp at N
   rw[HN.o]at he;injection he with e1 _ e3
   subst e1;subst e3;obtain⟨q,s,c0,c1,c2,c3,c4,F⟩:=h6 k T N;obtain⟨ps,cs,rfl⟩:=F.h;obtain⟨HF,P⟩:=zz2 q (zh N HL.o);have r:Gl wr (wr.alloc (r9 #[I tF T.q,tS T.h,I U T.u,I U T.t,O ps T.z.length cs] 145)):=(Fz _ wr).alloc (Fy _) _;obtain⟨HA,HC⟩:=zz2 r (HO.o T (FZ N) (O ps T.z.length cs) (wr.alloc (r9 #[I tF T.q,tS T.h,I U T.u,I U T.t,O ps T.z.length cs] 145)) ((HV.o.C B.o).C r) q ((F.C (r.mono B.o.size)).up (FH B.o.size r.size)));have a1:=oA wr (r9 #[I tF T.q,tS T.h,I U T.u,I U T.t,O ps T.z.length cs] 145);clear q F h6 h1 h2 h3 h4 r N;go_wp2_with fail
   refine HC.o.mono ?_;rintro e W2 ⟨Q,he⟩;have t:=Hd (HA.o.trans (Q.mono HA.o.size));clear Q c0 c1 c2 c3 c4 a1
   cases R:f T with
   | error er =>
    rw[R]at he;have he:e=aJ er.1 er.2:=he;subst he;have HX:Hid (cL f Ts=z6 er):=yg (k:=k+1) (by rw[P.o,R]);refine⟨Z,B.o.trans (t.o.mono B.o.size),?_⟩;rw[HX.o];rfl
   | ok E =>
    rw[R]at he;obtain⟨s2,rfl,u,G⟩:=he;have a6:Hid (cL f (Ts.take (k+1))=xt (es++[E])):=by show _=_;rw[P.o,R]
    obtain⟨ba,bb⟩:=zz2 u G;obtain⟨us,a,j⟩:=HR.o;rw[HE.o,lj]at a;have bd:=Hd j;have v:Gl W2 (W2.alloc (r9 #[I tF E.q,I tF E.h.q,I U E.h.u,tS E.h.h,I U E.t,I tF E.op,s2] 166)):=(Fz _ W2).alloc (Fy _) _;obtain⟨C,bk,bl⟩:=zz3 v a (gj a (t.o.trans (v.mono t.o.size)));obtain⟨pe,ce,S⟩:=fM G;clear u G R a j v;subst S;go_wp2_with (at_builtin;go_must (refine AT Cn Z (.tmp 14) (.tmp 18) Z (p:=p5) (n:=k) (c:=c5) (z:=cD E (O pe E.z.length ce)) Z Z bl.o (oA W2 _) Z (by simp[Value.oneCell',cD]) (by omega) ?_);intro g cap W4 hg hC x)
    obtain⟨V,X,ad⟩:=zw HE.o B.o HA.o.size (t.o.trans (C.o.mono t.o.size)) C.o bd.o bk.o HG.o ba.o bb.o hg hC x;have HP:Hid (vg w d f Ts n (O (A ⟨g,0,Y⟩) (k+1) cap) (I U ((k+1:Nat):Int)) W4):=⟨k+1,es++[E],by omega,Z,a6.o,by rw[FT,HE.o];rfl,V,X,ad⟩;clear hg hC x V X ad;go_wp2_with fail
    refine⟨HP.o,?_⟩;simp[intOf];omega
  ·have HX:Hid (cL f Ts=xt es):=by
    show _=_
    rw[←HL.o,FW (by rw[HN.o];omega)]
   go_wp2_with fail
   go_ret;refine⟨B.o,?_⟩;rw[HX.o];exact⟨_,Z,HR.o,HG.o⟩
def st7(W:J) (g o:Nat) (a b c d e f h:tT):World:=((((((W.setCell ⟨g,o+0,Y⟩ a).setCell ⟨g,o+1,Y⟩ b).setCell ⟨g,o+2,Y⟩ c).setCell ⟨g,o+3,Y⟩ d).setCell ⟨g,o+4,Y⟩ e).setCell ⟨g,o+5,Y⟩ f).setCell ⟨g,o+6,Y⟩ h
theorem Bj(a b:a8)(h j:Option At)(k n2 l c2 g cap:Nat)(cur:Array tT)(w:J)(n:w.heap[g]?=A (r9 cur 166 (0,0)))
  (c:∀i u,(cD a (O h k l))[i]?=A u→w.cell? ⟨g,i,Y⟩=A u) (d:∀i u,(cD b (O j n2 c2))[i]?=A u→w.cell? ⟨g,7+i,Y⟩=A u) :
  wg vo 189 #[O (A ⟨g,0,Y⟩) 2 cap] w fun e w'=>e=wj (y9 #[])∧w'=(st7 (st7 w g 0 (I tF b.q) (I tF b.h.q) (I U b.h.u) (tS b.h.h) (I U b.t) (I tF b.op) (O j n2 c2)) g 7 (I tF a.q) (I tF a.h.q) (I U a.h.u) (tS a.h.h) (I U a.t) (I tF a.op) (O h k l)).drew:=by
 have a0:=c 0 _ Z;have a1:=c 1 _ Z;have a2:=c 2 _ Z;have a3:=c 3 _ Z;have a4:=c 4 _ Z;have a5:=c 5 _ Z;have q:=c 6 _ Z;have r:w.cell? ⟨g,7,Y⟩=_:=d 0 _ Z;have s:w.cell? ⟨g,8,Y⟩=_:=d 1 _ Z;have t:w.cell? ⟨g,9,Y⟩=_:=d 2 _ Z;have v:w.cell? ⟨g,10,Y⟩=_:=d 3 _ Z;have x:w.cell? ⟨g,11,Y⟩=_:=d 4 _ Z;have y:w.cell? ⟨g,12,Y⟩=_:=d 5 _ Z;have z:w.cell? ⟨g,13,Y⟩=_:=d 6 _ Z;have f0:=ax n;clear c d n
 go_enter Tryz.func189,Tryz.ntmps189
 go_wp2_with fail
 refine wp_loop_rounds 2 ?_;rw[rounds_succ];go_wp2_with fail
 go_region
 go_wp2_with fail
 clear a0 a1 a2 a3 a4 a5 q r s t v x y z f0;obtain⟨p,f⟩:=zzx ((st7 (st7 w g 0 (I tF b.q) (I tF b.h.q) (I U b.h.u) (tS b.h.h) (I U b.t) (I tF b.op) (O j n2 c2)) g 7 (I tF a.q) (I tF a.h.q) (I U a.h.u) (tS a.h.h) (I U a.t) (I tF a.op) (O h k l)).drew);change Code.rounds _ _ _ _ _ (st7 (st7 w g 0 (I tF b.q) (I tF b.h.q) (I U b.h.u) (tS b.h.h) (I U b.t) (I tF b.op) (O j n2 c2)) g 7 (I tF a.q) (I tF a.h.q) (I U a.h.u) (tS a.h.h) (I U a.t) (I tF a.op) (O h k l)).drew;rw[←f];have m:=Hd f;clear f;rw[rounds_succ];go_wp2_with fail
 go_end0
 exact⟨Z,m.o⟩
theorem gX{w:J}{g:Nat}{l:List tT}{t:zs}(h:w.heap[g]?=A (r9 l.toArray t (0,0)))(i:Nat)(u:tT):(w.setCell ⟨g,i,Y⟩ u).heap[g]?=A (r9 (l.set i u).toArray t (0,0)):=by rw[heap_set h i u,FA]
theorem pL{W:J}{g o:Nat}{l:List tT}{t:zs}(i:W.heap[g]?=A (r9 l.toArray t (0,0)))(a b c d e f h:tT) :
  (st7 W g o a b c d e f h).heap[g]?=A (r9 (((((((l.set (o+0) a).set (o+1) b).set (o+2) c).set (o+3) d).set (o+4) e).set (o+5) f).set (o+6) h).toArray t (0,0)):=by
 unfold st7;exact gX (gX (gX (gX (gX (gX (gX i _ _) _ _) _ _) _ _) _ _) _ _) _ _
theorem EH{W:J}{g:Nat}{h i rest:List tT}{t:zs}(q:W.heap[g]?=A (r9 (h++i++rest).toArray t (0,0)))(r:h.length=7)(s:i.length=7)(a b c d e f u j b' k l m n p:tT) :
  (st7 (st7 W g 0 a b c d e f u) g 7 j b' k l m n p).drew.heap[g]?=A (r9 ([a,b,c,d,e,f,u]++[j,b',k,l,m,n,p]++rest).toArray t (0,0)):=by
 have v:=pL (o:=7) (pL (o:=0) q a b c d e f u) j b' k l m n p;have w:∀X:J,X.drew.heap=X.heap:=fun _=>rfl
 rw[w,v]
 match h,r,i,s with
 | [_,_,_,_,_,_,_],_,[_,_,_,_,_,_,_],_=>simp[List.set_cons_succ,List.set_cons_zero]
theorem rL{W:J}{g o:Nat}(a b c d e f h:tT):Chg (fun x=>x=g) W (st7 W g o a b c d e f h):=by
 have step:∀{V:J},Chg (fun x=>x=g) W V→∀(i:Nat) (u:tT),Chg (fun x=>x=g) W (V.setCell ⟨g,i,Y⟩ u):=fun j i u=>j.z (p:=⟨g,i,Y⟩) (Or.inl Z) u
 unfold st7;exact step (step (step (step (step (step (step (Chg.refl _ W) _ a) _ b) _ c) _ d) _ e) _ f) _ h
theorem Ch{W:J}{a B rest:List tT}{g cap:Nat}(b:a.length=7)(hB:B.length=7)(h:W.heap[g]?=A (r9 (a++B++rest).toArray 166 (0,0)))(c:2≤cap)(d:cap≤maxLen)(e:(a++B++rest).length=cap*7) :
  W.ownsRow 0 166 7 (O (A ⟨g,0,Y⟩) 2 cap) 2 (a++B):=
 ⟨by rw[FT,b,hB],Or.inr ⟨g,cap,_,Z,FR _,h,c,d,by rw[List.size_toArray];exact e,List.take_left' (by rw[FT,b,hB])⟩⟩
theorem Dz(a b:a8)(c j:Option At)(d n2 f c2 g cap:Nat)(w:J)(k:w.ownsRow 0 166 7 (O (A ⟨g,0,Y⟩) 2 cap) 2 (cD a (O c d f)++cD b (O j n2 c2))) :
  wg vo 189 #[O (A ⟨g,0,Y⟩) 2 cap] w fun e w'=>e=wj (y9 #[])∧Chg (fun x=>x=g) w w'∧w'.ownsRow 0 166 7 (O (A ⟨g,0,Y⟩) 2 cap) 2 (cD b (O j n2 c2)++cD a (O c d f)):=by
 obtain⟨_,⟨h,_⟩|⟨B,q,cur,h,_,m,r,s,t,v⟩⟩:=k
 ·cases h
 injection h with l _ y
 injection l with l
 injection l with l
 subst l;subst y;obtain⟨rest,z⟩:∃rest,cur=(cD a (O c d f)++cD b (O j n2 c2)++rest).toArray:=⟨cur.toList.drop (2*7),by rw[←v,List.take_append_drop]⟩;subst z;refine (Bj a b c j d n2 f c2 g cap _ w m (fun i u hu=>?_) (fun i u hu=>?_)).mono ?_
 ·rw[Gk _ _ _ _ _ _ m];have hi:i<7:=(FU.1 hu).1;rw[List.getElem?_toArray,List.append_assoc,Gf (by exact hi)];exact hu
 ·rw[Gk _ _ _ _ _ _ m];have hi:i<7:=(FU.1 hu).1;rw[List.getElem?_toArray,List.append_assoc,F7 (by show 7≤7+i;omega),Gf (by show 7+i-7<7;omega)];have e:7+i-(cD a (O c d f)).length=i:=by show 7+i-7=i;omega
  rw[e];exact hu
 ·rintro e w' ⟨rfl,rfl⟩;have n:(st7 (st7 w g 0 (I tF b.q) (I tF b.h.q) (I U b.h.u) (tS b.h.h) (I U b.t) (I tF b.op) (O j n2 c2)) g 7 (I tF a.q) (I tF a.h.q) (I U a.h.u) (tS a.h.h) (I U a.t) (I tF a.op) (O c d f)).drew.heap[g]?=A (r9 (cD b (O j n2 c2)++cD a (O c d f)++rest).toArray 166 (0,0)):=
   EH m Z Z (I tF b.q) (I tF b.h.q) (I U b.h.u) (tS b.h.h) (I U b.t) (I tF b.op) (O j n2 c2) (I tF a.q) (I tF a.h.q) (I U a.h.u) (tS a.h.h) (I U a.t) (I tF a.op) (O c d f)
  have p:=((rL (W:=w) (g:=g) (o:=0) (I tF b.q) (I tF b.h.q) (I U b.h.u) (tS b.h.h) (I U b.t) (I tF b.op) (O j n2 c2)).h (rL (g:=g) (o:=7) (I tF a.q) (I tF a.h.q) (I U a.h.u) (tS a.h.h) (I U a.t) (I tF a.op) (O c d f))).h (Chg.t ((Fz _ _).drew));exact⟨Z,p,Ch Z Z n r s (by rw[←t];rfl)⟩
theorem fC{w:J}{T:Nat}{a b c d e f h:tT}{t:zs}(g:w.heap[T]?=A (r9 #[a,b,c,d,e,f,h] t (0,0))) :
  w.cell? ⟨T,0,Y⟩=A a∧w.cell? ⟨T,1,Y⟩=A b∧w.cell? ⟨T,2,Y⟩=A c∧w.cell? ⟨T,3,Y⟩=A d∧w.cell? ⟨T,4,Y⟩=A e∧w.cell? ⟨T,5,Y⟩=A f∧w.cell? ⟨T,6,Y⟩=A h:=by
 simp[World.cell?,g]
theorem kN{W:J}{g:Nat}{i j x2 x3 x4 x5 x6:tT}{t:zs}(k:W.heap[g]?=A (r9 #[i,j,x2,x3,x4,x5,x6] t (0,0)))(a b c d e f h:tT):(st7 W g 0 a b c d e f h).heap[g]?=A (r9 #[a,b,c,d,e,f,h] t (0,0)):=by
 have m:=pL (o:=0) (l:=[i,j,x2,x3,x4,x5,x6]) k a b c d e f h;rw[m];simp
theorem jE(W:J)(i:Ending→J→Prop)(T:Nat)(a b c d e f h:tT)(j:W.heap[T]?=A (r9 #[a,b,c,d,e,f,h] 166 (0,0)))
  (tmps:Array tT) (k:tmps.getD 4 undef=vv (A ⟨T,0,Y⟩)) (l:i (wj (xk #[a,b,c,d,e,f,h])) W):bodyPost vo Tryz.f158 i .ret ⟨tmps,[]⟩ W:=by
 obtain⟨m,n,c2,o,c4,p,q⟩:=fC j;have g:tmps[4]?.getD undef=vv (A ⟨T,0,Y⟩):=by simpa using k
 refine bodyPost_ret (v:=xk #[a,b,c,d,e,f,h]) ?_ Z l;simp[results,Tryz.results158,go_sem,g,m,n,c2,o,c4,p,q]
theorem Er(t:ByteArray):I64 (mG t):=by
 have h:=sX (strip t.data.toList);unfold mp at h;unfold mG I64;dsimp only
 split<;>omega
theorem rp(T:ac)(c:T.h.size≤72007):jF (bs T):=by
 have a:U8 2:=⟨by decide,by decide⟩;have b:U8 1:=⟨by decide,by decide⟩;have i0:I64 0:=⟨by decide,by decide⟩;unfold bs
 split
 ·exact⟨a,i0,by show T.h.size≤maxLen;unfold maxLen;omega⟩
 ·exact⟨b,Er _,FR _⟩
theorem ET(t:List UInt8)(k:Nat):U8 (opM t k).1:=by
 have h:∀(b:Bool) (x y:Int×Bool),U8 x.1→U8 y.1→U8 (if b then x else y).1:=fun b x y c d=>by cases b;exact d;exact c
 have a:∀(n:Nat) (b:Bool),n<20→U8 ((n:Int),b).1:=fun n b e=>⟨by show (0:Int)≤n;omega,by show (n:Int)<256;omega⟩
 unfold opM;refine h _ _ _ (h _ _ _ (a 7 _ (by decide)) (h _ _ _ (a 8 _ (by decide)) (h _ _ _ (a 1 _ (by decide)) (h _ _ _ (a 2 _ (by decide)) (h _ _ _ (a 3 _ (by decide)) (h _ _ _ (a 5 _ (by decide)) (h _ _ _ (a 6 _ (by decide)) (h _ _ _ (a 7 _ (by decide)) (h _ _ _ (a 8 _ (by decide)) (h _ _ _ (a 9 _ (by decide)) (h _ _ _ (a 10 _ (by decide)) (a 0 _ (by decide))))))))))))) (h _ _ _ (a 4 _ (by decide)) (a 11 _ (by decide)))
theorem nw{B:Nat}{w W:J}{g:Nat}(j:Below B w W)(i:B≤g)(a b c d e f h:tT):Below B w (st7 W g 0 a b c d e f h):=by
 unfold st7;exact ((((((j.setCell i a).setCell i b).setCell i c).setCell i d).setCell i e).setCell i f).setCell i h
theorem qz(d M:Nat)(vars:List ByteArray)(T:ac)(p:Option At)(n c:Nat)(w:J)(i:T.q=14∨T.q=15)(r:T.h.size≤72007) :
  wg vo 158 #[vv (A ⟨M,0,Y⟩),xk #[I tF T.q,tS T.h,I U T.u,I U T.t,O p n c]] w (dK d (aY vars d T) w):=by
 have t:Hid (aY vars d T=xt (.mk 1 (bs T) 0 0 [])):=by
  show _=_
  cases d<;>(unfold aY;rcases i with h|h<;>rw[h]<;>rfl)
 obtain⟨l,j,_⟩:=aW w (r9 #[I tF T.q,tS T.h,I U T.u,I U T.t,O p n c] 145) (r9 #[I tF 0,I tF 0,I U 0,tS ⟨#[]⟩,I U 0,I tF 0,O Y 0 0] 166);have k:Gl w ((w.alloc (r9 #[I tF T.q,tS T.h,I U T.u,I U T.t,O p n c] 145)).alloc (r9 #[I tF 0,I tF 0,I U 0,tS ⟨#[]⟩,I U 0,I tF 0,O Y 0 0] 166)):=((Fz _ w).alloc (Fy _) _).alloc (by simp) _;have s:Hid (wg vo 187 #[xk #[I tF T.q,tS T.h,I U T.u,I U T.t,O p n c]] ((w.alloc (r9 #[I tF T.q,tS T.h,I U T.u,I U T.t,O p n c] 145)).alloc (r9 #[I tF 0,I tF 0,I U 0,tS ⟨#[]⟩,I U 0,I tF 0,O Y 0 0] 166)) fun e w'=>e=wj (xk #[I tF (bs T).q,I U (bs T).u,tS (bs T).h])∧Below ((w.alloc (r9 #[I tF T.q,tS T.h,I U T.u,I U T.t,O p n c] 145)).alloc (r9 #[I tF 0,I tF 0,I U 0,tS ⟨#[]⟩,I U 0,I tF 0,O Y 0 0] 166)).heap.size ((w.alloc (r9 #[I tF T.q,tS T.h,I U T.u,I U T.t,O p n c] 145)).alloc (r9 #[I tF 0,I tF 0,I U 0,tS ⟨#[]⟩,I U 0,I tF 0,O Y 0 0] 166)) w'):=sx T (O p n c) _ i r;obtain⟨b,f,u⟩:=zz3 j k (rp T r);clear l j k;rcases i with i|i
 all_goals
  rw[i]at s b f ⊢
  go_enter Tryz.func158,Tryz.ntmps158
  go_wp2_with fail
  refine s.o.mono ?_;rintro e v ⟨rfl,g⟩;have a:=aa g b.o (Fx.1 b.o).1;obtain⟨m,q⟩:=zz2 (f.o.trans (g.mono f.o.size)) (kN a (I tF 1) (I tF (bs T).q) (I U (bs T).u) (tS (bs T).h) (I U 0) (I tF 0) (O Y 0 0));have x:Hid (dK d (aY vars d T) w (wj (xk #[I tF 1,I tF (bs T).q,I U (bs T).u,tS (bs T).h,I U 0,I tF 0,O Y 0 0])) (st7 v (w.heap.size+1) 0 (I tF 1) (I tF (bs T).q) (I U (bs T).u) (tS (bs T).h) (I U 0) (I tF 0) (O Y 0 0))):=by
   refine⟨nw m.o (F3 _) _ _ _ _ _ _ _,?_⟩;rw[t.o];refine⟨O Y 0 0,Z,⟨⟨by show (0:Int)≤1;decide,by show (1:Int)<256;decide⟩,u.o,⟨by show (-9223372036854775808:Int)≤0;decide,by show (0:Int)<9223372036854775808;decide⟩,⟨by show (0:Int)≤0;decide,by show (0:Int)<256;decide⟩⟩,?_⟩
   cases d with
   | zero=>exact⟨Z,Y,0,Z⟩
   | succ d=>exact Or.inl ⟨Z,Y,0,Z⟩
  obtain⟨y,z,c2,B,c4,C,D⟩:=fC a;have f0:=ab a;clear a g;go_wp2_with fail
  exact jE _ _ (w.heap.size+1) _ _ _ _ _ _ _ q.o _ Z x.o
theorem vl(d M:Nat)(vars:List ByteArray)(vV:tT)(T:ac)(p:Option At)(n c:Nat)(w:J)(u:nV M vars vV w)(hk:T.q=13) :
  wg vo 158 #[vv (A ⟨M,0,Y⟩),xk #[I tF T.q,tS T.h,I U T.u,I U T.t,O p n c]] w (dK d (aY vars d T) w):=by
 have K:Hid (aY vars d T=match idxOf T.h vars with|some k=>xt (.mk 2 .zero k 0 [])|none=>z6 (213,T.t)):=by
  show _=_
  cases d<;>(unfold aY;rw[hk];rfl)
 rw[hk];have N:=Rd.N u.v;obtain⟨pV,cV,P⟩:=Rd.q u.v;subst P;obtain⟨w1,i⟩:=zzx ((w.alloc (r9 #[I tF 13,tS T.h,I U T.u,I U T.t,O p n c] 145)).alloc (r9 #[I tF 0,I tF 0,I U 0,tS ⟨#[]⟩,I U 0,I tF 0,O Y 0 0] 166));obtain⟨j,r,_⟩:=aW w (r9 #[I tF 13,tS T.h,I U T.u,I U T.t,O p n c] 145) (r9 #[I tF 0,I tF 0,I U 0,tS ⟨#[]⟩,I U 0,I tF 0,O Y 0 0] 166);have s:Gl w w1:=by rw[i];exact ((Fz _ w).alloc (Fy _) _).alloc (by simp) _
 rw[←i]at j r;obtain⟨y,z,a⟩:=zz3 j r s;have t:=u.C s;obtain⟨Q,R⟩:=zz2 u.v (fun (x:Wb w1)=>ta vars T.h (O pV vars.length cV) _ x.1 (t.C x.2).v);obtain⟨nv,B⟩:=zzy (vars.length);have hm:=t.m;rw[B]at R hm N;obtain⟨S,L,V,W,X⟩:=cells5 j;clear j r s u t B
 go_enter Tryz.func158,Tryz.ntmps158
 go_upto_region 6 with fail
 change Code.wp _ _ _ _ ((w.alloc (r9 #[I tF 13,tS T.h,I U T.u,I U T.t,O p n c] 145)).alloc (r9 #[I tF 0,I tF 0,I U 0,tS ⟨#[]⟩,I U 0,I tF 0,O Y 0 0] 166));rw[show (w.alloc (r9 #[I tF 13,tS T.h,I U T.u,I U T.t,O p n c] 145)).alloc (r9 #[I tF 0,I tF 0,I U 0,tS ⟨#[]⟩,I U 0,I tF 0,O Y 0 0] 166)=w1 from i.symm];clear i;have X1:=fun x:Wb w1=>x.h L
 have M2:=fun x:Wb w1=>x.h hm
 refine al (by kernel_rfl) (by kernel_rfl) ?_
 repeat (go_big_quiet_step ((go_at_call 186;exact Calls.h (R.o _))))
 refine wpQuiet_nil ?_;intro W2 C;have D:=bw C;have b:=Hd D;clear C D X1 M2 R S L V W X hm;have E:=aa b.o y.o (Fx.1 y.o).1;have F:=Hd (aa b.o z.o (Fx.1 z.o).1);obtain⟨S,L,V,W,X⟩:=cells5 E;clear E
 cases f:idxOf T.h vars with
 | some k =>
  rw[f]at K;rw[show ek (A k)=(k:Int) from rfl];have ar:¬(k:Int)<0:=by omega
  have l:=Hd (bO [(false,213)] 13 T.h T.u T.t (O p n c) W2.heap.size 1 1 (W2.alloc (r9 #[xv false,I U 213] 238)) Z (by omega) (oA W2 _));have g:Hid (Gl w (W2.alloc (r9 #[xv false,I U 213] 238))):=(a.o.trans (b.o.mono a.o.size)).alloc (FH a.o.size b.o.size) _;have G:Hid ((W2.alloc (r9 #[xv false,I U 213] 238)).heap[w.heap.size+1]?=_):=aa ((Fz W2.heap.size W2).alloc (Fy _) _) F.o (Fx.1 F.o).1;have H:I64 (k:Int):=by
   have a1:=(mV T.h vars 0 k f).2;have h2:=Rd.N Q.o;unfold maxLen at h2;unfold I64;omega
  have ad:=Hd H;clear f H;go_wp2_with fail
  refine l.o.mono ?_;rintro e w5 ⟨h,he⟩;have he:e=wj (y9 #[]):=he;subst he;have q:=aa h G.o (Fx.1 G.o).1;have af:=Hd (g.o.trans (h.mono g.o.size));have aq:=Hd (kN q (I tF 2) (I tF 0) (I U 0) (tS ⟨#[]⟩) (I U (k:Int)) (I tF 0) (O Y 0 0));have HP:Hid (dK d (aY vars d T) w (wj (xk #[I tF 2,I tF 0,I U 0,tS ⟨#[]⟩,I U (k:Int),I tF 0,O Y 0 0])) (st7 w5 (w.heap.size+1) 0 (I tF 2) (I tF 0) (I U 0) (tS ⟨#[]⟩) (I U (k:Int)) (I tF 0) (O Y 0 0))):=by
   refine⟨nw af.o (F3 _) _ _ _ _ _ _ _,?_⟩;rw[K.o];refine⟨O Y 0 0,Z,⟨⟨by show (0:Int)≤2;decide,by show (2:Int)<256;decide⟩,⟨⟨by show (0:Int)≤0;decide,by show (0:Int)<256;decide⟩,⟨by show (-9223372036854775808:Int)≤0;decide,by show (0:Int)<9223372036854775808;decide⟩,FR _⟩,ad.o,⟨by show (0:Int)≤0;decide,by show (0:Int)<256;decide⟩⟩,?_⟩
   cases d with
   | zero=>exact⟨Z,Y,0,Z⟩
   | succ d=>exact Or.inl ⟨Z,Y,0,Z⟩
  obtain⟨c0,c1,c2,c3,c4,c5,c6⟩:=fC q;have f0:=ab q;clear q h l S L V W X;go_wp2_with fail
  exact jE _ _ (w.heap.size+1) _ _ _ _ _ _ _ aq.o _ Z HP.o
 | none =>
  rw[f]at K;clear f;rw[show ek Y=(-1:Int) from rfl];have l:=Hd (bO [(true,213)] 13 T.h T.u T.t (O p n c) W2.heap.size 1 1 (W2.alloc (r9 #[xv true,I U 213] 238)) Z (by omega) (oA W2 _));have g:Hid (Gl w (W2.alloc (r9 #[xv true,I U 213] 238))):=(a.o.trans (b.o.mono a.o.size)).alloc (FH a.o.size b.o.size) _;go_wp2_with fail
  refine l.o.mono ?_;rintro e w5 ⟨h,he⟩;have he:e=aJ 213 T.t:=he;subst he;refine⟨Z,g.o.trans (h.mono g.o.size),?_⟩;rw[K.o];rfl
