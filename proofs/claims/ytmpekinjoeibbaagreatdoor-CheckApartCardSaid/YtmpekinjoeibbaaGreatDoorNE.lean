/- Parts of one proof, joined; conditions stand in each theorem. -/
import Derived.Test.YtmpekinjoeibbaaGreatDoorND
import Derived.Maps.Own
import Derived.Maps.Views
open Go.IntKind renaming u8→J,i64→Y
open Go.Proofs.Tryz renaming prog→r6
open Go renaming World→p7,Calls→r9,TypeId→vn,Addr→vv,Value→r3
open Option renaming some→A,none→V
open Go.Value renaming string→p9,int→I,tuple→wF,bool→ur,slice→O,agg→s3,pointer→tv
open Go.Ending renaming returned→tF
open Go.Obj renaming cells→p8
open Except renaming ok→vb,error→wD
namespace Go.Proofs.YtmpekinjoeibbaaGreatDoor
set_option maxHeartbeats 4000000
set_option maxRecDepth 100000
open Go.RowKit Go.Maps
def zn:List (List UInt8×Int):=[([111,114],10),([97,110,100],9),([60,61],8),([60],7),([33,61],6),([61],5),([42],3),([45],2),([43],1)]
def lO{H:Type}:List (List UInt8×Int)→DataW H
 | []=>.map []
 | p::r=>(lO r).put (.string p.1) (.lit (.int J p.2))
def me:List (List UInt8×Int)→List UInt8→Int
 | [],_=>0
 | p::r,t=>if t=p.1 then p.2 else me r t
theorem uv{H:Type}:∀l:List (List UInt8×Int),IsMap (lO (H:=H) l)
 | []=>⟨[],Z⟩
 | p::r=>by
  obtain⟨es,h⟩:=uv (H:=H) r;exact⟨_,by rw[lO,h];rfl⟩
theorem xh{H:Type}(t:List UInt8):∀l:List (List UInt8×Int),(lO (H:=H) l).atKey (.string t) (.lit (.int J 0))=.lit (.int J (me l t))
 | []=>rfl
 | p::r=>by
  by_cases h:t=p.1
  ·rw[lO,h,atKey_put_same (uv r) (by trivial),me,oA Z]
  ·rw[lO,atKey_put_other (fun e=>h (by injection e)),me,ox h,xh t r]
theorem ui:Keyed r6 9:=string_keyed Tryz.underlying9
theorem eX{H:Type}{w:p7}{b n:Nat}{l:List (List UInt8×Int)}(h:w.ownsMap r6 9 (plainElem (H:=H) r6 48) b n (lO l))(d:n<20)(k:ByteArray)(c:Int)(e:k.size<20)(a:(Lit.int J c).wf=true) :
  ∃w',(Instr.mapUpdate 373 (.map (A b)) (p9 k) (I J c)).run r6 w=.ok () w'∧w'.ownsMap r6 9 (plainElem (H:=H) r6 48) b (n+1) (lO ((k.data.toList,c)::l))∧w.grownBy w' (A b):=
 h.update ui Tryz.underlying373 (by unfold maxLen;omega) (WideMaps.keyOf_string_mk Tryz.underlying9 (by unfold maxLen;omega)) (plainElem_int Tryz.underlying48 a)
theorem Ej(w:p7):(zeroValue 48).run r6 w=.ok (I J 0) w:=by kernel_rfl
theorem CP(t:List UInt8)(g:t≠[62])(h:t≠[62,61]):opM t 2=(me zn t,false):=by
 have i:(t==[62])=false:=by simpa using g
 have j:(t==[62,61])=false:=by simpa using h
 unfold opM;simp only[i,j];simp only[zn,me]
 by_cases c1:t=[43]
 ·subst c1;rfl
 by_cases c2:t=[45]
 ·subst c2;rfl
 by_cases a:t=[42]
 ·subst a;rfl
 by_cases c4:t=[61]
 ·subst c4;rfl
 by_cases b:t=[33,61]
 ·subst b;rfl
 by_cases c:t=[60]
 ·subst c;rfl
 by_cases d:t=[60,61]
 ·subst d;rfl
 by_cases e:t=[97,110,100]
 ·subst e;rfl
 by_cases f:t=[111,114]
 ·subst f;rfl
 simp[c1,c2,a,c4,b,c,d,e,f]
theorem Ea(t:ByteArray)(i:t.size≤maxLen)(w:p7):r9 r6 185 #[p9 t] w fun e w'=>e=tF (wF #[I J (opM t.data.toList 2).1,ur (opM t.data.toList 2).2])∧FS w w':=by
 have k:=@run_makeMap r6;have l:(w.alloc (.map #[] 0)).ownsMap r6 9 (plainElem (H:=Unit) r6 48) w.heap.size 0 (lO []):=World.ownsMap_made _ _ _ _;obtain⟨w1,F,m,g1⟩:=eX l (by omega) ⟨#[43]⟩ 1 (by decide) (by decide);obtain⟨G,r2,n,g2⟩:=eX m (by omega) ⟨#[45]⟩ 2 (by decide) (by decide);obtain⟨K,L,o,g3⟩:=eX n (by omega) ⟨#[42]⟩ 3 (by decide) (by decide);obtain⟨w4,r4,p,g4⟩:=eX o (by omega) ⟨#[61]⟩ 5 (by decide) (by decide);obtain⟨M,N,q,g5⟩:=eX p (by omega) ⟨#[33,61]⟩ 6 (by decide) (by decide);obtain⟨P,Q,r,g6⟩:=eX q (by omega) ⟨#[60]⟩ 7 (by decide) (by decide);obtain⟨R,S,s,g7⟩:=eX r (by omega) ⟨#[60,61]⟩ 8 (by decide) (by decide);obtain⟨T,U,u,g8⟩:=eX s (by omega) ⟨#[97,110,100]⟩ 9 (by decide) (by decide);obtain⟨f,W,v,g9⟩:=eX u (by omega) ⟨#[111,114]⟩ 10 (by decide) (by decide);obtain⟨c,X,d,x⟩:=v.lookup_int ui Tryz.underlying373 Tryz.underlying48 (Ej f) (WideMaps.keyOf_string_mk Tryz.underlying9 i);have y:c=me zn t.data.toList:=by
  have e:=xh (H:=Unit) t.data.toList zn;have z:=d.symm.trans e;injection z with B
  injection B
 have C:FS w f:=by
  have b0:FS w (w.alloc (.map #[] 0)):=(EU _ _).alloc (ET _) _;have st:∀{a b:p7},FS w a→a.grownBy b (A w.heap.size)→FS w b:=fun h g=>h.grown g h.size (fun j D=>by cases D;exact ET _)
  exact st (st (st (st (st (st (st (st (st b0 g1) g2) g3) g4) g5) g6) g7) g8) g9
 go_enter Tryz.func185,Tryz.ntmps185
 go_wp2
 ·have e:t.data.toList=[62]:=by rw[←Fj];rename_i h;simpa using h
  rw[e];exact⟨Z,_,results_tmp2 Z _ _ _,Z,EU _ _⟩
 ·have e:t.data.toList=[62,61]:=by rw[←Fj];rename_i h;simpa using h
  rw[e];exact⟨Z,_,results_tmp2 Z _ _ _,Z,EU _ _⟩
 ·have E:t.data.toList≠[62]:=by rw[←Fj];rename_i h _;simpa using h
  have n2:t.data.toList≠[62,61]:=by rw[←Fj];rename_i h;simpa using h
  rw[CP _ E n2,←y];exact⟨Z,_,results_tmp2 Z _ _ _,Z,C⟩
theorem Ax{E S:vn}{sz bytes:Nat}(m:Elem E S sz bytes){w:p7}{ops:Array Oper}{rest:List Oper}{o:Oper}{a:Act}{Q:Exit→Act→p7→Prop}(r:o.guard=V)(s x:Operand)
  (q:o.op=.call { callee:=.builtin .append,args:=#[s,x],argTypes:=#[S,S] }) {p:Option vv} {n c g9:Nat} {xs z:List r3} (N:a.eval s=O p n c) (P:a.eval x=O (A ⟨g9,0,V⟩) 1 1)
  (k:w.ownsRow 0 E sz (O p n c) n xs) (R:w.heap[g9]?=A (p8 z.toArray E (0,0))) (T:z.length=sz) (U:∀u∈z,u.oneCell'=true) (hn:n≤100000)
  (h:∀g cap w',((O p n c).ownBlock=A g∨w.heap.size≤g)→Chg (fun b=>(O p n c).ownBlock=A b) w w'→w'.ownsRow 0 E sz (O (A ⟨g,0,V⟩) (n+1) cap) (n+1) (xs++z)→
   wpList r6 ops Q rest (a.put o.dst (O (A ⟨g,0,V⟩) (n+1) cap)) w'):wpList r6 ops Q (o::rest) a w:=by
 obtain⟨i0,W,t,v,y,B,C⟩:=m.info;have D:=m.small;have F:=m.pos;have f:∀j u,z[j]?=A u→w.cell? ((⟨g9,0,V⟩:vv).add j)=A u:=fun j u X=>by
  have e:(⟨g9,0,V⟩:vv).add j=⟨g9,j,V⟩:=by
   unfold Addr.add
   by_cases M:j=0
   ·subst M;rfl
   ·rw[ox M];simp
  rw[e,FR _ _ _ _ _ _ R]
  simpa using X
 have G:(n+1)*bytes≤140737488355328:=by
  have:=Nat.mul_le_mul (show n+1≤100001 by omega) D.2;omega
 refine aA w r s x S q 0 E i0 W sz bytes m.und t v y B C F (O p n c) n xs N k ⟨g9,0,V⟩ 1 1 z P (by omega) f U (by unfold maxLen;omega) G (Fi _) (by decide) ?_;intro v' w' d i;rcases i with ⟨g,cap,H,K,l⟩|⟨cap,H,K⟩
 ·subst K;have q:(O p n c).ownBlock=A g:=by rw[H];rfl
  refine h g cap w' (Or.inl q) ?_ d;exact⟨l.os,l.tape,l.output,l.size,fun b hb L=>l.block b hb (fun e=>L (q.trans e.symm))⟩
 ·subst H;exact h _ cap w' (Or.inr (ET _)) (Chg.b K) d
theorem B5:Elem 51 49 7 80:=Elem.of (z:=s3 #[I J 0,I J 0,I Y 0,p9 ByteArray.empty,I Y 0,I J 0,O V 0 0]) Tryz.underlying49 (by kernel_rfl) (by kernel_rfl) (by decide) (by decide)
theorem aF.t{w:p7}{B:Nat}:∀{d:Nat} {a:List ah} {e:r3},aF w B d a e→∃p c,e=O p a.length c
 | 0,_,_,h=>by
  obtain⟨rfl,p,c,rfl⟩:=h;exact⟨p,c,Z⟩
 | _+1,_,_,h=>by
  rcases h with ⟨rfl,p,c,rfl⟩|⟨b,off,cap,_,_,_,_,rfl,_⟩
  ·exact⟨p,c,Z⟩
  ·exact⟨_,_,Z⟩
def eW:Nat→ah→Prop
 | 0,T=>T.h.size≤72007
 | d+1,T=>T.h.size≤72007∧T.u.length≤20000∧∀k∈T.u,eW d k
theorem eW.h:∀{d:Nat} {T:ah},eW d T→T.h.size≤72007
 | 0,_,h=>h
 | _+1,_,h=>h.1
structure mP (M:Nat) (vars:List ByteArray) (vV:r3) (w:p7):Prop where
 m:w.cell? ⟨M,2,V⟩=A vV
 lt:M<w.heap.size
 v:Rd.str.y w (fun b=>b<w.heap.size) vars vV
theorem mP.C{M:Nat}{vars:List ByteArray}{vV:r3}{w w':p7}(h:mP M vars vV w)(b:FS w w'):mP M vars vV w':=
 ⟨(b.cell (p:=⟨M,2,V⟩) h.lt).trans h.m,EY h.lt b.size,Rd.sb (fun _ a=>EY a b.size) (Rd.u h.v (fun _ a=>a) b)⟩
def aW(w w':p7) (b:Nat):Prop:=w.heap.size≤b∧b<w'.heap.size
def dM(d:Nat) (r:Except Flt aw) (w:p7) (e:Ending) (w':p7):Prop:=FS w w'∧match r with
 | .ok E=>∃s,e=tF (s3 #[I J E.b,I J E.h.b,I Y E.h.q,p9 E.h.h,I Y E.q,I J E.op,s])∧fL E∧eS w' (aW w w') d E.u s
 | .error er=>e=aQ er.1 er.2
def jz(d:Nat) (r:Except Flt (List aw)) (w:p7) (e:Ending) (w':p7):Prop:=FS w w'∧match r with
 | .ok es=>∃v,e=tF v∧cO w' (fun b=>aW w w' b∧v.ownBlock≠A b) 51 (bP d) es v∧∀g,v.ownBlock=A g→w.heap.size≤g
 | .error er=>e=aQ er.1 er.2
theorem yX{α β:Type}{f:α→Except Flt β}{l:List α}{k:Nat}{ys:List β}{x:α}(a:l[k]?=A x)(h:dx f (l.take k)=vb ys):dx f (l.take (k+1))=match f x with | .error e=>wD e | .ok y=>vb (ys++[y]):=it a h
theorem ye{α β:Type}{f:α→Except Flt β}{l:List α}{k:Nat}{e:Flt}(h:dx f (l.take k)=wD e):dx f l=wD e:=by
 unfold dx at *
 conv=>lhs;rw[←List.take_append_drop k l]
 rw[jt,h]
theorem Chg.T{F:Nat→Prop}{B:Nat}{w w1 c:p7}(h:Below B w w1)(a:Chg F w1 c)(hF:∀b,F b→B≤b)(hB:B≤w1.heap.size):Below B w c:=
 h.trans ⟨a.os,a.tape,a.a,a.u,fun b e=>a.q b (by omega) (fun d=>by have:=hF b d;omega)⟩
theorem zm{d:Nat}{w wr n W2 f m:p7}{es:List aw}{E:aw}{p:Option vv}{k c g cap:Nat}{s:r3}{us:List r3}(M:es.length=k)
  (y:FS w wr) (N:wr.heap.size≤n.heap.size) (j:FS wr f) (i:FS W2 f)
  (P:(bP d).lcells wr (fun b=>aW w wr b∧(O p k c).ownBlock≠A b) es us) (q:wr.ownsRow 0 51 7 (O p k c) k us) (r:∀g,(O p k c).ownBlock=A g→w.heap.size≤g)
  (t:fL E) (z:eS W2 (aW n W2) d E.u s)
  (L:(O p k c).ownBlock=A g∨f.heap.size≤g) (B:Chg (fun b=>(O p k c).ownBlock=A b) f m) (u:m.ownsRow 0 51 7 (O (A ⟨g,0,V⟩) (k+1) cap) (k+1) (us++bU E s)) :
  FS w m∧cO m (fun b=>aW w m b∧(O (A ⟨g,0,V⟩) (k+1) cap).ownBlock≠A b) 51 (bP d) (es++[E]) (O (A ⟨g,0,V⟩) (k+1) cap)∧∀a,(O (A ⟨g,0,V⟩) (k+1) cap).ownBlock=A a→w.heap.size≤a:=by
 have Q:=i.size;have R:=B.u;have l:FS w f:=y.trans (j.mono y.size);have S:(bP d).at_ W2 (aW n W2) E (bU E s):=fS.2 ⟨t,s,Z,z⟩;have C:∀a,(O p k c).ownBlock=A a→a<wr.heap.size:=fun a h=>(eH q a h).2
 let F:Nat→Prop:=fun b=>(aW w wr b∧(O p k c).ownBlock≠A b)∨aW n W2 b
 have hF:∀b,F b→w.heap.size≤b∧b<f.heap.size∧(O p k c).ownBlock≠A b:=by
  rintro b (⟨⟨x,D⟩,T⟩|⟨x,D⟩)
  ·exact⟨x,by have:=j.size;omega,T⟩
  ·exact⟨by have:=y.size;omega,by omega,fun e=>by have:=C b e;omega⟩
 have G:(bP d).lcells f (fun b=>aW w wr b∧(O p k c).ownBlock≠A b) es us:=Rd.sI (fun b h o v=>(j.block b h.1.2).trans v) P;have H:(bP d).at_ f (aW n W2) E (bU E s):=(bP d).t (fun b h o v=>(i.block b h.2).trans v) S;have K:(bP d).lcells m F (es++[E]) (us++bU E s):=Rd.sI (fun b h o v=>(B.q b (hF b h).2.1 (hF b h).2.2).trans v) (Rd.tf G H (fun b x D=>by have:=x.1.2;have:=D.1;omega) (fun _ h=>Or.inl h) (fun _ h=>Or.inr h));refine⟨Chg.T l B (fun b h=>r b h) l.size,⟨us++bU E s,?_,Rd.lcells_sub (fun b h=>⟨⟨(hF b h).1,by have:=(hF b h).2.1;omega⟩,fun e=>?_⟩) K⟩,fun a e=>?_⟩
 ·rw[ge,Fl,M];exact u
 ·injection e with e
  have e:g=b:=e;subst e;rcases L with h|h
  ·exact (hF g (by assumption)).2.2 h
  ·have:=(hF g (by assumption)).2.1;omega
 ·injection e with e
  have e:g=a:=e;subst e;rcases L with h|h
  ·exact r g h
  ·have:=l.size;omega
def vh(w:p7) (d:Nat) (f:ah→Except Flt aw) (Ts:List ah) (n:Nat) (v i:r3) (W:p7):Prop:=
 ∃k es,k≤n∧i=I Y (k:Int)∧dx f (Ts.take k)=vb es∧es.length=k∧FS w W∧cO W (fun b=>aW w W b∧v.ownBlock≠A b) 51 (bP d) es v∧∀g,v.ownBlock=A g→w.heap.size≤g
theorem nj(d M:Nat)(vars:List ByteArray)(vV:r3)(f:ah→Except Flt aw)(Ts:List ah)(sl:r3)(w:p7)(hv:mP M vars vV w)(l:aF w w.heap.size (d+1) Ts sl)(af:Ts.length≤20000)
  (y:∀T∈Ts,∀(s:r3) (W:p7),mP M vars vV W→Fits T→aF W W.heap.size d T.u s→r9 r6 109 #[tv (A ⟨M,0,V⟩),s3 #[I J T.b,p9 T.h,I Y T.q,I Y T.t,s]] W (dM d (f T) W)) :
  r9 r6 110 #[tv (A ⟨M,0,V⟩),sl] w (jz d (dx f Ts) w):=by
 obtain⟨n,H⟩:=zzy (Ts.length);obtain⟨p,c,ak⟩:∃p c,sl=O p n c:=by
  rcases l with ⟨rfl,sp,cap,rfl⟩|⟨b,off,cap,h1,h2,h3,h4,rfl,h6⟩
  ·exact⟨sp,cap,by rw[←H];rfl⟩
  ·exact⟨_,_,by rw[H]⟩
 subst ak;obtain⟨HK,HV,HO⟩:=zz3 l hv y;rw[H]at af;have HN:=Hd H;clear l hv y H
 go_enter Tryz.func110,Tryz.ntmps110
 go_wp2
 go_loopw [5,10] (vh w d f Ts n) (fun _ i _=>n-(intOf i).toNat)
 case atStart=>exact⟨0,[],Fi _,Z,Z,Z,EU _ _,cO.nil,fun g h=>by cases h⟩
 case round =>
  obtain⟨k,es,hk,rfl,hl,D,hb,m,K⟩:=hrel;obtain⟨p5,c5,L⟩:=m.b;rw[D]at L;subst L;have bb:(0:Int)≤k:=by omega
  obtain⟨B,HL,HE,HG,HR⟩:=zz5 hb hl D K m;clear hb hl D K m
  by_cases aq:k<n
  ·have bc:(k:Int)<n:=by omega
   obtain⟨T,N⟩:∃T,Ts[k]?=A T:=⟨_,EX (by rw[HN.o];exact aq)⟩;have l:=HK.o.C B.o;rcases l with ⟨rfl,_⟩|⟨b,off,cap,h1,h2,h3,h4,he,h6⟩
   ·simp at N
   rw[HN.o]at he;injection he with e1 _ e3
   subst e1;subst e3;obtain⟨q,s,c0,c1,c2,c3,c4,F⟩:=h6 k T N;obtain⟨ps,cs,rfl⟩:=F.t;obtain⟨HF,P⟩:=zz2 q (yX N HL.o);have r:FS wr (wr.alloc (p8 #[I J T.b,p9 T.h,I Y T.q,I Y T.t,O ps T.u.length cs] 64)):=(EU _ wr).alloc (ET _) _;obtain⟨HA,HC⟩:=zz2 r (HO.o T (Fv N) (O ps T.u.length cs) (wr.alloc (p8 #[I J T.b,p9 T.h,I Y T.q,I Y T.t,O ps T.u.length cs] 64)) ((HV.o.C B.o).C r) q ((F.C (r.mono B.o.size)).up (EZ B.o.size r.size)));have ar:=ot wr (p8 #[I J T.b,p9 T.h,I Y T.q,I Y T.t,O ps T.u.length cs] 64);clear q F h6 h1 h2 h3 h4 r N;go_wp2_with fail
   refine HC.o.mono ?_;rintro e W2 ⟨Q,he⟩;have t:=Hd (HA.o.trans (Q.mono HA.o.size));clear Q c0 c1 c2 c3 c4 ar
   cases R:f T with
   | error er =>
    rw[R]at he;have he:e=aQ er.1 er.2:=he;subst he;have HX:Hid (dx f Ts=wD er):=ye (k:=k+1) (by rw[P.o,R]);refine⟨Z,B.o.trans (t.o.mono B.o.size),?_⟩;rw[HX.o];rfl
   | ok E =>
    rw[R]at he;obtain⟨s2,rfl,u,G⟩:=he;have av:Hid (dx f (Ts.take (k+1))=vb (es++[E])):=by show _=_;rw[P.o,R]
    obtain⟨a1,a6⟩:=zz2 u G;obtain⟨us,a,j⟩:=HR.o;rw[HE.o,ge]at a;have a7:=Hd j;have v:FS W2 (W2.alloc (p8 #[I J E.b,I J E.h.b,I Y E.h.q,p9 E.h.h,I Y E.q,I J E.op,s2] 51)):=(EU _ W2).alloc (ET _) _;obtain⟨C,a8,ba⟩:=zz3 v a (ab a (t.o.trans (v.mono t.o.size)));obtain⟨pe,ce,S⟩:=eS.b G;clear u G R a j v;subst S;go_wp2_with (at_builtin;go_must (refine Ax B5 Z (.tmp 14) (.tmp 18) Z (p:=p5) (n:=k) (c:=c5) (z:=bU E (O pe E.u.length ce)) Z Z ba.o (ot W2 _) Z (by simp[Value.oneCell',bU]) (by omega) ?_);intro g cap W4 hg hC x)
    obtain⟨U,X,ad⟩:=zm HE.o B.o HA.o.size (t.o.trans (C.o.mono t.o.size)) C.o a7.o a8.o HG.o a1.o a6.o hg hC x;have HP:Hid (vh w d f Ts n (O (A ⟨g,0,V⟩) (k+1) cap) (I Y ((k+1:Nat):Int)) W4):=⟨k+1,es++[E],by omega,Z,av.o,by rw[Fl,HE.o];rfl,U,X,ad⟩;clear hg hC x U X ad;go_wp2_with fail
    refine⟨HP.o,?_⟩;simp[intOf];omega
  ·have HX:Hid (dx f Ts=vb es):=by
    show _=_
    rw[←HL.o,Fq (by rw[HN.o];omega)]
   go_wp2_with fail
   go_ret;refine⟨B.o,?_⟩;rw[HX.o];exact⟨_,Z,HR.o,HG.o⟩
def st7(W:p7) (g o:Nat) (a b c d e f h:r3):World:=((((((W.setCell ⟨g,o+0,V⟩ a).setCell ⟨g,o+1,V⟩ b).setCell ⟨g,o+2,V⟩ c).setCell ⟨g,o+3,V⟩ d).setCell ⟨g,o+4,V⟩ e).setCell ⟨g,o+5,V⟩ f).setCell ⟨g,o+6,V⟩ h
theorem AX(a b:aw)(h j:Option vv)(k n2 c1 c2 g cap:Nat)(cur:Array r3)(w:p7)(m:w.heap[g]?=A (p8 cur 51 (0,0)))
  (c:∀i u,(bU a (O h k c1))[i]?=A u→w.cell? ⟨g,i,V⟩=A u) (d:∀i u,(bU b (O j n2 c2))[i]?=A u→w.cell? ⟨g,7+i,V⟩=A u) :
  r9 r6 186 #[O (A ⟨g,0,V⟩) 2 cap] w fun e w'=>e=tF (wF #[])∧w'=(st7 (st7 w g 0 (I J b.b) (I J b.h.b) (I Y b.h.q) (p9 b.h.h) (I Y b.q) (I J b.op) (O j n2 c2)) g 7 (I J a.b) (I J a.h.b) (I Y a.h.q) (p9 a.h.h) (I Y a.q) (I J a.op) (O h k c1)).drew:=by
 have a0:=c 0 _ Z;have a1:=c 1 _ Z;have a2:=c 2 _ Z;have a3:=c 3 _ Z;have a4:=c 4 _ Z;have a5:=c 5 _ Z;have p:=c 6 _ Z;have b0:w.cell? ⟨g,7,V⟩=_:=d 0 _ Z;have q:w.cell? ⟨g,8,V⟩=_:=d 1 _ Z;have r:w.cell? ⟨g,9,V⟩=_:=d 2 _ Z;have s:w.cell? ⟨g,10,V⟩=_:=d 3 _ Z;have t:w.cell? ⟨g,11,V⟩=_:=d 4 _ Z;have v:w.cell? ⟨g,12,V⟩=_:=d 5 _ Z;have x:w.cell? ⟨g,13,V⟩=_:=d 6 _ Z;have f0:=bM m;clear c d m
 go_enter Tryz.func186,Tryz.ntmps186
 go_wp2_with fail
 refine wp_loop_rounds 2 ?_;rw[rounds_succ];go_wp2_with fail
 go_region
 go_wp2_with fail
 clear a0 a1 a2 a3 a4 a5 p b0 q r s t v x f0;obtain⟨n,f⟩:=zzx ((st7 (st7 w g 0 (I J b.b) (I J b.h.b) (I Y b.h.q) (p9 b.h.h) (I Y b.q) (I J b.op) (O j n2 c2)) g 7 (I J a.b) (I J a.h.b) (I Y a.h.q) (p9 a.h.h) (I Y a.q) (I J a.op) (O h k c1)).drew);change Code.rounds _ _ _ _ _ (st7 (st7 w g 0 (I J b.b) (I J b.h.b) (I Y b.h.q) (p9 b.h.h) (I Y b.q) (I J b.op) (O j n2 c2)) g 7 (I J a.b) (I J a.h.b) (I Y a.h.q) (p9 a.h.h) (I Y a.q) (I J a.op) (O h k c1)).drew;rw[←f];have l:=Hd f;clear f;rw[rounds_succ];go_wp2_with fail
 go_end0
 exact⟨Z,l.o⟩
theorem gZ{w:p7}{g:Nat}{l:List r3}{t:vn}(h:w.heap[g]?=A (p8 l.toArray t (0,0)))(i:Nat)(u:r3):(w.setCell ⟨g,i,V⟩ u).heap[g]?=A (p8 (l.set i u).toArray t (0,0)):=by rw[heap_set h i u,EV]
theorem oY{W:p7}{g o:Nat}{l:List r3}{t:vn}(i:W.heap[g]?=A (p8 l.toArray t (0,0)))(a b c d e f h:r3) :
  (st7 W g o a b c d e f h).heap[g]?=A (p8 (((((((l.set (o+0) a).set (o+1) b).set (o+2) c).set (o+3) d).set (o+4) e).set (o+5) f).set (o+6) h).toArray t (0,0)):=by
 unfold st7;exact gZ (gZ (gZ (gZ (gZ (gZ (gZ i _ _) _ _) _ _) _ _) _ _) _ _) _ _
theorem Ek{W:p7}{g:Nat}{h i rest:List r3}{t:vn}(q:W.heap[g]?=A (p8 (h++i++rest).toArray t (0,0)))(r:h.length=7)(s:i.length=7)(a b c d e f u j b' k l m n p:r3) :
  (st7 (st7 W g 0 a b c d e f u) g 7 j b' k l m n p).drew.heap[g]?=A (p8 ([a,b,c,d,e,f,u]++[j,b',k,l,m,n,p]++rest).toArray t (0,0)):=by
 have v:=oY (o:=7) (oY (o:=0) q a b c d e f u) j b' k l m n p;have w:∀X:p7,X.drew.heap=X.heap:=fun _=>rfl
 rw[w,v]
 match h,r,i,s with
 | [_,_,_,_,_,_,_],_,[_,_,_,_,_,_,_],_=>simp[List.set_cons_succ,List.set_cons_zero]
theorem qZ{W:p7}{g o:Nat}(a b c d e f h:r3):Chg (fun x=>x=g) W (st7 W g o a b c d e f h):=by
 have step:∀{j:p7},Chg (fun x=>x=g) W j→∀(i:Nat) (u:r3),Chg (fun x=>x=g) W (j.setCell ⟨g,i,V⟩ u):=fun k i u=>k.t (p:=⟨g,i,V⟩) (Or.inl Z) u
 unfold st7;exact step (step (step (step (step (step (step (Chg.y _ W) _ a) _ b) _ c) _ d) _ e) _ f) _ h
theorem BW{W:p7}{a B rest:List r3}{g cap:Nat}(b:a.length=7)(hB:B.length=7)(h:W.heap[g]?=A (p8 (a++B++rest).toArray 51 (0,0)))(c:2≤cap)(d:cap≤maxLen)(e:(a++B++rest).length=cap*7) :
  W.ownsRow 0 51 7 (O (A ⟨g,0,V⟩) 2 cap) 2 (a++B):=
 ⟨by rw[Fl,b,hB],Or.inr ⟨g,cap,_,Z,Fi _,h,c,d,by rw[List.size_toArray];exact e,List.take_left' (by rw[Fl,b,hB])⟩⟩
theorem De(a b:aw)(c f:Option vv)(d n2 c1 c2 g cap:Nat)(w:p7)(j:w.ownsRow 0 51 7 (O (A ⟨g,0,V⟩) 2 cap) 2 (bU a (O c d c1)++bU b (O f n2 c2))) :
  r9 r6 186 #[O (A ⟨g,0,V⟩) 2 cap] w fun e w'=>e=tF (wF #[])∧Chg (fun x=>x=g) w w'∧w'.ownsRow 0 51 7 (O (A ⟨g,0,V⟩) 2 cap) 2 (bU b (O f n2 c2)++bU a (O c d c1)):=by
 obtain⟨_,⟨h,_⟩|⟨B,p,cur,h,_,l,r,s,t,v⟩⟩:=j
 ·cases h
 injection h with k _ y
 injection k with k
 injection k with k
 subst k;subst y;obtain⟨rest,z⟩:∃rest,cur=(bU a (O c d c1)++bU b (O f n2 c2)++rest).toArray:=⟨cur.toList.drop (2*7),by rw[←v,List.take_append_drop]⟩;subst z;refine (AX a b c f d n2 c1 c2 g cap _ w l (fun i u hu=>?_) (fun i u hu=>?_)).mono ?_
 ·rw[FR _ _ _ _ _ _ l];have q:i<7:=(Fo.1 hu).1;rw[List.getElem?_toArray,List.append_assoc,FM (by exact q)];exact hu
 ·rw[FR _ _ _ _ _ _ l];have q:i<7:=(Fo.1 hu).1;rw[List.getElem?_toArray,List.append_assoc,FA (by show 7≤7+i;omega),FM (by show 7+i-7<7;omega)];have e:7+i-(bU a (O c d c1)).length=i:=by show 7+i-7=i;omega
  rw[e];exact hu
 ·rintro e w' ⟨rfl,rfl⟩;have m:(st7 (st7 w g 0 (I J b.b) (I J b.h.b) (I Y b.h.q) (p9 b.h.h) (I Y b.q) (I J b.op) (O f n2 c2)) g 7 (I J a.b) (I J a.h.b) (I Y a.h.q) (p9 a.h.h) (I Y a.q) (I J a.op) (O c d c1)).drew.heap[g]?=A (p8 (bU b (O f n2 c2)++bU a (O c d c1)++rest).toArray 51 (0,0)):=
   Ek l Z Z (I J b.b) (I J b.h.b) (I Y b.h.q) (p9 b.h.h) (I Y b.q) (I J b.op) (O f n2 c2) (I J a.b) (I J a.h.b) (I Y a.h.q) (p9 a.h.h) (I Y a.q) (I J a.op) (O c d c1)
  have n:=((qZ (W:=w) (g:=g) (o:=0) (I J b.b) (I J b.h.b) (I Y b.h.q) (p9 b.h.h) (I Y b.q) (I J b.op) (O f n2 c2)).h (qZ (g:=g) (o:=7) (I J a.b) (I J a.h.b) (I Y a.h.q) (p9 a.h.h) (I Y a.q) (I J a.op) (O c d c1))).h (Chg.b ((EU _ _).drew));exact⟨Z,n,BW Z Z m r s (by rw[←t];rfl)⟩
theorem fA{w:p7}{T:Nat}{a b c d e f h:r3}{t:vn}(g:w.heap[T]?=A (p8 #[a,b,c,d,e,f,h] t (0,0))) :
  w.cell? ⟨T,0,V⟩=A a∧w.cell? ⟨T,1,V⟩=A b∧w.cell? ⟨T,2,V⟩=A c∧w.cell? ⟨T,3,V⟩=A d∧w.cell? ⟨T,4,V⟩=A e∧w.cell? ⟨T,5,V⟩=A f∧w.cell? ⟨T,6,V⟩=A h:=by
 simp[World.cell?,g]
theorem kq{W:p7}{g:Nat}{i j x2 x3 x4 x5 x6:r3}{t:vn}(k:W.heap[g]?=A (p8 #[i,j,x2,x3,x4,x5,x6] t (0,0)))(a b c d e f h:r3):(st7 W g 0 a b c d e f h).heap[g]?=A (p8 #[a,b,c,d,e,f,h] t (0,0)):=by
 have m:=oY (o:=0) (l:=[i,j,x2,x3,x4,x5,x6]) k a b c d e f h;rw[m];simp
theorem jA(W:p7)(i:Ending→p7→Prop)(T:Nat)(a b c d e f h:r3)(j:W.heap[T]?=A (p8 #[a,b,c,d,e,f,h] 51 (0,0)))
  (tmps:Array r3) (k:tmps.getD 4 undef=tv (A ⟨T,0,V⟩)) (l:i (tF (s3 #[a,b,c,d,e,f,h])) W):bodyPost r6 Tryz.f109 i .ret ⟨tmps,[]⟩ W:=by
 obtain⟨c0,c1,c2,m,c4,n,o⟩:=fA j;have g:tmps[4]?.getD undef=tv (A ⟨T,0,V⟩):=by simpa using k
 refine bodyPost_ret (v:=s3 #[a,b,c,d,e,f,h]) ?_ Z l;simp[results,Tryz.results109,go_sem,g,c0,c1,c2,m,c4,n,o]
theorem D6(t:ByteArray):I64 (lX t):=by
 have h:=si (strip t.data.toList);unfold lK at h;unfold lX I64;dsimp only
 split<;>omega
theorem qL(T:ah)(c:T.h.size≤72007):lz (bu T):=by
 have a:U8 2:=⟨by decide,by decide⟩;have b:U8 1:=⟨by decide,by decide⟩;have i0:I64 0:=⟨by decide,by decide⟩;unfold bu
 split
 ·exact⟨a,i0,by show T.h.size≤maxLen;unfold maxLen;omega⟩
 ·exact⟨b,D6 _,Fi _⟩
theorem Ey(t:List UInt8)(k:Nat):U8 (opM t k).1:=by
 have h:∀(b:Bool) (x y:Int×Bool),U8 x.1→U8 y.1→U8 (if b then x else y).1:=fun b x y c d=>by cases b;exact d;exact c
 have a:∀(n:Nat) (b:Bool),n<20→U8 ((n:Int),b).1:=fun n b e=>⟨by show (0:Int)≤n;omega,by show (n:Int)<256;omega⟩
 unfold opM;refine h _ _ _ (h _ _ _ (a 7 _ (by decide)) (h _ _ _ (a 8 _ (by decide)) (h _ _ _ (a 1 _ (by decide)) (h _ _ _ (a 2 _ (by decide)) (h _ _ _ (a 3 _ (by decide)) (h _ _ _ (a 5 _ (by decide)) (h _ _ _ (a 6 _ (by decide)) (h _ _ _ (a 7 _ (by decide)) (h _ _ _ (a 8 _ (by decide)) (h _ _ _ (a 9 _ (by decide)) (h _ _ _ (a 10 _ (by decide)) (a 0 _ (by decide))))))))))))) (h _ _ _ (a 4 _ (by decide)) (a 11 _ (by decide)))
theorem mw{B:Nat}{w W:p7}{g:Nat}(j:Below B w W)(i:B≤g)(a b c d e f h:r3):Below B w (st7 W g 0 a b c d e f h):=by
 unfold st7;exact ((((((j.setCell i a).setCell i b).setCell i c).setCell i d).setCell i e).setCell i f).setCell i h
theorem pX(d M:Nat)(vars:List ByteArray)(T:ah)(p:Option vv)(n c:Nat)(w:p7)(i:T.b=14∨T.b=15)(r:T.h.size≤72007) :
  r9 r6 109 #[tv (A ⟨M,0,V⟩),s3 #[I J T.b,p9 T.h,I Y T.q,I Y T.t,O p n c]] w (dM d (bo vars d T) w):=by
 have t:Hid (bo vars d T=vb (.mk 1 (bu T) 0 0 [])):=by
  show _=_
  cases d<;>(unfold bo;rcases i with h|h<;>rw[h]<;>rfl)
 obtain⟨l,j,_⟩:=ay w (p8 #[I J T.b,p9 T.h,I Y T.q,I Y T.t,O p n c] 64) (p8 #[I J 0,I J 0,I Y 0,p9 ⟨#[]⟩,I Y 0,I J 0,O V 0 0] 51);have k:FS w ((w.alloc (p8 #[I J T.b,p9 T.h,I Y T.q,I Y T.t,O p n c] 64)).alloc (p8 #[I J 0,I J 0,I Y 0,p9 ⟨#[]⟩,I Y 0,I J 0,O V 0 0] 51)):=((EU _ w).alloc (ET _) _).alloc (by simp) _;have s:Hid (r9 r6 184 #[s3 #[I J T.b,p9 T.h,I Y T.q,I Y T.t,O p n c]] ((w.alloc (p8 #[I J T.b,p9 T.h,I Y T.q,I Y T.t,O p n c] 64)).alloc (p8 #[I J 0,I J 0,I Y 0,p9 ⟨#[]⟩,I Y 0,I J 0,O V 0 0] 51)) fun e w'=>e=tF (s3 #[I J (bu T).b,I Y (bu T).q,p9 (bu T).h])∧Below ((w.alloc (p8 #[I J T.b,p9 T.h,I Y T.q,I Y T.t,O p n c] 64)).alloc (p8 #[I J 0,I J 0,I Y 0,p9 ⟨#[]⟩,I Y 0,I J 0,O V 0 0] 51)).heap.size ((w.alloc (p8 #[I J T.b,p9 T.h,I Y T.q,I Y T.t,O p n c] 64)).alloc (p8 #[I J 0,I J 0,I Y 0,p9 ⟨#[]⟩,I Y 0,I J 0,O V 0 0] 51)) w'):=rI T (O p n c) _ i r;obtain⟨b,f,u⟩:=zz3 j k (qL T r);clear l j k;rcases i with i|i
 all_goals
  rw[i]at s b f ⊢
  go_enter Tryz.func109,Tryz.ntmps109
  go_wp2_with fail
  refine s.o.mono ?_;rintro e v ⟨rfl,g⟩;have a:=ag g b.o (ES.1 b.o).1;obtain⟨m,q⟩:=zz2 (f.o.trans (g.mono f.o.size)) (kq a (I J 1) (I J (bu T).b) (I Y (bu T).q) (p9 (bu T).h) (I Y 0) (I J 0) (O V 0 0));have x:Hid (dM d (bo vars d T) w (tF (s3 #[I J 1,I J (bu T).b,I Y (bu T).q,p9 (bu T).h,I Y 0,I J 0,O V 0 0])) (st7 v (w.heap.size+1) 0 (I J 1) (I J (bu T).b) (I Y (bu T).q) (p9 (bu T).h) (I Y 0) (I J 0) (O V 0 0))):=by
   refine⟨mw m.o (Fw _) _ _ _ _ _ _ _,?_⟩;rw[t.o];refine⟨O V 0 0,Z,⟨⟨by show (0:Int)≤1;decide,by show (1:Int)<256;decide⟩,u.o,⟨by show (-9223372036854775808:Int)≤0;decide,by show (0:Int)<9223372036854775808;decide⟩,⟨by show (0:Int)≤0;decide,by show (0:Int)<256;decide⟩⟩,?_⟩;exact lL
  obtain⟨c0,c1,c2,y,c4,z,B⟩:=fA a;have f0:=ae a;clear a g;go_wp2_with fail
  exact jA _ _ (w.heap.size+1) _ _ _ _ _ _ _ q.o _ Z x.o
theorem vm(d M:Nat)(vars:List ByteArray)(vV:r3)(T:ah)(p:Option vv)(n c:Nat)(w:p7)(hv:mP M vars vV w)(hk:T.b=13) :
  r9 r6 109 #[tv (A ⟨M,0,V⟩),s3 #[I J T.b,p9 T.h,I Y T.q,I Y T.t,O p n c]] w (dM d (bo vars d T) w):=by
 have H:Hid (bo vars d T=match idxOf T.h vars with|some k=>vb (.mk 2 .zero k 0 [])|none=>wD (213,T.t)):=by
  show _=_
  cases d<;>(unfold bo;rw[hk];rfl)
 rw[hk];have L:=Rd.ss hv.v;obtain⟨pV,cV,N⟩:=Rd.b hv.v;subst N;obtain⟨w1,i⟩:=zzx ((w.alloc (p8 #[I J 13,p9 T.h,I Y T.q,I Y T.t,O p n c] 64)).alloc (p8 #[I J 0,I J 0,I Y 0,p9 ⟨#[]⟩,I Y 0,I J 0,O V 0 0] 51));obtain⟨j,r,_⟩:=ay w (p8 #[I J 13,p9 T.h,I Y T.q,I Y T.t,O p n c] 64) (p8 #[I J 0,I J 0,I Y 0,p9 ⟨#[]⟩,I Y 0,I J 0,O V 0 0] 51);have s:FS w w1:=by rw[i];exact ((EU _ w).alloc (ET _) _).alloc (by simp) _
 rw[←i]at j r;obtain⟨u,y,a⟩:=zz3 j r s;have t:=hv.C s;obtain⟨P,Q⟩:=zz2 hv.v (fun (x:Wb w1)=>so vars T.h (O pV vars.length cV) _ x.1 (t.C x.2).v);obtain⟨nv,z⟩:=zzy (vars.length);have hm:=t.m;rw[z]at Q hm L;obtain⟨R,K,S,U,W⟩:=cells5 j;clear j r s hv t z
 go_enter Tryz.func109,Tryz.ntmps109
 go_upto_region 6 with fail
 change Code.wp _ _ _ _ ((w.alloc (p8 #[I J 13,p9 T.h,I Y T.q,I Y T.t,O p n c] 64)).alloc (p8 #[I J 0,I J 0,I Y 0,p9 ⟨#[]⟩,I Y 0,I J 0,O V 0 0] 51));rw[show (w.alloc (p8 #[I J 13,p9 T.h,I Y T.q,I Y T.t,O p n c] 64)).alloc (p8 #[I J 0,I J 0,I Y 0,p9 ⟨#[]⟩,I Y 0,I J 0,O V 0 0] 51)=w1 from i.symm];clear i;have X1:=fun x:Wb w1=>x.b K
 have M2:=fun x:Wb w1=>x.b hm
 refine aj (by kernel_rfl) (by kernel_rfl) ?_
 repeat (go_big_quiet_step ((go_at_call 183;exact Calls.b (Q.o _))))
 refine wpQuiet_nil ?_;intro W2 B;have C:=aE B;have b:=Hd C;clear B C X1 M2 Q R K S U W hm;have D:=ag b.o u.o (ES.1 u.o).1;have E:=Hd (ag b.o y.o (ES.1 y.o).1);obtain⟨R,K,S,U,W⟩:=cells5 D;clear D
 cases f:idxOf T.h vars with
 | some k =>
  rw[f]at H;rw[show eh (A k)=(k:Int) from rfl];have ak:¬(k:Int)<0:=by omega
  have l:=Hd (bS [(false,213)] 13 T.h T.q T.t (O p n c) W2.heap.size 1 1 (W2.alloc (p8 #[ur false,I Y 213] 162)) Z (by omega) (ot W2 _));have g:Hid (FS w (W2.alloc (p8 #[ur false,I Y 213] 162))):=(a.o.trans (b.o.mono a.o.size)).alloc (EZ a.o.size b.o.size) _;have F:Hid ((W2.alloc (p8 #[ur false,I Y 213] 162)).heap[w.heap.size+1]?=_):=ag ((EU W2.heap.size W2).alloc (ET _) _) E.o (ES.1 E.o).1;have G:I64 (k:Int):=by
   have aq:=(kM T.h vars 0 k f).2;have h2:=Rd.ss P.o;unfold maxLen at h2;unfold I64;omega
  have X:=Hd G;clear f G;go_wp2_with fail
  refine l.o.mono ?_;rintro e w5 ⟨h,he⟩;have he:e=tF (wF #[]):=he;subst he;have q:=ag h F.o (ES.1 F.o).1;have ad:=Hd (g.o.trans (h.mono g.o.size));have af:=Hd (kq q (I J 2) (I J 0) (I Y 0) (p9 ⟨#[]⟩) (I Y (k:Int)) (I J 0) (O V 0 0));have HP:Hid (dM d (bo vars d T) w (tF (s3 #[I J 2,I J 0,I Y 0,p9 ⟨#[]⟩,I Y (k:Int),I J 0,O V 0 0])) (st7 w5 (w.heap.size+1) 0 (I J 2) (I J 0) (I Y 0) (p9 ⟨#[]⟩) (I Y (k:Int)) (I J 0) (O V 0 0))):=by
   refine⟨mw ad.o (Fw _) _ _ _ _ _ _ _,?_⟩;rw[H.o];refine⟨O V 0 0,Z,⟨⟨by show (0:Int)≤2;decide,by show (2:Int)<256;decide⟩,⟨⟨by show (0:Int)≤0;decide,by show (0:Int)<256;decide⟩,⟨by show (-9223372036854775808:Int)≤0;decide,by show (0:Int)<9223372036854775808;decide⟩,Fi _⟩,X.o,⟨by show (0:Int)≤0;decide,by show (0:Int)<256;decide⟩⟩,?_⟩;exact lL
  obtain⟨c0,c1,c2,c3,c4,c5,c6⟩:=fA q;have f0:=ae q;clear q h l R K S U W;go_wp2_with fail
  exact jA _ _ (w.heap.size+1) _ _ _ _ _ _ _ af.o _ Z HP.o
 | none =>
  rw[f]at H;clear f;rw[show eh V=(-1:Int) from rfl];have l:=Hd (bS [(true,213)] 13 T.h T.q T.t (O p n c) W2.heap.size 1 1 (W2.alloc (p8 #[ur true,I Y 213] 162)) Z (by omega) (ot W2 _));have g:Hid (FS w (W2.alloc (p8 #[ur true,I Y 213] 162))):=(a.o.trans (b.o.mono a.o.size)).alloc (EZ a.o.size b.o.size) _;go_wp2_with fail
  refine l.o.mono ?_;rintro e w5 ⟨h,he⟩;have he:e=aQ 213 T.t:=he;subst he;refine⟨Z,g.o.trans (h.mono g.o.size),?_⟩;rw[H.o];rfl
