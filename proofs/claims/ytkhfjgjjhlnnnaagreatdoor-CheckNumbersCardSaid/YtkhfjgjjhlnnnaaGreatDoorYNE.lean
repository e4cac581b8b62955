/- Parts of one proof, joined; conditions stand in each theorem. -/
import Derived.Test.YtkhfjgjjhlnnnaaGreatDoorYND
import Derived.Maps.Own
import Derived.Maps.Views
open Go.IntKind renaming u8→O,i64→Z
open Go.Proofs.Tryz renaming prog→xD
open Go renaming World→wD,Calls→xL,TypeId→CD,Addr→Bs,Value→wF
open Option renaming some→Y,none→U
open Go.Value renaming string→J,int→I,tuple→CA,bool→AJ,slice→A,agg→xS,pointer→xV
open Go.Ending renaming returned→z8
open Go.Obj renaming cells→wq
open Except renaming ok→AF,error→BT
namespace Go.Proofs.YtkhfjgjjhlnnnaaGreatDoor
set_option maxHeartbeats 4000000
set_option maxRecDepth 100000
open Go.RowKit Go.Maps
def yV:List (List UInt8×Int):=[([111,114],10),([97,110,100],9),([60,61],8),([60],7),([33,61],6),([61],5),([42],3),([45],2),([43],1)]
def l9{H:Type}:List (List UInt8×Int)→DataW H
 | []=>.map []
 | p::r=>(l9 r).put (.string p.1) (.lit (.int O p.2))
def my:List (List UInt8×Int)→List UInt8→Int
 | [],_=>0
 | p::r,t=>if t=p.1 then p.2 else my r t
theorem uh{H:Type}:∀l:List (List UInt8×Int),IsMap (l9 (H:=H) l)
 | []=>⟨[],V⟩
 | p::r=>by
  obtain⟨es,h⟩:=uh (H:=H) r;exact⟨_,by rw[l9,h];rfl⟩
theorem wO{H:Type}(t:List UInt8):∀l:List (List UInt8×Int),(l9 (H:=H) l).atKey (.string t) (.lit (.int O 0))=.lit (.int O (my l t))
 | []=>rfl
 | p::r=>by
  by_cases h:t=p.1
  ·rw[l9,h,atKey_put_same (uh r) (by trivial),my,rv V]
  ·rw[l9,atKey_put_other (fun e=>h (by injection e)),my,qv h,wO t r]
theorem ua:Keyed xD 9:=string_keyed Tryz.underlying9
theorem ff{H:Type}{w:wD}{b n:Nat}{l:List (List UInt8×Int)}(h:w.ownsMap xD 9 (plainElem (H:=H) xD 59) b n (l9 l))(d:n<20)(k:ByteArray)(c:Int)(e:k.size<20)(a:(Lit.int O c).wf=true) :
  ∃w',(Instr.mapUpdate 353 (.map (Y b)) (J k) (I O c)).run xD w=.ok () w'∧w'.ownsMap xD 9 (plainElem (H:=H) xD 59) b (n+1) (l9 ((k.data.toList,c)::l))∧w.grownBy w' (Y b):=
 h.update ua Tryz.underlying353 (by unfold maxLen;omega) (WideMaps.keyOf_string_mk Tryz.underlying9 (by unfold maxLen;omega)) (plainElem_int Tryz.underlying59 a)
theorem Em(w:wD):(zeroValue 59).run xD w=.ok (I O 0) w:=by kernel_rfl
theorem CM(t:List UInt8)(h:t≠[62])(i:t≠[62,61]):opM t 2=(my yV t,false):=by
 have j:(t==[62])=false:=by simpa using h
 have k:(t==[62,61])=false:=by simpa using i
 unfold opM;simp only[j,k];simp only[yV,my]
 by_cases a:t=[43]
 ·subst a;rfl
 by_cases c2:t=[45]
 ·subst c2;rfl
 by_cases b:t=[42]
 ·subst b;rfl
 by_cases c4:t=[61]
 ·subst c4;rfl
 by_cases c:t=[33,61]
 ·subst c;rfl
 by_cases d:t=[60]
 ·subst d;rfl
 by_cases e:t=[60,61]
 ·subst e;rfl
 by_cases f:t=[97,110,100]
 ·subst f;rfl
 by_cases g:t=[111,114]
 ·subst g;rfl
 simp[a,c2,b,c4,c,d,e,f,g]
theorem Ec(t:ByteArray)(f:t.size≤maxLen)(w:wD):xL xD 142 #[J t] w fun e w'=>e=z8 (CA #[I O (opM t.data.toList 2).1,AJ (opM t.data.toList 2).2])∧FK w w':=by
 have i:=@run_makeMap xD;have k:(w.alloc (.map #[] 0)).ownsMap xD 9 (plainElem (H:=Unit) xD 59) w.heap.size 0 (l9 []):=World.ownsMap_made _ _ _ _;obtain⟨w1,E,l,g1⟩:=ff k (by omega) ⟨#[43]⟩ 1 (by decide) (by decide);obtain⟨F,r2,m,g2⟩:=ff l (by omega) ⟨#[45]⟩ 2 (by decide) (by decide);obtain⟨G,K,n,g3⟩:=ff m (by omega) ⟨#[42]⟩ 3 (by decide) (by decide);obtain⟨w4,r4,o,g4⟩:=ff n (by omega) ⟨#[61]⟩ 5 (by decide) (by decide);obtain⟨L,M,p,g5⟩:=ff o (by omega) ⟨#[33,61]⟩ 6 (by decide) (by decide);obtain⟨N,P,q,g6⟩:=ff p (by omega) ⟨#[60]⟩ 7 (by decide) (by decide);obtain⟨Q,R,r,g7⟩:=ff q (by omega) ⟨#[60,61]⟩ 8 (by decide) (by decide);obtain⟨S,T,s,g8⟩:=ff r (by omega) ⟨#[97,110,100]⟩ 9 (by decide) (by decide);obtain⟨w9,W,o9,g9⟩:=ff s (by omega) ⟨#[111,114]⟩ 10 (by decide) (by decide);obtain⟨c,X,d,u⟩:=o9.lookup_int ua Tryz.underlying353 Tryz.underlying59 (Em w9) (WideMaps.keyOf_string_mk Tryz.underlying9 f);have v:c=my yV t.data.toList:=by
  have e:=wO (H:=Unit) t.data.toList yV;have x:=d.symm.trans e;injection x with y
  injection y
 have z:FK w w9:=by
  have B:FK w (w.alloc (.map #[] 0)):=(EP _ _).alloc (EO _) _;have st:∀{a b:wD},FK w a→a.grownBy b (Y w.heap.size)→FK w b:=fun h g=>h.grown g h.size (fun j C=>by cases C;exact EO _)
  exact st (st (st (st (st (st (st (st (st B g1) g2) g3) g4) g5) g6) g7) g8) g9
 go_enter Tryz.func142,Tryz.ntmps142
 go_wp2
 ·have e:t.data.toList=[62]:=by rw[←Fb];rename_i h;simpa using h
  rw[e];exact⟨V,_,results_tmp2 V _ _ _,V,EP _ _⟩
 ·have e:t.data.toList=[62,61]:=by rw[←Fb];rename_i h;simpa using h
  rw[e];exact⟨V,_,results_tmp2 V _ _ _,V,EP _ _⟩
 ·have D:t.data.toList≠[62]:=by rw[←Fb];rename_i h _;simpa using h
  have n2:t.data.toList≠[62,61]:=by rw[←Fb];rename_i h;simpa using h
  rw[CM _ D n2,←v];exact⟨V,_,results_tmp2 V _ _ _,V,z⟩
theorem dU{E S:CD}{sz bytes:Nat}(m:Elem E S sz bytes){w:wD}{ops:Array Oper}{rest:List Oper}{o:Oper}{a:Act}{Q:Exit→Act→wD→Prop}(r:o.guard=U)(s x:Operand)
  (q:o.op=.call { callee:=.builtin .append,args:=#[s,x],argTypes:=#[S,S] }) {p:Option Bs} {n c g9:Nat} {xs z:List wF} (N:a.eval s=A p n c) (P:a.eval x=A (Y ⟨g9,0,U⟩) 1 1)
  (k:w.ownsRow 0 E sz (A p n c) n xs) (R:w.heap[g9]?=Y (wq z.toArray E (0,0))) (T:z.length=sz) (W:∀u∈z,u.oneCell'=true) (hn:n≤100000)
  (h:∀g cap w',((A p n c).ownBlock=Y g∨w.heap.size≤g)→Chg (fun b=>(A p n c).ownBlock=Y b) w w'→w'.ownsRow 0 E sz (A (Y ⟨g,0,U⟩) (n+1) cap) (n+1) (xs++z)→
   wpList xD ops Q rest (a.put o.dst (A (Y ⟨g,0,U⟩) (n+1) cap)) w'):wpList xD ops Q (o::rest) a w:=by
 obtain⟨i0,X,t,v,y,B,C⟩:=m.info;have D:=m.small;have F:=m.pos;have f:∀j u,z[j]?=Y u→w.cell? ((⟨g9,0,U⟩:Bs).add j)=Y u:=fun j u hj=>by
  have e:(⟨g9,0,U⟩:Bs).add j=⟨g9,j,U⟩:=by
   unfold Addr.add
   by_cases M:j=0
   ·subst M;rfl
   ·rw[qv M];simp
  rw[e,FI _ _ _ _ _ _ R]
  simpa using hj
 have G:(n+1)*bytes≤140737488355328:=by
  have:=Nat.mul_le_mul (show n+1≤100001 by omega) D.2;omega
 refine mZ w r s x S q 0 E i0 X sz bytes m.und t v y B C F (A p n c) n xs N k ⟨g9,0,U⟩ 1 1 z P (by omega) f W (by unfold maxLen;omega) G (Fa _) (by decide) ?_;intro v' w' d i;rcases i with ⟨g,cap,H,K,l⟩|⟨cap,H,K⟩
 ·subst K;have q:(A p n c).ownBlock=Y g:=by rw[H];rfl
  refine h g cap w' (Or.inl q) ?_ d;exact⟨l.os,l.tape,l.output,l.size,fun b hb L=>l.block b hb (fun e=>L (q.trans e.symm))⟩
 ·subst H;exact h _ cap w' (Or.inr (EO _)) (Chg.f K) d
theorem uc:Elem 62 60 7 80:=Elem.of (z:=xS #[I O 0,I O 0,I Z 0,J ByteArray.empty,I Z 0,I O 0,A U 0 0]) Tryz.underlying60 (by kernel_rfl) (by kernel_rfl) (by decide) (by decide)
theorem ao.f{w:wD}{B:Nat}:∀{d:Nat} {a:List ab} {e:wF},ao w B d a e→∃p c,e=A p a.length c
 | 0,_,_,h=>by
  obtain⟨rfl,p,c,rfl⟩:=h;exact⟨p,c,V⟩
 | _+1,_,_,h=>by
  rcases h with ⟨rfl,p,c,rfl⟩|⟨b,off,cap,_,_,_,_,rfl,_⟩
  ·exact⟨p,c,V⟩
  ·exact⟨_,_,V⟩
def dh:Nat→ab→Prop
 | 0,T=>T.f.size≤72007
 | d+1,T=>T.f.size≤72007∧T.u.length≤20000∧∀k∈T.u,dh d k
theorem dh.f:∀{d:Nat} {T:ab},dh d T→T.f.size≤72007
 | 0,_,h=>h
 | _+1,_,h=>h.1
structure nB (M:Nat) (vars:List ByteArray) (vV:wF) (w:wD):Prop where
 m:w.cell? ⟨M,2,U⟩=Y vV
 lt:M<w.heap.size
 v:Rd.str.K w (fun b=>b<w.heap.size) vars vV
theorem nB.z{M:Nat}{vars:List ByteArray}{vV:wF}{w w':wD}(h:nB M vars vV w)(b:FK w w'):nB M vars vV w':=
 ⟨(b.cell (p:=⟨M,2,U⟩) h.lt).trans h.m,ET h.lt b.size,Rd.y (fun _ a=>ET a b.size) (Rd.X h.v (fun _ a=>a) b)⟩
def ai(w w':wD) (b:Nat):Prop:=w.heap.size≤b∧b<w'.heap.size
def dR(d:Nat) (r:Except Flt aw) (w:wD) (e:Ending) (w':wD):Prop:=FK w w'∧match r with
 | .ok E=>∃s,e=z8 (xS #[I O E.b,I O E.f.b,I Z E.f.h,J E.f.f,I Z E.h,I O E.op,s])∧ga E∧cZ w' (ai w w') d E.u s
 | .error er=>e=aU er.1 er.2
def jI(d:Nat) (r:Except Flt (List aw)) (w:wD) (e:Ending) (w':wD):Prop:=FK w w'∧match r with
 | .ok es=>∃v,e=z8 v∧aH w' (fun b=>ai w w' b∧v.ownBlock≠Y b) 62 (aL d) es v∧∀g,v.ownBlock=Y g→w.heap.size≤g
 | .error er=>e=aU er.1 er.2
theorem qU{α β:Type}{f:α→Except Flt β}{l:List α}{k:Nat}{ys:List β}{x:α}(a:l[k]?=Y x)(h:bz f (l.take k)=AF ys):bz f (l.take (k+1))=match f x with | .error e=>BT e | .ok y=>AF (ys++[y]):=gA a h
theorem qn{α β:Type}{f:α→Except Flt β}{l:List α}{k:Nat}{e:Flt}(h:bz f (l.take k)=BT e):bz f l=BT e:=by
 unfold bz at *
 conv=>lhs;rw[←List.take_append_drop k l]
 rw[jD,h]
theorem Chg.C{F:Nat→Prop}{B:Nat}{w w1 c:wD}(h:Below B w w1)(a:Chg F w1 c)(hF:∀b,F b→B≤b)(hB:B≤w1.heap.size):Below B w c:=
 h.trans ⟨a.os,a.a,a.c,a.h,fun b e=>a.u b (by omega) (fun d=>by have:=hF b d;omega)⟩
theorem yU{d:Nat}{w wr v W2 f m:wD}{es:List aw}{E:aw}{p:Option Bs}{k c g cap:Nat}{s:wF}{us:List wF}(L:es.length=k)
  (x:FK w wr) (M:wr.heap.size≤v.heap.size) (j:FK wr f) (i:FK W2 f)
  (N:(aL d).u wr (fun b=>ai w wr b∧(A p k c).ownBlock≠Y b) es us) (n:wr.ownsRow 0 62 7 (A p k c) k us) (q:∀g,(A p k c).ownBlock=Y g→w.heap.size≤g)
  (r:ga E) (y:cZ W2 (ai v W2) d E.u s)
  (H:(A p k c).ownBlock=Y g∨f.heap.size≤g) (z:Chg (fun b=>(A p k c).ownBlock=Y b) f m) (t:m.ownsRow 0 62 7 (A (Y ⟨g,0,U⟩) (k+1) cap) (k+1) (us++bp E s)) :
  FK w m∧aH m (fun b=>ai w m b∧(A (Y ⟨g,0,U⟩) (k+1) cap).ownBlock≠Y b) 62 (aL d) (es++[E]) (A (Y ⟨g,0,U⟩) (k+1) cap)∧∀a,(A (Y ⟨g,0,U⟩) (k+1) cap).ownBlock=Y a→w.heap.size≤a:=by
 have P:=i.size;have Q:=z.h;have l:FK w f:=x.trans (j.mono x.size);have R:(aL d).at_ W2 (ai v W2) E (bp E s):=ey.2 ⟨r,s,V,y⟩;have B:∀a,(A p k c).ownBlock=Y a→a<wr.heap.size:=fun a h=>(eM n a h).2
 let F:Nat→Prop:=fun b=>(ai w wr b∧(A p k c).ownBlock≠Y b)∨ai v W2 b
 have hF:∀b,F b→w.heap.size≤b∧b<f.heap.size∧(A p k c).ownBlock≠Y b:=by
  rintro b (⟨⟨K,S⟩,T⟩|⟨K,S⟩)
  ·exact⟨K,by have:=j.size;omega,T⟩
  ·exact⟨by have:=x.size;omega,by omega,fun e=>by have:=B b e;omega⟩
 have C:(aL d).u f F es us:=Rd.wj (fun b h=>Or.inl h) (Rd.vk (fun b h o u=>(j.block b h.1.2).trans u) N);have D:(aL d).at_ f F E (bp E s):=(aL d).N (fun b h=>Or.inr h) ((aL d).C (fun b h o u=>(i.block b h.2).trans u) R);have G:(aL d).u m F (es++[E]) (us++bp E s):=Rd.vk (fun b h o u=>(z.u b (hF b h).2.1 (hF b h).2.2).trans u) (Rd.wg C D);refine⟨Chg.C l z (fun b h=>q b h) l.size,⟨us++bp E s,?_,Rd.wj (fun b h=>⟨⟨(hF b h).1,by have:=(hF b h).2.1;omega⟩,fun e=>?_⟩) G⟩,fun a e=>?_⟩
 ·rw[eU,Fc,L];exact t
 ·injection e with e
  have e:g=b:=e;subst e;rcases H with h|h
  ·exact (hF g (by assumption)).2.2 h
  ·have:=(hF g (by assumption)).2.1;omega
 ·injection e with e
  have e:g=a:=e;subst e;rcases H with h|h
  ·exact q g h
  ·have:=l.size;omega
def uR(w:wD) (d:Nat) (f:ab→Except Flt aw) (Ts:List ab) (n:Nat) (v i:wF) (W:wD):Prop:=
 ∃k es,k≤n∧i=I Z (k:Int)∧bz f (Ts.take k)=AF es∧es.length=k∧FK w W∧aH W (fun b=>ai w W b∧v.ownBlock≠Y b) 62 (aL d) es v∧∀g,v.ownBlock=Y g→w.heap.size≤g
theorem nO(d M:Nat)(vars:List ByteArray)(vV:wF)(f:ab→Except Flt aw)(Ts:List ab)(sl:wF)(w:wD)(hv:nB M vars vV w)(l:ao w w.heap.size (d+1) Ts sl)(ak:Ts.length≤20000)
  (y:∀T∈Ts,∀(s:wF) (W:wD),nB M vars vV W→Fits T→ao W W.heap.size d T.u s→xL xD 76 #[xV (Y ⟨M,0,U⟩),xS #[I O T.b,J T.f,I Z T.h,I Z T.y,s]] W (dR d (f T) W)) :
  xL xD 77 #[xV (Y ⟨M,0,U⟩),sl] w (jI d (bz f Ts) w):=by
 obtain⟨n,H⟩:=zzy (Ts.length);obtain⟨p,c,al⟩:∃p c,sl=A p n c:=by
  rcases l with ⟨rfl,sp,cap,rfl⟩|⟨b,off,cap,h1,h2,h3,h4,rfl,h6⟩
  ·exact⟨sp,cap,by rw[←H];rfl⟩
  ·exact⟨_,_,by rw[H]⟩
 subst al;obtain⟨HK,HV,HO⟩:=zz3 l hv y;rw[H]at ak;have HN:=Hd H;clear l hv y H
 go_enter Tryz.func77,Tryz.ntmps77
 go_wp2
 go_loopw [5,10] (uR w d f Ts n) (fun _ i _=>n-(intOf i).toNat)
 case atStart=>exact⟨0,[],Fa _,V,V,V,EP _ _,aH.nil,fun g h=>by cases h⟩
 case round =>
  obtain⟨k,es,hk,rfl,hl,D,hb,m,K⟩:=hrel;obtain⟨p5,c5,L⟩:=m.b;rw[D]at L;subst L;have bd:(0:Int)≤k:=by omega
  obtain⟨B,HL,HE,HG,HR⟩:=zz5 hb hl D K m;clear hb hl D K m
  by_cases aq:k<n
  ·have bk:(k:Int)<n:=by omega
   obtain⟨T,N⟩:∃T,Ts[k]?=Y T:=⟨_,ES (by rw[HN.o];exact aq)⟩;have l:=HK.o.z B.o;rcases l with ⟨rfl,_⟩|⟨b,off,cap,h1,h2,h3,h4,he,h6⟩
   ·simp at N
   rw[HN.o]at he;injection he with e1 _ e3
   subst e1;subst e3;obtain⟨q,s,c0,c1,c2,c3,c4,F⟩:=h6 k T N;obtain⟨ps,cs,rfl⟩:=F.f;obtain⟨HF,P⟩:=zz2 q (qU N HL.o);have r:FK wr (wr.alloc (wq #[I O T.b,J T.f,I Z T.h,I Z T.y,A ps T.u.length cs] 25)):=(EP _ wr).alloc (EO _) _;obtain⟨HA,HC⟩:=zz2 r (HO.o T (Fj N) (A ps T.u.length cs) (wr.alloc (wq #[I O T.b,J T.f,I Z T.h,I Z T.y,A ps T.u.length cs] 25)) ((HV.o.z B.o).z r) q ((F.z (r.mono B.o.size)).up (EU B.o.size r.size)));have ar:=p9 wr (wq #[I O T.b,J T.f,I Z T.h,I Z T.y,A ps T.u.length cs] 25);clear q F h6 h1 h2 h3 h4 r N;go_wp2_with fail
   refine HC.o.mono ?_;rintro e W2 ⟨Q,he⟩;have t:=Hd (HA.o.trans (Q.mono HA.o.size));clear Q c0 c1 c2 c3 c4 ar
   cases R:f T with
   | error er =>
    rw[R]at he;have he:e=aU er.1 er.2:=he;subst he;have HX:Hid (bz f Ts=BT er):=qn (k:=k+1) (by rw[P.o,R]);refine⟨V,B.o.trans (t.o.mono B.o.size),?_⟩;rw[HX.o];rfl
   | ok E =>
    rw[R]at he;obtain⟨s2,rfl,u,G⟩:=he;have av:Hid (bz f (Ts.take (k+1))=AF (es++[E])):=by show _=_;rw[P.o,R]
    obtain⟨a1,a6⟩:=zz2 u G;obtain⟨us,a,j⟩:=HR.o;rw[HE.o,eU]at a;have ba:=Hd j;have v:FK W2 (W2.alloc (wq #[I O E.b,I O E.f.b,I Z E.f.h,J E.f.f,I Z E.h,I O E.op,s2] 62)):=(EP _ W2).alloc (EO _) _;obtain⟨C,bb,bc⟩:=zz3 v a (cY a (t.o.trans (v.mono t.o.size)));obtain⟨pe,ce,S⟩:=bg G;clear u G R a j v;subst S;go_wp2_with (at_builtin;go_must (refine dU uc V (.tmp 14) (.tmp 18) V (p:=p5) (n:=k) (c:=c5) (z:=bp E (A pe E.u.length ce)) V V bc.o (p9 W2 _) V (by simp[Value.oneCell',bp]) (by omega) ?_);intro g cap W4 hg hC x)
    obtain⟨X,ad,af⟩:=yU HE.o B.o HA.o.size (t.o.trans (C.o.mono t.o.size)) C.o ba.o bb.o HG.o a1.o a6.o hg hC x;have HP:Hid (uR w d f Ts n (A (Y ⟨g,0,U⟩) (k+1) cap) (I Z ((k+1:Nat):Int)) W4):=⟨k+1,es++[E],by omega,V,av.o,by rw[Fc,HE.o];rfl,X,ad,af⟩;clear hg hC x X ad af;go_wp2_with fail
    refine⟨HP.o,?_⟩;simp[intOf];omega
  ·have HX:Hid (bz f Ts=AF es):=by
    show _=_
    rw[←HL.o,Fg (by rw[HN.o];omega)]
   go_wp2_with fail
   go_ret;refine⟨B.o,?_⟩;rw[HX.o];exact⟨_,V,HR.o,HG.o⟩
def st7(W:wD) (g o:Nat) (a b c d e f h:wF):World:=((((((W.setCell ⟨g,o+0,U⟩ a).setCell ⟨g,o+1,U⟩ b).setCell ⟨g,o+2,U⟩ c).setCell ⟨g,o+3,U⟩ d).setCell ⟨g,o+4,U⟩ e).setCell ⟨g,o+5,U⟩ f).setCell ⟨g,o+6,U⟩ h
theorem AX(a b:aw)(h j:Option Bs)(k n2 l c2 g cap:Nat)(cur:Array wF)(w:wD)(n:w.heap[g]?=Y (wq cur 62 (0,0)))
  (c:∀i u,(bp a (A h k l))[i]?=Y u→w.cell? ⟨g,i,U⟩=Y u) (d:∀i u,(bp b (A j n2 c2))[i]?=Y u→w.cell? ⟨g,7+i,U⟩=Y u) :
  xL xD 143 #[A (Y ⟨g,0,U⟩) 2 cap] w fun e w'=>e=z8 (CA #[])∧w'=(st7 (st7 w g 0 (I O b.b) (I O b.f.b) (I Z b.f.h) (J b.f.f) (I Z b.h) (I O b.op) (A j n2 c2)) g 7 (I O a.b) (I O a.f.b) (I Z a.f.h) (J a.f.f) (I Z a.h) (I O a.op) (A h k l)).drew:=by
 have a0:=c 0 _ V;have a1:=c 1 _ V;have a2:=c 2 _ V;have a3:=c 3 _ V;have a4:=c 4 _ V;have a5:=c 5 _ V;have q:=c 6 _ V;have r:w.cell? ⟨g,7,U⟩=_:=d 0 _ V;have s:w.cell? ⟨g,8,U⟩=_:=d 1 _ V;have t:w.cell? ⟨g,9,U⟩=_:=d 2 _ V;have v:w.cell? ⟨g,10,U⟩=_:=d 3 _ V;have x:w.cell? ⟨g,11,U⟩=_:=d 4 _ V;have y:w.cell? ⟨g,12,U⟩=_:=d 5 _ V;have z:w.cell? ⟨g,13,U⟩=_:=d 6 _ V;have f0:=bK n;clear c d n
 go_enter Tryz.func143,Tryz.ntmps143
 go_wp2_with fail
 refine wp_loop_rounds 2 ?_;rw[rounds_succ];go_wp2_with fail
 go_region
 go_wp2_with fail
 clear a0 a1 a2 a3 a4 a5 q r s t v x y z f0;obtain⟨p,f⟩:=zzx ((st7 (st7 w g 0 (I O b.b) (I O b.f.b) (I Z b.f.h) (J b.f.f) (I Z b.h) (I O b.op) (A j n2 c2)) g 7 (I O a.b) (I O a.f.b) (I Z a.f.h) (J a.f.f) (I Z a.h) (I O a.op) (A h k l)).drew);change Code.rounds _ _ _ _ _ (st7 (st7 w g 0 (I O b.b) (I O b.f.b) (I Z b.f.h) (J b.f.f) (I Z b.h) (I O b.op) (A j n2 c2)) g 7 (I O a.b) (I O a.f.b) (I Z a.f.h) (J a.f.f) (I Z a.h) (I O a.op) (A h k l)).drew;rw[←f];have m:=Hd f;clear f;rw[rounds_succ];go_wp2_with fail
 go_end0
 exact⟨V,m.o⟩
theorem il{w:wD}{g:Nat}{l:List wF}{t:CD}(h:w.heap[g]?=Y (wq l.toArray t (0,0)))(i:Nat)(u:wF):(w.setCell ⟨g,i,U⟩ u).heap[g]?=Y (wq (l.set i u).toArray t (0,0)):=by rw[heap_set h i u,EQ]
theorem pH{W:wD}{g o:Nat}{l:List wF}{t:CD}(i:W.heap[g]?=Y (wq l.toArray t (0,0)))(a b c d e f h:wF) :
  (st7 W g o a b c d e f h).heap[g]?=Y (wq (((((((l.set (o+0) a).set (o+1) b).set (o+2) c).set (o+3) d).set (o+4) e).set (o+5) f).set (o+6) h).toArray t (0,0)):=by
 unfold st7;exact il (il (il (il (il (il (il i _ _) _ _) _ _) _ _) _ _) _ _) _ _
theorem En{W:wD}{g:Nat}{h i rest:List wF}{t:CD}(p:W.heap[g]?=Y (wq (h++i++rest).toArray t (0,0)))(q:h.length=7)(r:i.length=7)(a b c d e f u j b' k d' l m n:wF) :
  (st7 (st7 W g 0 a b c d e f u) g 7 j b' k d' l m n).drew.heap[g]?=Y (wq ([a,b,c,d,e,f,u]++[j,b',k,d',l,m,n]++rest).toArray t (0,0)):=by
 have s:=pH (o:=7) (pH (o:=0) p a b c d e f u) j b' k d' l m n;have v:∀X:wD,X.drew.heap=X.heap:=fun _=>rfl
 rw[v,s]
 match h,q,i,r with
 | [_,_,_,_,_,_,_],_,[_,_,_,_,_,_,_],_=>simp[List.set_cons_succ,List.set_cons_zero]
theorem rq{W:wD}{g o:Nat}(a b c d e f h:wF):Chg (fun x=>x=g) W (st7 W g o a b c d e f h):=by
 have step:∀{j:wD},Chg (fun x=>x=g) W j→∀(i:Nat) (u:wF),Chg (fun x=>x=g) W (j.setCell ⟨g,i,U⟩ u):=fun k i u=>k.y (p:=⟨g,i,U⟩) (Or.inl V) u
 unfold st7;exact step (step (step (step (step (step (step (Chg.refl _ W) _ a) _ b) _ c) _ d) _ e) _ f) _ h
theorem BM{W:wD}{a B rest:List wF}{g cap:Nat}(b:a.length=7)(hB:B.length=7)(h:W.heap[g]?=Y (wq (a++B++rest).toArray 62 (0,0)))(c:2≤cap)(d:cap≤maxLen)(e:(a++B++rest).length=cap*7) :
  W.ownsRow 0 62 7 (A (Y ⟨g,0,U⟩) 2 cap) 2 (a++B):=
 ⟨by rw[Fc,b,hB],Or.inr ⟨g,cap,_,V,Fa _,h,c,d,by rw[List.size_toArray];exact e,List.take_left' (by rw[Fc,b,hB])⟩⟩
theorem Da(a b:aw)(c j:Option Bs)(d n2 f c2 g cap:Nat)(w:wD)(k:w.ownsRow 0 62 7 (A (Y ⟨g,0,U⟩) 2 cap) 2 (bp a (A c d f)++bp b (A j n2 c2))) :
  xL xD 143 #[A (Y ⟨g,0,U⟩) 2 cap] w fun e w'=>e=z8 (CA #[])∧Chg (fun x=>x=g) w w'∧w'.ownsRow 0 62 7 (A (Y ⟨g,0,U⟩) 2 cap) 2 (bp b (A j n2 c2)++bp a (A c d f)):=by
 obtain⟨_,⟨h,_⟩|⟨C,q,cur,h,_,m,s,t,v,y⟩⟩:=k
 ·cases h
 injection h with l _ z
 injection l with l
 injection l with l
 subst l;subst z;obtain⟨rest,B⟩:∃rest,cur=(bp a (A c d f)++bp b (A j n2 c2)++rest).toArray:=⟨cur.toList.drop (2*7),by rw[←y,List.take_append_drop]⟩;subst B;refine (AX a b c j d n2 f c2 g cap _ w m (fun i u hu=>?_) (fun i u hu=>?_)).mono ?_
 ·rw[FI _ _ _ _ _ _ m];have r:i<7:=(Fe.1 hu).1;rw[List.getElem?_toArray,List.append_assoc,FB (by exact r)];exact hu
 ·rw[FI _ _ _ _ _ _ m];have r:i<7:=(Fe.1 hu).1;rw[List.getElem?_toArray,List.append_assoc,Ft (by show 7≤7+i;omega),FB (by show 7+i-7<7;omega)];have e:7+i-(bp a (A c d f)).length=i:=by show 7+i-7=i;omega
  rw[e];exact hu
 ·rintro e w' ⟨rfl,rfl⟩;have n:(st7 (st7 w g 0 (I O b.b) (I O b.f.b) (I Z b.f.h) (J b.f.f) (I Z b.h) (I O b.op) (A j n2 c2)) g 7 (I O a.b) (I O a.f.b) (I Z a.f.h) (J a.f.f) (I Z a.h) (I O a.op) (A c d f)).drew.heap[g]?=Y (wq (bp b (A j n2 c2)++bp a (A c d f)++rest).toArray 62 (0,0)):=
   En m V V (I O b.b) (I O b.f.b) (I Z b.f.h) (J b.f.f) (I Z b.h) (I O b.op) (A j n2 c2) (I O a.b) (I O a.f.b) (I Z a.f.h) (J a.f.f) (I Z a.h) (I O a.op) (A c d f)
  have p:=((rq (W:=w) (g:=g) (o:=0) (I O b.b) (I O b.f.b) (I Z b.f.h) (J b.f.f) (I Z b.h) (I O b.op) (A j n2 c2)).b (rq (g:=g) (o:=7) (I O a.b) (I O a.f.b) (I Z a.f.h) (J a.f.f) (I Z a.h) (I O a.op) (A c d f))).b (Chg.f ((EP _ _).drew));exact⟨V,p,BM V V n s t (by rw[←v];rfl)⟩
theorem dF{w:wD}{T:Nat}{a b c d e f h:wF}{t:CD}(g:w.heap[T]?=Y (wq #[a,b,c,d,e,f,h] t (0,0))) :
  w.cell? ⟨T,0,U⟩=Y a∧w.cell? ⟨T,1,U⟩=Y b∧w.cell? ⟨T,2,U⟩=Y c∧w.cell? ⟨T,3,U⟩=Y d∧w.cell? ⟨T,4,U⟩=Y e∧w.cell? ⟨T,5,U⟩=Y f∧w.cell? ⟨T,6,U⟩=Y h:=by
 simp[World.cell?,g]
theorem gW{W:wD}{g:Nat}{i j x2 x3 x4 x5 x6:wF}{t:CD}(k:W.heap[g]?=Y (wq #[i,j,x2,x3,x4,x5,x6] t (0,0)))(a b c d e f h:wF):(st7 W g 0 a b c d e f h).heap[g]?=Y (wq #[a,b,c,d,e,f,h] t (0,0)):=by
 have m:=pH (o:=0) (l:=[i,j,x2,x3,x4,x5,x6]) k a b c d e f h;rw[m];simp
theorem jK(W:wD)(i:Ending→wD→Prop)(T:Nat)(a b c d e f h:wF)(j:W.heap[T]?=Y (wq #[a,b,c,d,e,f,h] 62 (0,0)))
  (tmps:Array wF) (k:tmps.getD 4 undef=xV (Y ⟨T,0,U⟩)) (l:i (z8 (xS #[a,b,c,d,e,f,h])) W):bodyPost xD Tryz.f76 i .ret ⟨tmps,[]⟩ W:=by
 obtain⟨m,n,c2,o,c4,p,q⟩:=dF j;have g:tmps[4]?.getD undef=xV (Y ⟨T,0,U⟩):=by simpa using k
 refine bodyPost_ret (v:=xS #[a,b,c,d,e,f,h]) ?_ V l;simp[results,Tryz.results76,go_sem,g,m,n,c2,o,c4,p,q]
theorem D7(t:ByteArray):I64 (ja t):=by
 have h:=nL (strip t.data.toList);unfold kR at h;unfold ja I64;dsimp only
 split<;>omega
theorem kE(T:ab)(c:T.f.size≤72007):kM (aF T):=by
 have a:U8 2:=⟨by decide,by decide⟩;have b:U8 1:=⟨by decide,by decide⟩;have i0:I64 0:=⟨by decide,by decide⟩;unfold aF
 split
 ·exact⟨a,i0,by show T.f.size≤maxLen;unfold maxLen;omega⟩
 ·exact⟨b,D7 _,Fa _⟩
theorem AL(t:List UInt8)(k:Nat):U8 (opM t k).1:=by
 have h:∀(b:Bool) (x y:Int×Bool),U8 x.1→U8 y.1→U8 (if b then x else y).1:=fun b x y c d=>by cases b;exact d;exact c
 have a:∀(n:Nat) (b:Bool),n<20→U8 ((n:Int),b).1:=fun n b e=>⟨by show (0:Int)≤n;omega,by show (n:Int)<256;omega⟩
 unfold opM;refine h _ _ _ (h _ _ _ (a 7 _ (by decide)) (h _ _ _ (a 8 _ (by decide)) (h _ _ _ (a 1 _ (by decide)) (h _ _ _ (a 2 _ (by decide)) (h _ _ _ (a 3 _ (by decide)) (h _ _ _ (a 5 _ (by decide)) (h _ _ _ (a 6 _ (by decide)) (h _ _ _ (a 7 _ (by decide)) (h _ _ _ (a 8 _ (by decide)) (h _ _ _ (a 9 _ (by decide)) (h _ _ _ (a 10 _ (by decide)) (a 0 _ (by decide))))))))))))) (h _ _ _ (a 4 _ (by decide)) (a 11 _ (by decide)))
theorem mU{B:Nat}{w W:wD}{g:Nat}(j:Below B w W)(i:B≤g)(a b c d e f h:wF):Below B w (st7 W g 0 a b c d e f h):=by
 unfold st7;exact ((((((j.setCell i a).setCell i b).setCell i c).setCell i d).setCell i e).setCell i f).setCell i h
theorem ql(d M:Nat)(vars:List ByteArray)(T:ab)(p:Option Bs)(n c:Nat)(w:wD)(i:T.b=14∨T.b=15)(r:T.f.size≤72007) :
  xL xD 76 #[xV (Y ⟨M,0,U⟩),xS #[I O T.b,J T.f,I Z T.h,I Z T.y,A p n c]] w (dR d (aB vars d T) w):=by
 have t:Hid (aB vars d T=AF (.mk 1 (aF T) 0 0 [])):=by
  show _=_
  cases d<;>(unfold aB;rcases i with h|h<;>rw[h]<;>rfl)
 obtain⟨l,j,_⟩:=ap w (wq #[I O T.b,J T.f,I Z T.h,I Z T.y,A p n c] 25) (wq #[I O 0,I O 0,I Z 0,J ⟨#[]⟩,I Z 0,I O 0,A U 0 0] 62);have k:FK w ((w.alloc (wq #[I O T.b,J T.f,I Z T.h,I Z T.y,A p n c] 25)).alloc (wq #[I O 0,I O 0,I Z 0,J ⟨#[]⟩,I Z 0,I O 0,A U 0 0] 62)):=((EP _ w).alloc (EO _) _).alloc (by simp) _;have s:Hid (xL xD 141 #[xS #[I O T.b,J T.f,I Z T.h,I Z T.y,A p n c]] ((w.alloc (wq #[I O T.b,J T.f,I Z T.h,I Z T.y,A p n c] 25)).alloc (wq #[I O 0,I O 0,I Z 0,J ⟨#[]⟩,I Z 0,I O 0,A U 0 0] 62)) fun e w'=>e=z8 (xS #[I O (aF T).b,I Z (aF T).h,J (aF T).f])∧Below ((w.alloc (wq #[I O T.b,J T.f,I Z T.h,I Z T.y,A p n c] 25)).alloc (wq #[I O 0,I O 0,I Z 0,J ⟨#[]⟩,I Z 0,I O 0,A U 0 0] 62)).heap.size ((w.alloc (wq #[I O T.b,J T.f,I Z T.h,I Z T.y,A p n c] 25)).alloc (wq #[I O 0,I O 0,I Z 0,J ⟨#[]⟩,I Z 0,I O 0,A U 0 0] 62)) w'):=rQ T (A p n c) _ i r;obtain⟨b,f,u⟩:=zz3 j k (kE T r);clear l j k;rcases i with i|i
 all_goals
  rw[i]at s b f ⊢
  go_enter Tryz.func76,Tryz.ntmps76
  go_wp2_with fail
  refine s.o.mono ?_;rintro e v ⟨rfl,g⟩;have a:=aa g b.o (EN.1 b.o).1;obtain⟨m,q⟩:=zz2 (f.o.trans (g.mono f.o.size)) (gW a (I O 1) (I O (aF T).b) (I Z (aF T).h) (J (aF T).f) (I Z 0) (I O 0) (A U 0 0));have x:Hid (dR d (aB vars d T) w (z8 (xS #[I O 1,I O (aF T).b,I Z (aF T).h,J (aF T).f,I Z 0,I O 0,A U 0 0])) (st7 v (w.heap.size+1) 0 (I O 1) (I O (aF T).b) (I Z (aF T).h) (J (aF T).f) (I Z 0) (I O 0) (A U 0 0))):=by
   refine⟨mU m.o (Fl _) _ _ _ _ _ _ _,?_⟩;rw[t.o];refine⟨A U 0 0,V,⟨⟨by show (0:Int)≤1;decide,by show (1:Int)<256;decide⟩,u.o,⟨by show (-9223372036854775808:Int)≤0;decide,by show (0:Int)<9223372036854775808;decide⟩,⟨by show (0:Int)≤0;decide,by show (0:Int)<256;decide⟩⟩,?_⟩
   cases d with
   | zero=>exact⟨V,U,0,V⟩
   | succ d=>exact Or.inl ⟨V,U,0,V⟩
  obtain⟨y,z,c2,B,c4,C,D⟩:=dF a;have f0:=ac a;clear a g;go_wp2_with fail
  exact jK _ _ (w.heap.size+1) _ _ _ _ _ _ _ q.o _ V x.o
theorem uT(d M:Nat)(vars:List ByteArray)(vV:wF)(T:ab)(p:Option Bs)(n c:Nat)(w:wD)(u:nB M vars vV w)(hk:T.b=13) :
  xL xD 76 #[xV (Y ⟨M,0,U⟩),xS #[I O T.b,J T.f,I Z T.h,I Z T.y,A p n c]] w (dR d (aB vars d T) w):=by
 have K:Hid (aB vars d T=match idxOf T.f vars with|some k=>AF (.mk 2 .zero k 0 [])|none=>BT (213,T.y)):=by
  show _=_
  cases d<;>(unfold aB;rw[hk];rfl)
 rw[hk];have N:=Rd.tT u.v;obtain⟨pV,cV,P⟩:=Rd.b u.v;subst P;obtain⟨w1,i⟩:=zzx ((w.alloc (wq #[I O 13,J T.f,I Z T.h,I Z T.y,A p n c] 25)).alloc (wq #[I O 0,I O 0,I Z 0,J ⟨#[]⟩,I Z 0,I O 0,A U 0 0] 62));obtain⟨j,r,_⟩:=ap w (wq #[I O 13,J T.f,I Z T.h,I Z T.y,A p n c] 25) (wq #[I O 0,I O 0,I Z 0,J ⟨#[]⟩,I Z 0,I O 0,A U 0 0] 62);have s:FK w w1:=by rw[i];exact ((EP _ w).alloc (EO _) _).alloc (by simp) _
 rw[←i]at j r;obtain⟨y,z,a⟩:=zz3 j r s;have t:=u.z s;obtain⟨Q,R⟩:=zz2 u.v (fun (x:Wb w1)=>sQ vars T.f (A pV vars.length cV) _ x.1 (t.z x.2).v);obtain⟨nv,B⟩:=zzy (vars.length);have hm:=t.m;rw[B]at R hm N;obtain⟨S,L,W,X,e4⟩:=cells5 j;clear j r s u t B
 go_enter Tryz.func76,Tryz.ntmps76
 go_upto_region 6 with fail
 change Code.wp _ _ _ _ ((w.alloc (wq #[I O 13,J T.f,I Z T.h,I Z T.y,A p n c] 25)).alloc (wq #[I O 0,I O 0,I Z 0,J ⟨#[]⟩,I Z 0,I O 0,A U 0 0] 62));rw[show (w.alloc (wq #[I O 13,J T.f,I Z T.h,I Z T.y,A p n c] 25)).alloc (wq #[I O 0,I O 0,I Z 0,J ⟨#[]⟩,I Z 0,I O 0,A U 0 0] 62)=w1 from i.symm];clear i;have X1:=fun x:Wb w1=>x.b L
 have M2:=fun x:Wb w1=>x.b hm
 refine au (by kernel_rfl) (by kernel_rfl) ?_
 repeat (go_big_quiet_step ((go_at_call 140;exact Calls.b (R.o _))))
 refine wpQuiet_nil ?_;intro W2 C;have D:=a7 C;have b:=Hd D;clear C D X1 M2 R S L W X e4 hm;have E:=aa b.o y.o (EN.1 y.o).1;have F:=Hd (aa b.o z.o (EN.1 z.o).1);obtain⟨S,L,W,X,e4⟩:=cells5 E;clear E
 cases f:idxOf T.f vars with
 | some k =>
  rw[f]at K;rw[show bP (Y k)=(k:Int) from rfl];have al:¬(k:Int)<0:=by omega
  have l:=Hd (bY [(false,213)] 13 T.f T.h T.y (A p n c) W2.heap.size 1 1 (W2.alloc (wq #[AJ false,I Z 213] 104)) V (by omega) (p9 W2 _));have g:Hid (FK w (W2.alloc (wq #[AJ false,I Z 213] 104))):=(a.o.trans (b.o.mono a.o.size)).alloc (EU a.o.size b.o.size) _;have G:Hid ((W2.alloc (wq #[AJ false,I Z 213] 104)).heap[w.heap.size+1]?=_):=aa ((EP W2.heap.size W2).alloc (EO _) _) F.o (EN.1 F.o).1;have H:I64 (k:Int):=by
   have aq:=(jg T.f vars 0 k f).2;have h2:=Rd.tT Q.o;unfold maxLen at h2;unfold I64;omega
  have ad:=Hd H;clear f H;go_wp2_with fail
  refine l.o.mono ?_;rintro e w5 ⟨h,he⟩;have he:e=z8 (CA #[]):=he;subst he;have q:=aa h G.o (EN.1 G.o).1;have af:=Hd (g.o.trans (h.mono g.o.size));have ak:=Hd (gW q (I O 2) (I O 0) (I Z 0) (J ⟨#[]⟩) (I Z (k:Int)) (I O 0) (A U 0 0));have HP:Hid (dR d (aB vars d T) w (z8 (xS #[I O 2,I O 0,I Z 0,J ⟨#[]⟩,I Z (k:Int),I O 0,A U 0 0])) (st7 w5 (w.heap.size+1) 0 (I O 2) (I O 0) (I Z 0) (J ⟨#[]⟩) (I Z (k:Int)) (I O 0) (A U 0 0))):=by
   refine⟨mU af.o (Fl _) _ _ _ _ _ _ _,?_⟩;rw[K.o];refine⟨A U 0 0,V,⟨⟨by show (0:Int)≤2;decide,by show (2:Int)<256;decide⟩,⟨⟨by show (0:Int)≤0;decide,by show (0:Int)<256;decide⟩,⟨by show (-9223372036854775808:Int)≤0;decide,by show (0:Int)<9223372036854775808;decide⟩,Fa _⟩,ad.o,⟨by show (0:Int)≤0;decide,by show (0:Int)<256;decide⟩⟩,?_⟩
   cases d with
   | zero=>exact⟨V,U,0,V⟩
   | succ d=>exact Or.inl ⟨V,U,0,V⟩
  obtain⟨c0,c1,c2,c3,c4,c5,c6⟩:=dF q;have f0:=ac q;clear q h l S L W X e4;go_wp2_with fail
  exact jK _ _ (w.heap.size+1) _ _ _ _ _ _ _ ak.o _ V HP.o
 | none =>
  rw[f]at K;clear f;rw[show bP U=(-1:Int) from rfl];have l:=Hd (bY [(true,213)] 13 T.f T.h T.y (A p n c) W2.heap.size 1 1 (W2.alloc (wq #[AJ true,I Z 213] 104)) V (by omega) (p9 W2 _));have g:Hid (FK w (W2.alloc (wq #[AJ true,I Z 213] 104))):=(a.o.trans (b.o.mono a.o.size)).alloc (EU a.o.size b.o.size) _;go_wp2_with fail
  refine l.o.mono ?_;rintro e w5 ⟨h,he⟩;have he:e=aU 213 T.y:=he;subst he;refine⟨V,g.o.trans (h.mono g.o.size),?_⟩;rw[K.o];rfl
