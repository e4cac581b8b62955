/- Parts of one proof, joined; conditions stand in each theorem. -/
import Derived.Test.YtkhfjgjjhlnnnaaGreatDoorND
import Derived.Maps.Own
import Derived.Maps.Views
open Go.IntKind renaming u8→O,i64→Z
open Go.Proofs.Tryz renaming prog→wq
open Go renaming World→vk,Calls→wB,TypeId→AR,Addr→z6,Value→vn
open Option renaming some→Y,none→U
open Go.Value renaming string→J,int→I,tuple→AJ,bool→xS,slice→A,agg→wD,pointer→wF
open Go.Ending renaming returned→xv
open Go.Obj renaming cells→ur
open Except renaming ok→xL,error→z8
namespace Go.Proofs.YtkhfjgjjhlnnnaaGreatDoor
set_option maxHeartbeats 4000000
set_option maxRecDepth 100000
open Go.RowKit Go.Maps
def zc:List (List UInt8×Int):=[([111,114],10),([97,110,100],9),([60,61],8),([60],7),([33,61],6),([61],5),([42],3),([45],2),([43],1)]
def lZ{H:Type}:List (List UInt8×Int)→DataW H
 | []=>.map []
 | p::r=>(lZ r).put (.string p.1) (.lit (.int O p.2))
def mo:List (List UInt8×Int)→List UInt8→Int
 | [],_=>0
 | p::r,t=>if t=p.1 then p.2 else mo r t
theorem uk{H:Type}:∀l:List (List UInt8×Int),IsMap (lZ (H:=H) l)
 | []=>⟨[],V⟩
 | p::r=>by
  obtain⟨es,h⟩:=uk (H:=H) r;exact⟨_,by rw[lZ,h];rfl⟩
theorem wS{H:Type}(t:List UInt8):∀l:List (List UInt8×Int),(lZ (H:=H) l).atKey (.string t) (.lit (.int O 0))=.lit (.int O (mo l t))
 | []=>rfl
 | p::r=>by
  by_cases h:t=p.1
  ·rw[lZ,h,atKey_put_same (uk r) (by trivial),mo,r6 V]
  ·rw[lZ,atKey_put_other (fun e=>h (by injection e)),mo,r5 h,wS t r]
theorem uc:Keyed wq 9:=string_keyed Tryz.underlying9
theorem fc{H:Type}{w:vk}{b n:Nat}{l:List (List UInt8×Int)}(h:w.ownsMap wq 9 (plainElem (H:=H) wq 59) b n (lZ l))(d:n<20)(k:ByteArray)(c:Int)(e:k.size<20)(a:(Lit.int O c).wf=true) :
  ∃w',(Instr.mapUpdate 353 (.map (Y b)) (J k) (I O c)).run wq w=.ok () w'∧w'.ownsMap wq 9 (plainElem (H:=H) wq 59) b (n+1) (lZ ((k.data.toList,c)::l))∧w.grownBy w' (Y b):=
 h.update uc Tryz.underlying353 (by unfold maxLen;omega) (WideMaps.keyOf_string_mk Tryz.underlying9 (by unfold maxLen;omega)) (plainElem_int Tryz.underlying59 a)
theorem EJ(w:vk):(zeroValue 59).run wq w=.ok (I O 0) w:=by kernel_rfl
theorem C9(t:List UInt8)(h:t≠[62])(i:t≠[62,61]):opM t 2=(mo zc t,false):=by
 have j:(t==[62])=false:=by simpa using h
 have k:(t==[62,61])=false:=by simpa using i
 unfold opM;simp only[j,k];simp only[zc,mo]
 by_cases a:t=[43]
 ·subst a;rfl
 by_cases c2:t=[45]
 ·subst c2;rfl
 by_cases b:t=[42]
 ·subst b;rfl
 by_cases c4:t=[61]
 ·subst c4;rfl
 by_cases c:t=[33,61]
 ·subst c;rfl
 by_cases d:t=[60]
 ·subst d;rfl
 by_cases e:t=[60,61]
 ·subst e;rfl
 by_cases f:t=[97,110,100]
 ·subst f;rfl
 by_cases g:t=[111,114]
 ·subst g;rfl
 simp[a,c2,b,c4,c,d,e,f,g]
theorem EA(t:ByteArray)(f:t.size≤maxLen)(w:vk):wB wq 142 #[J t] w fun e w'=>e=xv (AJ #[I O (opM t.data.toList 2).1,xS (opM t.data.toList 2).2])∧Gc w w':=by
 have i:=@run_makeMap wq;have k:(w.alloc (.map #[] 0)).ownsMap wq 9 (plainElem (H:=Unit) wq 59) w.heap.size 0 (lZ []):=World.ownsMap_made _ _ _ _;obtain⟨w1,E,l,g1⟩:=fc k (by omega) ⟨#[43]⟩ 1 (by decide) (by decide);obtain⟨F,r2,m,g2⟩:=fc l (by omega) ⟨#[45]⟩ 2 (by decide) (by decide);obtain⟨G,K,n,g3⟩:=fc m (by omega) ⟨#[42]⟩ 3 (by decide) (by decide);obtain⟨w4,r4,o,g4⟩:=fc n (by omega) ⟨#[61]⟩ 5 (by decide) (by decide);obtain⟨L,M,p,g5⟩:=fc o (by omega) ⟨#[33,61]⟩ 6 (by decide) (by decide);obtain⟨N,P,q,g6⟩:=fc p (by omega) ⟨#[60]⟩ 7 (by decide) (by decide);obtain⟨Q,R,r,g7⟩:=fc q (by omega) ⟨#[60,61]⟩ 8 (by decide) (by decide);obtain⟨S,T,s,g8⟩:=fc r (by omega) ⟨#[97,110,100]⟩ 9 (by decide) (by decide);obtain⟨w9,W,o9,g9⟩:=fc s (by omega) ⟨#[111,114]⟩ 10 (by decide) (by decide);obtain⟨c,X,d,u⟩:=o9.lookup_int uc Tryz.underlying353 Tryz.underlying59 (EJ w9) (WideMaps.keyOf_string_mk Tryz.underlying9 f);have v:c=mo zc t.data.toList:=by
  have e:=wS (H:=Unit) t.data.toList zc;have x:=d.symm.trans e;injection x with y
  injection y
 have z:Gc w w9:=by
  have B:Gc w (w.alloc (.map #[] 0)):=(Fl _ _).alloc (Fj _) _;have st:∀{a b:vk},Gc w a→a.grownBy b (Y w.heap.size)→Gc w b:=fun h g=>h.grown g h.size (fun j C=>by cases C;exact Fj _)
  exact st (st (st (st (st (st (st (st (st B g1) g2) g3) g4) g5) g6) g7) g8) g9
 go_enter Tryz.func142,Tryz.ntmps142
 go_wp2
 ·have e:t.data.toList=[62]:=by rw[←FB];rename_i h;simpa using h
  rw[e];exact⟨V,_,results_tmp2 V _ _ _,V,Fl _ _⟩
 ·have e:t.data.toList=[62,61]:=by rw[←FB];rename_i h;simpa using h
  rw[e];exact⟨V,_,results_tmp2 V _ _ _,V,Fl _ _⟩
 ·have D:t.data.toList≠[62]:=by rw[←FB];rename_i h _;simpa using h
  have n2:t.data.toList≠[62,61]:=by rw[←FB];rename_i h;simpa using h
  rw[C9 _ D n2,←v];exact⟨V,_,results_tmp2 V _ _ _,V,z⟩
theorem fk{E S:AR}{sz bytes:Nat}(m:Elem E S sz bytes){w:vk}{ops:Array Oper}{rest:List Oper}{o:Oper}{a:Act}{Q:Exit→Act→vk→Prop}(r:o.guard=U)(s x:Operand)
  (q:o.op=.call { callee:=.builtin .append,args:=#[s,x],argTypes:=#[S,S] }) {p:Option z6} {n c g9:Nat} {xs z:List vn} (N:a.eval s=A p n c) (P:a.eval x=A (Y ⟨g9,0,U⟩) 1 1)
  (k:w.ownsRow 0 E sz (A p n c) n xs) (R:w.heap[g9]?=Y (ur z.toArray E (0,0))) (T:z.length=sz) (W:∀u∈z,u.oneCell'=true) (hn:n≤100000)
  (h:∀g cap w',((A p n c).ownBlock=Y g∨w.heap.size≤g)→Chg (fun b=>(A p n c).ownBlock=Y b) w w'→w'.ownsRow 0 E sz (A (Y ⟨g,0,U⟩) (n+1) cap) (n+1) (xs++z)→
   wpList wq ops Q rest (a.put o.dst (A (Y ⟨g,0,U⟩) (n+1) cap)) w'):wpList wq ops Q (o::rest) a w:=by
 obtain⟨i0,X,t,v,y,B,C⟩:=m.info;have D:=m.small;have F:=m.pos;have f:∀j u,z[j]?=Y u→w.cell? ((⟨g9,0,U⟩:z6).add j)=Y u:=fun j u hj=>by
  have e:(⟨g9,0,U⟩:z6).add j=⟨g9,j,U⟩:=by
   unfold Addr.add
   by_cases M:j=0
   ·subst M;rfl
   ·rw[r5 M];simp
  rw[e,Gb _ _ _ _ _ _ R]
  simpa using hj
 have G:(n+1)*bytes≤140737488355328:=by
  have:=Nat.mul_le_mul (show n+1≤100001 by omega) D.2;omega
 refine mW w r s x S q 0 E i0 X sz bytes m.und t v y B C F (A p n c) n xs N k ⟨g9,0,U⟩ 1 1 z P (by omega) f W (by unfold maxLen;omega) G (FA _) (by decide) ?_;intro v' w' d i;rcases i with ⟨g,cap,H,K,l⟩|⟨cap,H,K⟩
 ·subst K;have q:(A p n c).ownBlock=Y g:=by rw[H];rfl
  refine h g cap w' (Or.inl q) ?_ d;exact⟨l.os,l.tape,l.output,l.size,fun b hb L=>l.block b hb (fun e=>L (q.trans e.symm))⟩
 ·subst H;exact h _ cap w' (Or.inr (Fj _)) (Chg.f K) d
theorem ue:Elem 62 60 7 80:=Elem.of (z:=wD #[I O 0,I O 0,I Z 0,J ByteArray.empty,I Z 0,I O 0,A U 0 0]) Tryz.underlying60 (by kernel_rfl) (by kernel_rfl) (by decide) (by decide)
theorem aj.f{w:vk}{B:Nat}:∀{d:Nat} {a:List ab} {e:vn},aj w B d a e→∃p c,e=A p a.length c
 | 0,_,_,h=>by
  obtain⟨rfl,p,c,rfl⟩:=h;exact⟨p,c,V⟩
 | _+1,_,_,h=>by
  rcases h with ⟨rfl,p,c,rfl⟩|⟨b,off,cap,_,_,_,_,rfl,_⟩
  ·exact⟨p,c,V⟩
  ·exact⟨_,_,V⟩
def dj:Nat→ab→Prop
 | 0,T=>T.f.size≤72007
 | d+1,T=>T.f.size≤72007∧T.q.length≤20000∧∀k∈T.q,dj d k
theorem dj.f:∀{d:Nat} {T:ab},dj d T→T.f.size≤72007
 | 0,_,h=>h
 | _+1,_,h=>h.1
structure np (M:Nat) (vars:List ByteArray) (vV:vn) (w:vk):Prop where
 m:w.cell? ⟨M,2,U⟩=Y vV
 lt:M<w.heap.size
 v:Rd.str.C w (fun b=>b<w.heap.size) vars vV
theorem np.u{M:Nat}{vars:List ByteArray}{vV:vn}{w w':vk}(h:np M vars vV w)(b:Gc w w'):np M vars vV w':=
 ⟨(b.cell (p:=⟨M,2,U⟩) h.lt).trans h.m,Ft h.lt b.size,Rd.q (fun _ a=>Ft a b.size) (Rd.t h.v (fun _ a=>a) b)⟩
def am(w w':vk) (b:Nat):Prop:=w.heap.size≤b∧b<w'.heap.size
def dR(d:Nat) (r:Except Flt ax) (w:vk) (e:Ending) (w':vk):Prop:=Gc w w'∧match r with
 | .ok E=>∃s,e=xv (wD #[I O E.b,I O E.f.b,I Z E.f.h,J E.f.f,I Z E.h,I O E.op,s])∧f6 E∧de w' (am w w') d E.q s
 | .error er=>e=aV er.1 er.2
def jF(d:Nat) (r:Except Flt (List ax)) (w:vk) (e:Ending) (w':vk):Prop:=Gc w w'∧match r with
 | .ok es=>∃v,e=xv v∧aI w' (fun b=>am w w' b∧v.ownBlock≠Y b) 62 (aM d) es v∧∀g,v.ownBlock=Y g→w.heap.size≤g
 | .error er=>e=aV er.1 er.2
theorem qP{α β:Type}{f:α→Except Flt β}{l:List α}{k:Nat}{ys:List β}{x:α}(a:l[k]?=Y x)(h:bC f (l.take k)=xL ys):bC f (l.take (k+1))=match f x with | .error e=>z8 e | .ok y=>xL (ys++[y]):=gz a h
theorem qi{α β:Type}{f:α→Except Flt β}{l:List α}{k:Nat}{e:Flt}(h:bC f (l.take k)=z8 e):bC f l=z8 e:=by
 unfold bC at *
 conv=>lhs;rw[←List.take_append_drop k l]
 rw[jB,h]
theorem Chg.y{F:Nat→Prop}{B:Nat}{w w1 c:vk}(h:Below B w w1)(a:Chg F w1 c)(hF:∀b,F b→B≤b)(hB:B≤w1.heap.size):Below B w c:=
 h.trans ⟨a.os,a.a,a.c,a.h,fun b e=>a.q b (by omega) (fun d=>by have:=hF b d;omega)⟩
theorem zb{d:Nat}{w wr v W2 f m:vk}{es:List ax}{E:ax}{p:Option z6}{k c g cap:Nat}{s:vn}{us:List vn}(L:es.length=k)
  (x:Gc w wr) (M:wr.heap.size≤v.heap.size) (j:Gc wr f) (i:Gc W2 f)
  (N:(aM d).y wr (fun b=>am w wr b∧(A p k c).ownBlock≠Y b) es us) (n:wr.ownsRow 0 62 7 (A p k c) k us) (q:∀g,(A p k c).ownBlock=Y g→w.heap.size≤g)
  (r:f6 E) (y:de W2 (am v W2) d E.q s)
  (H:(A p k c).ownBlock=Y g∨f.heap.size≤g) (z:Chg (fun b=>(A p k c).ownBlock=Y b) f m) (t:m.ownsRow 0 62 7 (A (Y ⟨g,0,U⟩) (k+1) cap) (k+1) (us++bs E s)) :
  Gc w m∧aI m (fun b=>am w m b∧(A (Y ⟨g,0,U⟩) (k+1) cap).ownBlock≠Y b) 62 (aM d) (es++[E]) (A (Y ⟨g,0,U⟩) (k+1) cap)∧∀a,(A (Y ⟨g,0,U⟩) (k+1) cap).ownBlock=Y a→w.heap.size≤a:=by
 have P:=i.size;have Q:=z.h;have l:Gc w f:=x.trans (j.mono x.size);have R:(aM d).at_ W2 (am v W2) E (bs E s):=ey.2 ⟨r,s,V,y⟩;have B:∀a,(A p k c).ownBlock=Y a→a<wr.heap.size:=fun a h=>(eO n a h).2
 let F:Nat→Prop:=fun b=>(am w wr b∧(A p k c).ownBlock≠Y b)∨am v W2 b
 have hF:∀b,F b→w.heap.size≤b∧b<f.heap.size∧(A p k c).ownBlock≠Y b:=by
  rintro b (⟨⟨K,S⟩,T⟩|⟨K,S⟩)
  ·exact⟨K,by have:=j.size;omega,T⟩
  ·exact⟨by have:=x.size;omega,by omega,fun e=>by have:=B b e;omega⟩
 have C:(aM d).y f F es us:=Rd.ss (fun b h=>Or.inl h) (Rd.qv (fun b h o u=>(j.block b h.1.2).trans u) N);have D:(aM d).at_ f F E (bs E s):=(aM d).K (fun b h=>Or.inr h) ((aM d).z (fun b h o u=>(i.block b h.2).trans u) R);have G:(aM d).y m F (es++[E]) (us++bs E s):=Rd.qv (fun b h o u=>(z.q b (hF b h).2.1 (hF b h).2.2).trans u) (Rd.sn C D);refine⟨Chg.y l z (fun b h=>q b h) l.size,⟨us++bs E s,?_,Rd.ss (fun b h=>⟨⟨(hF b h).1,by have:=(hF b h).2.1;omega⟩,fun e=>?_⟩) G⟩,fun a e=>?_⟩
 ·rw[eW,FC,L];exact t
 ·injection e with e
  have e:g=b:=e;subst e;rcases H with h|h
  ·exact (hF g (by assumption)).2.2 h
  ·have:=(hF g (by assumption)).2.1;omega
 ·injection e with e
  have e:g=a:=e;subst e;rcases H with h|h
  ·exact q g h
  ·have:=l.size;omega
def uU(w:vk) (d:Nat) (f:ab→Except Flt ax) (Ts:List ab) (n:Nat) (v i:vn) (W:vk):Prop:=
 ∃k es,k≤n∧i=I Z (k:Int)∧bC f (Ts.take k)=xL es∧es.length=k∧Gc w W∧aI W (fun b=>am w W b∧v.ownBlock≠Y b) 62 (aM d) es v∧∀g,v.ownBlock=Y g→w.heap.size≤g
theorem nJ(d M:Nat)(vars:List ByteArray)(vV:vn)(f:ab→Except Flt ax)(Ts:List ab)(sl:vn)(w:vk)(hv:np M vars vV w)(l:aj w w.heap.size (d+1) Ts sl)(ak:Ts.length≤20000)
  (y:∀T∈Ts,∀(s:vn) (W:vk),np M vars vV W→Fits T→aj W W.heap.size d T.q s→wB wq 76 #[wF (Y ⟨M,0,U⟩),wD #[I O T.b,J T.f,I Z T.h,I Z T.t,s]] W (dR d (f T) W)) :
  wB wq 77 #[wF (Y ⟨M,0,U⟩),sl] w (jF d (bC f Ts) w):=by
 obtain⟨n,H⟩:=zzy (Ts.length);obtain⟨p,c,al⟩:∃p c,sl=A p n c:=by
  rcases l with ⟨rfl,sp,cap,rfl⟩|⟨b,off,cap,h1,h2,h3,h4,rfl,h6⟩
  ·exact⟨sp,cap,by rw[←H];rfl⟩
  ·exact⟨_,_,by rw[H]⟩
 subst al;obtain⟨HK,HV,HO⟩:=zz3 l hv y;rw[H]at ak;have HN:=Hd H;clear l hv y H
 go_enter Tryz.func77,Tryz.ntmps77
 go_wp2
 go_loopw [5,10] (uU w d f Ts n) (fun _ i _=>n-(intOf i).toNat)
 case atStart=>exact⟨0,[],FA _,V,V,V,Fl _ _,aI.nil,fun g h=>by cases h⟩
 case round =>
  obtain⟨k,es,hk,rfl,hl,D,hb,m,K⟩:=hrel;obtain⟨p5,c5,L⟩:=m.b;rw[D]at L;subst L;have bd:(0:Int)≤k:=by omega
  obtain⟨B,HL,HE,HG,HR⟩:=zz5 hb hl D K m;clear hb hl D K m
  by_cases aq:k<n
  ·have bk:(k:Int)<n:=by omega
   obtain⟨T,N⟩:∃T,Ts[k]?=Y T:=⟨_,Fq (by rw[HN.o];exact aq)⟩;have l:=HK.o.u B.o;rcases l with ⟨rfl,_⟩|⟨b,off,cap,h1,h2,h3,h4,he,h6⟩
   ·simp at N
   rw[HN.o]at he;injection he with e1 _ e3
   subst e1;subst e3;obtain⟨q,s,c0,c1,c2,c3,c4,F⟩:=h6 k T N;obtain⟨ps,cs,rfl⟩:=F.f;obtain⟨HF,P⟩:=zz2 q (qP N HL.o);have r:Gc wr (wr.alloc (ur #[I O T.b,J T.f,I Z T.h,I Z T.t,A ps T.q.length cs] 25)):=(Fl _ wr).alloc (Fj _) _;obtain⟨HA,HC⟩:=zz2 r (HO.o T (FM N) (A ps T.q.length cs) (wr.alloc (ur #[I O T.b,J T.f,I Z T.h,I Z T.t,A ps T.q.length cs] 25)) ((HV.o.u B.o).u r) q ((F.u (r.mono B.o.size)).up (Fu B.o.size r.size)));have ar:=qv wr (ur #[I O T.b,J T.f,I Z T.h,I Z T.t,A ps T.q.length cs] 25);clear q F h6 h1 h2 h3 h4 r N;go_wp2_with fail
   refine HC.o.mono ?_;rintro e W2 ⟨Q,he⟩;have t:=Hd (HA.o.trans (Q.mono HA.o.size));clear Q c0 c1 c2 c3 c4 ar
   cases R:f T with
   | error er =>
    rw[R]at he;have he:e=aV er.1 er.2:=he;subst he;have HX:Hid (bC f Ts=z8 er):=qi (k:=k+1) (by rw[P.o,R]);refine⟨V,B.o.trans (t.o.mono B.o.size),?_⟩;rw[HX.o];rfl
   | ok E =>
    rw[R]at he;obtain⟨s2,rfl,u,G⟩:=he;have av:Hid (bC f (Ts.take (k+1))=xL (es++[E])):=by show _=_;rw[P.o,R]
    obtain⟨a1,a6⟩:=zz2 u G;obtain⟨us,a,j⟩:=HR.o;rw[HE.o,eW]at a;have ba:=Hd j;have v:Gc W2 (W2.alloc (ur #[I O E.b,I O E.f.b,I Z E.f.h,J E.f.f,I Z E.h,I O E.op,s2] 62)):=(Fl _ W2).alloc (Fj _) _;obtain⟨C,bb,bc⟩:=zz3 v a (db a (t.o.trans (v.mono t.o.size)));obtain⟨pe,ce,S⟩:=bh G;clear u G R a j v;subst S;go_wp2_with (at_builtin;go_must (refine fk ue V (.tmp 14) (.tmp 18) V (p:=p5) (n:=k) (c:=c5) (z:=bs E (A pe E.q.length ce)) V V bc.o (qv W2 _) V (by simp[Value.oneCell',bs]) (by omega) ?_);intro g cap W4 hg hC x)
    obtain⟨X,ad,af⟩:=zb HE.o B.o HA.o.size (t.o.trans (C.o.mono t.o.size)) C.o ba.o bb.o HG.o a1.o a6.o hg hC x;have HP:Hid (uU w d f Ts n (A (Y ⟨g,0,U⟩) (k+1) cap) (I Z ((k+1:Nat):Int)) W4):=⟨k+1,es++[E],by omega,V,av.o,by rw[FC,HE.o];rfl,X,ad,af⟩;clear hg hC x X ad af;go_wp2_with fail
    refine⟨HP.o,?_⟩;simp[intOf];omega
  ·have HX:Hid (bC f Ts=xL es):=by
    show _=_
    rw[←HL.o,FH (by rw[HN.o];omega)]
   go_wp2_with fail
   go_ret;refine⟨B.o,?_⟩;rw[HX.o];exact⟨_,V,HR.o,HG.o⟩
def st7(W:vk) (g o:Nat) (a b c d e f h:vn):World:=((((((W.setCell ⟨g,o+0,U⟩ a).setCell ⟨g,o+1,U⟩ b).setCell ⟨g,o+2,U⟩ c).setCell ⟨g,o+3,U⟩ d).setCell ⟨g,o+4,U⟩ e).setCell ⟨g,o+5,U⟩ f).setCell ⟨g,o+6,U⟩ h
theorem Bd(a b:ax)(h j:Option z6)(k n2 l c2 g cap:Nat)(cur:Array vn)(w:vk)(n:w.heap[g]?=Y (ur cur 62 (0,0)))
  (c:∀i u,(bs a (A h k l))[i]?=Y u→w.cell? ⟨g,i,U⟩=Y u) (d:∀i u,(bs b (A j n2 c2))[i]?=Y u→w.cell? ⟨g,7+i,U⟩=Y u) :
  wB wq 143 #[A (Y ⟨g,0,U⟩) 2 cap] w fun e w'=>e=xv (AJ #[])∧w'=(st7 (st7 w g 0 (I O b.b) (I O b.f.b) (I Z b.f.h) (J b.f.f) (I Z b.h) (I O b.op) (A j n2 c2)) g 7 (I O a.b) (I O a.f.b) (I Z a.f.h) (J a.f.f) (I Z a.h) (I O a.op) (A h k l)).drew:=by
 have a0:=c 0 _ V;have a1:=c 1 _ V;have a2:=c 2 _ V;have a3:=c 3 _ V;have a4:=c 4 _ V;have a5:=c 5 _ V;have q:=c 6 _ V;have r:w.cell? ⟨g,7,U⟩=_:=d 0 _ V;have s:w.cell? ⟨g,8,U⟩=_:=d 1 _ V;have t:w.cell? ⟨g,9,U⟩=_:=d 2 _ V;have v:w.cell? ⟨g,10,U⟩=_:=d 3 _ V;have x:w.cell? ⟨g,11,U⟩=_:=d 4 _ V;have y:w.cell? ⟨g,12,U⟩=_:=d 5 _ V;have z:w.cell? ⟨g,13,U⟩=_:=d 6 _ V;have f0:=bM n;clear c d n
 go_enter Tryz.func143,Tryz.ntmps143
 go_wp2_with fail
 refine wp_loop_rounds 2 ?_;rw[rounds_succ];go_wp2_with fail
 go_region
 go_wp2_with fail
 clear a0 a1 a2 a3 a4 a5 q r s t v x y z f0;obtain⟨p,f⟩:=zzx ((st7 (st7 w g 0 (I O b.b) (I O b.f.b) (I Z b.f.h) (J b.f.f) (I Z b.h) (I O b.op) (A j n2 c2)) g 7 (I O a.b) (I O a.f.b) (I Z a.f.h) (J a.f.f) (I Z a.h) (I O a.op) (A h k l)).drew);change Code.rounds _ _ _ _ _ (st7 (st7 w g 0 (I O b.b) (I O b.f.b) (I Z b.f.h) (J b.f.f) (I Z b.h) (I O b.op) (A j n2 c2)) g 7 (I O a.b) (I O a.f.b) (I Z a.f.h) (J a.f.f) (I Z a.h) (I O a.op) (A h k l)).drew;rw[←f];have m:=Hd f;clear f;rw[rounds_succ];go_wp2_with fail
 go_end0
 exact⟨V,m.o⟩
theorem ij{w:vk}{g:Nat}{l:List vn}{t:AR}(h:w.heap[g]?=Y (ur l.toArray t (0,0)))(i:Nat)(u:vn):(w.setCell ⟨g,i,U⟩ u).heap[g]?=Y (ur (l.set i u).toArray t (0,0)):=by rw[heap_set h i u,Fo]
theorem pD{W:vk}{g o:Nat}{l:List vn}{t:AR}(i:W.heap[g]?=Y (ur l.toArray t (0,0)))(a b c d e f h:vn) :
  (st7 W g o a b c d e f h).heap[g]?=Y (ur (((((((l.set (o+0) a).set (o+1) b).set (o+2) c).set (o+3) d).set (o+4) e).set (o+5) f).set (o+6) h).toArray t (0,0)):=by
 unfold st7;exact ij (ij (ij (ij (ij (ij (ij i _ _) _ _) _ _) _ _) _ _) _ _) _ _
theorem EK{W:vk}{g:Nat}{h i rest:List vn}{t:AR}(p:W.heap[g]?=Y (ur (h++i++rest).toArray t (0,0)))(q:h.length=7)(r:i.length=7)(a b c d e f u j b' k d' l m n:vn) :
  (st7 (st7 W g 0 a b c d e f u) g 7 j b' k d' l m n).drew.heap[g]?=Y (ur ([a,b,c,d,e,f,u]++[j,b',k,d',l,m,n]++rest).toArray t (0,0)):=by
 have s:=pD (o:=7) (pD (o:=0) p a b c d e f u) j b' k d' l m n;have v:∀X:vk,X.drew.heap=X.heap:=fun _=>rfl
 rw[v,s]
 match h,q,i,r with
 | [_,_,_,_,_,_,_],_,[_,_,_,_,_,_,_],_=>simp[List.set_cons_succ,List.set_cons_zero]
theorem rk{W:vk}{g o:Nat}(a b c d e f h:vn):Chg (fun x=>x=g) W (st7 W g o a b c d e f h):=by
 have step:∀{j:vk},Chg (fun x=>x=g) W j→∀(i:Nat) (u:vn),Chg (fun x=>x=g) W (j.setCell ⟨g,i,U⟩ u):=fun k i u=>k.t (p:=⟨g,i,U⟩) (Or.inl V) u
 unfold st7;exact step (step (step (step (step (step (step (Chg.refl _ W) _ a) _ b) _ c) _ d) _ e) _ f) _ h
theorem B5{W:vk}{a B rest:List vn}{g cap:Nat}(b:a.length=7)(hB:B.length=7)(h:W.heap[g]?=Y (ur (a++B++rest).toArray 62 (0,0)))(c:2≤cap)(d:cap≤maxLen)(e:(a++B++rest).length=cap*7) :
  W.ownsRow 0 62 7 (A (Y ⟨g,0,U⟩) 2 cap) 2 (a++B):=
 ⟨by rw[FC,b,hB],Or.inr ⟨g,cap,_,V,FA _,h,c,d,by rw[List.size_toArray];exact e,List.take_left' (by rw[FC,b,hB])⟩⟩
theorem Dp(a b:ax)(c j:Option z6)(d n2 f c2 g cap:Nat)(w:vk)(k:w.ownsRow 0 62 7 (A (Y ⟨g,0,U⟩) 2 cap) 2 (bs a (A c d f)++bs b (A j n2 c2))) :
  wB wq 143 #[A (Y ⟨g,0,U⟩) 2 cap] w fun e w'=>e=xv (AJ #[])∧Chg (fun x=>x=g) w w'∧w'.ownsRow 0 62 7 (A (Y ⟨g,0,U⟩) 2 cap) 2 (bs b (A j n2 c2)++bs a (A c d f)):=by
 obtain⟨_,⟨h,_⟩|⟨C,q,cur,h,_,m,s,t,v,y⟩⟩:=k
 ·cases h
 injection h with l _ z
 injection l with l
 injection l with l
 subst l;subst z;obtain⟨rest,B⟩:∃rest,cur=(bs a (A c d f)++bs b (A j n2 c2)++rest).toArray:=⟨cur.toList.drop (2*7),by rw[←y,List.take_append_drop]⟩;subst B;refine (Bd a b c j d n2 f c2 g cap _ w m (fun i u hu=>?_) (fun i u hu=>?_)).mono ?_
 ·rw[Gb _ _ _ _ _ _ m];have r:i<7:=(FD.1 hu).1;rw[List.getElem?_toArray,List.append_assoc,F6 (by exact r)];exact hu
 ·rw[Gb _ _ _ _ _ _ m];have r:i<7:=(FD.1 hu).1;rw[List.getElem?_toArray,List.append_assoc,FS (by show 7≤7+i;omega),F6 (by show 7+i-7<7;omega)];have e:7+i-(bs a (A c d f)).length=i:=by show 7+i-7=i;omega
  rw[e];exact hu
 ·rintro e w' ⟨rfl,rfl⟩;have n:(st7 (st7 w g 0 (I O b.b) (I O b.f.b) (I Z b.f.h) (J b.f.f) (I Z b.h) (I O b.op) (A j n2 c2)) g 7 (I O a.b) (I O a.f.b) (I Z a.f.h) (J a.f.f) (I Z a.h) (I O a.op) (A c d f)).drew.heap[g]?=Y (ur (bs b (A j n2 c2)++bs a (A c d f)++rest).toArray 62 (0,0)):=
   EK m V V (I O b.b) (I O b.f.b) (I Z b.f.h) (J b.f.f) (I Z b.h) (I O b.op) (A j n2 c2) (I O a.b) (I O a.f.b) (I Z a.f.h) (J a.f.f) (I Z a.h) (I O a.op) (A c d f)
  have p:=((rk (W:=w) (g:=g) (o:=0) (I O b.b) (I O b.f.b) (I Z b.f.h) (J b.f.f) (I Z b.h) (I O b.op) (A j n2 c2)).b (rk (g:=g) (o:=7) (I O a.b) (I O a.f.b) (I Z a.f.h) (J a.f.f) (I Z a.h) (I O a.op) (A c d f))).b (Chg.f ((Fl _ _).drew));exact⟨V,p,B5 V V n s t (by rw[←v];rfl)⟩
theorem dF{w:vk}{T:Nat}{a b c d e f h:vn}{t:AR}(g:w.heap[T]?=Y (ur #[a,b,c,d,e,f,h] t (0,0))) :
  w.cell? ⟨T,0,U⟩=Y a∧w.cell? ⟨T,1,U⟩=Y b∧w.cell? ⟨T,2,U⟩=Y c∧w.cell? ⟨T,3,U⟩=Y d∧w.cell? ⟨T,4,U⟩=Y e∧w.cell? ⟨T,5,U⟩=Y f∧w.cell? ⟨T,6,U⟩=Y h:=by
 simp[World.cell?,g]
theorem gV{W:vk}{g:Nat}{i j x2 x3 x4 x5 x6:vn}{t:AR}(k:W.heap[g]?=Y (ur #[i,j,x2,x3,x4,x5,x6] t (0,0)))(a b c d e f h:vn):(st7 W g 0 a b c d e f h).heap[g]?=Y (ur #[a,b,c,d,e,f,h] t (0,0)):=by
 have m:=pD (o:=0) (l:=[i,j,x2,x3,x4,x5,x6]) k a b c d e f h;rw[m];simp
theorem jH(W:vk)(i:Ending→vk→Prop)(T:Nat)(a b c d e f h:vn)(j:W.heap[T]?=Y (ur #[a,b,c,d,e,f,h] 62 (0,0)))
  (tmps:Array vn) (k:tmps.getD 4 undef=wF (Y ⟨T,0,U⟩)) (l:i (xv (wD #[a,b,c,d,e,f,h])) W):bodyPost wq Tryz.f76 i .ret ⟨tmps,[]⟩ W:=by
 obtain⟨m,n,c2,o,c4,p,q⟩:=dF j;have g:tmps[4]?.getD undef=wF (Y ⟨T,0,U⟩):=by simpa using k
 refine bodyPost_ret (v:=wD #[a,b,c,d,e,f,h]) ?_ V l;simp[results,Tryz.results76,go_sem,g,m,n,c2,o,c4,p,q]
theorem Eu(t:ByteArray):I64 (i7 t):=by
 have h:=nG (strip t.data.toList);unfold kN at h;unfold i7 I64;dsimp only
 split<;>omega
theorem kz(T:ab)(c:T.f.size≤72007):kH (aF T):=by
 have a:U8 2:=⟨by decide,by decide⟩;have b:U8 1:=⟨by decide,by decide⟩;have i0:I64 0:=⟨by decide,by decide⟩;unfold aF
 split
 ·exact⟨a,i0,by show T.f.size≤maxLen;unfold maxLen;omega⟩
 ·exact⟨b,Eu _,FA _⟩
theorem AY(t:List UInt8)(k:Nat):U8 (opM t k).1:=by
 have h:∀(b:Bool) (x y:Int×Bool),U8 x.1→U8 y.1→U8 (if b then x else y).1:=fun b x y c d=>by cases b;exact d;exact c
 have a:∀(n:Nat) (b:Bool),n<20→U8 ((n:Int),b).1:=fun n b e=>⟨by show (0:Int)≤n;omega,by show (n:Int)<256;omega⟩
 unfold opM;refine h _ _ _ (h _ _ _ (a 7 _ (by decide)) (h _ _ _ (a 8 _ (by decide)) (h _ _ _ (a 1 _ (by decide)) (h _ _ _ (a 2 _ (by decide)) (h _ _ _ (a 3 _ (by decide)) (h _ _ _ (a 5 _ (by decide)) (h _ _ _ (a 6 _ (by decide)) (h _ _ _ (a 7 _ (by decide)) (h _ _ _ (a 8 _ (by decide)) (h _ _ _ (a 9 _ (by decide)) (h _ _ _ (a 10 _ (by decide)) (a 0 _ (by decide))))))))))))) (h _ _ _ (a 4 _ (by decide)) (a 11 _ (by decide)))
theorem mQ{B:Nat}{w W:vk}{g:Nat}(j:Below B w W)(i:B≤g)(a b c d e f h:vn):Below B w (st7 W g 0 a b c d e f h):=by
 unfold st7;exact ((((((j.setCell i a).setCell i b).setCell i c).setCell i d).setCell i e).setCell i f).setCell i h
theorem qg(d M:Nat)(vars:List ByteArray)(T:ab)(p:Option z6)(n c:Nat)(w:vk)(i:T.b=14∨T.b=15)(r:T.f.size≤72007) :
  wB wq 76 #[wF (Y ⟨M,0,U⟩),wD #[I O T.b,J T.f,I Z T.h,I Z T.t,A p n c]] w (dR d (aB vars d T) w):=by
 have t:Hid (aB vars d T=xL (.mk 1 (aF T) 0 0 [])):=by
  show _=_
  cases d<;>(unfold aB;rcases i with h|h<;>rw[h]<;>rfl)
 obtain⟨l,j,_⟩:=aw w (ur #[I O T.b,J T.f,I Z T.h,I Z T.t,A p n c] 25) (ur #[I O 0,I O 0,I Z 0,J ⟨#[]⟩,I Z 0,I O 0,A U 0 0] 62);have k:Gc w ((w.alloc (ur #[I O T.b,J T.f,I Z T.h,I Z T.t,A p n c] 25)).alloc (ur #[I O 0,I O 0,I Z 0,J ⟨#[]⟩,I Z 0,I O 0,A U 0 0] 62)):=((Fl _ w).alloc (Fj _) _).alloc (by simp) _;have s:Hid (wB wq 141 #[wD #[I O T.b,J T.f,I Z T.h,I Z T.t,A p n c]] ((w.alloc (ur #[I O T.b,J T.f,I Z T.h,I Z T.t,A p n c] 25)).alloc (ur #[I O 0,I O 0,I Z 0,J ⟨#[]⟩,I Z 0,I O 0,A U 0 0] 62)) fun e w'=>e=xv (wD #[I O (aF T).b,I Z (aF T).h,J (aF T).f])∧Below ((w.alloc (ur #[I O T.b,J T.f,I Z T.h,I Z T.t,A p n c] 25)).alloc (ur #[I O 0,I O 0,I Z 0,J ⟨#[]⟩,I Z 0,I O 0,A U 0 0] 62)).heap.size ((w.alloc (ur #[I O T.b,J T.f,I Z T.h,I Z T.t,A p n c] 25)).alloc (ur #[I O 0,I O 0,I Z 0,J ⟨#[]⟩,I Z 0,I O 0,A U 0 0] 62)) w'):=rN T (A p n c) _ i r;obtain⟨b,f,u⟩:=zz3 j k (kz T r);clear l j k;rcases i with i|i
 all_goals
  rw[i]at s b f ⊢
  go_enter Tryz.func76,Tryz.ntmps76
  go_wp2_with fail
  refine s.o.mono ?_;rintro e v ⟨rfl,g⟩;have a:=aa g b.o (Fi.1 b.o).1;obtain⟨m,q⟩:=zz2 (f.o.trans (g.mono f.o.size)) (gV a (I O 1) (I O (aF T).b) (I Z (aF T).h) (J (aF T).f) (I Z 0) (I O 0) (A U 0 0));have x:Hid (dR d (aB vars d T) w (xv (wD #[I O 1,I O (aF T).b,I Z (aF T).h,J (aF T).f,I Z 0,I O 0,A U 0 0])) (st7 v (w.heap.size+1) 0 (I O 1) (I O (aF T).b) (I Z (aF T).h) (J (aF T).f) (I Z 0) (I O 0) (A U 0 0))):=by
   refine⟨mQ m.o (FN _) _ _ _ _ _ _ _,?_⟩;rw[t.o];refine⟨A U 0 0,V,⟨⟨by show (0:Int)≤1;decide,by show (1:Int)<256;decide⟩,u.o,⟨by show (-9223372036854775808:Int)≤0;decide,by show (0:Int)<9223372036854775808;decide⟩,⟨by show (0:Int)≤0;decide,by show (0:Int)<256;decide⟩⟩,?_⟩
   cases d with
   | zero=>exact⟨V,U,0,V⟩
   | succ d=>exact Or.inl ⟨V,U,0,V⟩
  obtain⟨y,z,c2,B,c4,C,D⟩:=dF a;have f0:=ac a;clear a g;go_wp2_with fail
  exact jH _ _ (w.heap.size+1) _ _ _ _ _ _ _ q.o _ V x.o
theorem uW(d M:Nat)(vars:List ByteArray)(vV:vn)(T:ab)(p:Option z6)(n c:Nat)(w:vk)(u:np M vars vV w)(hk:T.b=13) :
  wB wq 76 #[wF (Y ⟨M,0,U⟩),wD #[I O T.b,J T.f,I Z T.h,I Z T.t,A p n c]] w (dR d (aB vars d T) w):=by
 have K:Hid (aB vars d T=match idxOf T.f vars with|some k=>xL (.mk 2 .zero k 0 [])|none=>z8 (213,T.t)):=by
  show _=_
  cases d<;>(unfold aB;rw[hk];rfl)
 rw[hk];have N:=Rd.T u.v;obtain⟨pV,cV,P⟩:=Rd.b u.v;subst P;obtain⟨w1,i⟩:=zzx ((w.alloc (ur #[I O 13,J T.f,I Z T.h,I Z T.t,A p n c] 25)).alloc (ur #[I O 0,I O 0,I Z 0,J ⟨#[]⟩,I Z 0,I O 0,A U 0 0] 62));obtain⟨j,r,_⟩:=aw w (ur #[I O 13,J T.f,I Z T.h,I Z T.t,A p n c] 25) (ur #[I O 0,I O 0,I Z 0,J ⟨#[]⟩,I Z 0,I O 0,A U 0 0] 62);have s:Gc w w1:=by rw[i];exact ((Fl _ w).alloc (Fj _) _).alloc (by simp) _
 rw[←i]at j r;obtain⟨y,z,a⟩:=zz3 j r s;have t:=u.u s;obtain⟨Q,R⟩:=zz2 u.v (fun (x:Wb w1)=>sO vars T.f (A pV vars.length cV) _ x.1 (t.u x.2).v);obtain⟨nv,B⟩:=zzy (vars.length);have hm:=t.m;rw[B]at R hm N;obtain⟨S,L,W,X,e4⟩:=cells5 j;clear j r s u t B
 go_enter Tryz.func76,Tryz.ntmps76
 go_upto_region 6 with fail
 change Code.wp _ _ _ _ ((w.alloc (ur #[I O 13,J T.f,I Z T.h,I Z T.t,A p n c] 25)).alloc (ur #[I O 0,I O 0,I Z 0,J ⟨#[]⟩,I Z 0,I O 0,A U 0 0] 62));rw[show (w.alloc (ur #[I O 13,J T.f,I Z T.h,I Z T.t,A p n c] 25)).alloc (ur #[I O 0,I O 0,I Z 0,J ⟨#[]⟩,I Z 0,I O 0,A U 0 0] 62)=w1 from i.symm];clear i;have X1:=fun x:Wb w1=>x.b L
 have M2:=fun x:Wb w1=>x.b hm
 refine au (by kernel_rfl) (by kernel_rfl) ?_
 repeat (go_big_quiet_step ((go_at_call 140;exact Calls.b (R.o _))))
 refine wpQuiet_nil ?_;intro W2 C;have D:=a8 C;have b:=Hd D;clear C D X1 M2 R S L W X e4 hm;have E:=aa b.o y.o (Fi.1 y.o).1;have F:=Hd (aa b.o z.o (Fi.1 z.o).1);obtain⟨S,L,W,X,e4⟩:=cells5 E;clear E
 cases f:idxOf T.f vars with
 | some k =>
  rw[f]at K;rw[show bU (Y k)=(k:Int) from rfl];have al:¬(k:Int)<0:=by omega
  have l:=Hd (cg [(false,213)] 13 T.f T.h T.t (A p n c) W2.heap.size 1 1 (W2.alloc (ur #[xS false,I Z 213] 104)) V (by omega) (qv W2 _));have g:Hid (Gc w (W2.alloc (ur #[xS false,I Z 213] 104))):=(a.o.trans (b.o.mono a.o.size)).alloc (Fu a.o.size b.o.size) _;have G:Hid ((W2.alloc (ur #[xS false,I Z 213] 104)).heap[w.heap.size+1]?=_):=aa ((Fl W2.heap.size W2).alloc (Fj _) _) F.o (Fi.1 F.o).1;have H:I64 (k:Int):=by
   have aq:=(jd T.f vars 0 k f).2;have h2:=Rd.T Q.o;unfold maxLen at h2;unfold I64;omega
  have ad:=Hd H;clear f H;go_wp2_with fail
  refine l.o.mono ?_;rintro e w5 ⟨h,he⟩;have he:e=xv (AJ #[]):=he;subst he;have q:=aa h G.o (Fi.1 G.o).1;have af:=Hd (g.o.trans (h.mono g.o.size));have ak:=Hd (gV q (I O 2) (I O 0) (I Z 0) (J ⟨#[]⟩) (I Z (k:Int)) (I O 0) (A U 0 0));have HP:Hid (dR d (aB vars d T) w (xv (wD #[I O 2,I O 0,I Z 0,J ⟨#[]⟩,I Z (k:Int),I O 0,A U 0 0])) (st7 w5 (w.heap.size+1) 0 (I O 2) (I O 0) (I Z 0) (J ⟨#[]⟩) (I Z (k:Int)) (I O 0) (A U 0 0))):=by
   refine⟨mQ af.o (FN _) _ _ _ _ _ _ _,?_⟩;rw[K.o];refine⟨A U 0 0,V,⟨⟨by show (0:Int)≤2;decide,by show (2:Int)<256;decide⟩,⟨⟨by show (0:Int)≤0;decide,by show (0:Int)<256;decide⟩,⟨by show (-9223372036854775808:Int)≤0;decide,by show (0:Int)<9223372036854775808;decide⟩,FA _⟩,ad.o,⟨by show (0:Int)≤0;decide,by show (0:Int)<256;decide⟩⟩,?_⟩
   cases d with
   | zero=>exact⟨V,U,0,V⟩
   | succ d=>exact Or.inl ⟨V,U,0,V⟩
  obtain⟨c0,c1,c2,c3,c4,c5,c6⟩:=dF q;have f0:=ac q;clear q h l S L W X e4;go_wp2_with fail
  exact jH _ _ (w.heap.size+1) _ _ _ _ _ _ _ ak.o _ V HP.o
 | none =>
  rw[f]at K;clear f;rw[show bU U=(-1:Int) from rfl];have l:=Hd (cg [(true,213)] 13 T.f T.h T.t (A p n c) W2.heap.size 1 1 (W2.alloc (ur #[xS true,I Z 213] 104)) V (by omega) (qv W2 _));have g:Hid (Gc w (W2.alloc (ur #[xS true,I Z 213] 104))):=(a.o.trans (b.o.mono a.o.size)).alloc (Fu a.o.size b.o.size) _;go_wp2_with fail
  refine l.o.mono ?_;rintro e w5 ⟨h,he⟩;have he:e=aV 213 T.t:=he;subst he;refine⟨V,g.o.trans (h.mono g.o.size),?_⟩;rw[K.o];rfl
