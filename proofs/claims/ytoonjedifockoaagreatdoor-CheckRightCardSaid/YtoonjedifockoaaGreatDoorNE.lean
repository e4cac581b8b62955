/- Parts of one proof, joined; conditions stand in each theorem. -/
import Derived.Test.YtoonjedifockoaaGreatDoorND
import Derived.Maps.Own
import Derived.Maps.Views
namespace Go.Proofs.YtoonjedifockoaaGreatDoor
open Go.IntKind(i64)
open Go.Value(int string slice)
set_option maxHeartbeats 4000000
set_option maxRecDepth 100000
open Go.RowKit Go.Maps
def yS:List (List UInt8×Int):=[([111,114],10),([97,110,100],9),([60,61],8),([60],7),([33,61],6),([61],5),([42],3),([45],2),([43],1)]
def lv{H:Type}:List (List UInt8×Int)→DataW H
 | []=>.map []
 | p::r=>(lv r).put (.string p.1) (.lit (.int .u8 p.2))
def lM:List (List UInt8×Int)→List UInt8→Int
 | [],_=>0
 | p::r,t=>if t=p.1 then p.2 else lM r t
theorem tJ{H:Type}:∀l:List (List UInt8×Int),IsMap (lv (H:=H) l)
 | []=>⟨[],rfl⟩
 | p::r=>by
  obtain⟨es,h⟩:=tJ (H:=H) r;exact⟨_,by rw[lv,h];rfl⟩
theorem wG{H:Type}(t:List UInt8):∀l:List (List UInt8×Int),(lv (H:=H) l).atKey (.string t) (.lit (.int .u8 0))=.lit (.int .u8 (lM l t))
 | []=>rfl
 | p::r=>by
  by_cases h:t=p.1
  ·rw[lv,h,atKey_put_same (tJ r) (by trivial),lM,n9 rfl]
  ·rw[lv,atKey_put_other (fun e=>h (by injection e)),lM,n8 h,wG t r]
theorem tn:Keyed Tryz.prog 9:=string_keyed Tryz.underlying9
theorem eD{H:Type}{w:World}{b n:Nat}{l:List (List UInt8×Int)}(h:w.ownsMap Tryz.prog 9 (plainElem (H:=H) Tryz.prog 47) b n (lv l))(d:n<20)(k:ByteArray)(c:Int)(e:k.size<20)(a:(Lit.int .u8 c).wf=true) :
  ∃w',(Instr.mapUpdate 233 (.map (some b)) (.string k) (int .u8 c)).run Tryz.prog w=.ok () w'∧w'.ownsMap Tryz.prog 9 (plainElem (H:=H) Tryz.prog 47) b (n+1) (lv ((k.data.toList,c)::l))∧w.grownBy w' (some b):=
 h.update tn Tryz.underlying233 (by unfold maxLen;omega) (WideMaps.keyOf_string_mk Tryz.underlying9 (by unfold maxLen;omega)) (plainElem_int Tryz.underlying47 a)
theorem DV(w:World):(zeroValue 47).run Tryz.prog w=.ok (int .u8 0) w:=by kernel_rfl
theorem Cp(t:List UInt8)(h:t≠[62])(i:t≠[62,61]):opM t 2=(lM yS t,false):=by
 have j:(t==[62])=false:=by simpa using h
 have k:(t==[62,61])=false:=by simpa using i
 unfold opM;simp only[j,k];simp only[yS,lM]
 by_cases a:t=[43]
 ·subst a;rfl
 by_cases c2:t=[45]
 ·subst c2;rfl
 by_cases b:t=[42]
 ·subst b;rfl
 by_cases c4:t=[61]
 ·subst c4;rfl
 by_cases c:t=[33,61]
 ·subst c;rfl
 by_cases d:t=[60]
 ·subst d;rfl
 by_cases e:t=[60,61]
 ·subst e;rfl
 by_cases f:t=[97,110,100]
 ·subst f;rfl
 by_cases g:t=[111,114]
 ·subst g;rfl
 simp[a,c2,b,c4,c,d,e,f,g]
theorem DJ(t:ByteArray)(i:t.size≤maxLen)(w:World):Calls Tryz.prog 158 #[.string t] w fun e w'=>e=.returned (.tuple #[int .u8 (opM t.data.toList 2).1,.bool (opM t.data.toList 2).2])∧Ft w w':=by
 have k:=@run_makeMap Tryz.prog;have l:(w.alloc (.map #[] 0)).ownsMap Tryz.prog 9 (plainElem (H:=Unit) Tryz.prog 47) w.heap.size 0 (lv []):=World.ownsMap_made _ _ _ _;obtain⟨w1,F,m,g1⟩:=eD l (by omega) ⟨#[43]⟩ 1 (by decide) (by decide);obtain⟨G,r2,n,g2⟩:=eD m (by omega) ⟨#[45]⟩ 2 (by decide) (by decide);obtain⟨I,J,o,g3⟩:=eD n (by omega) ⟨#[42]⟩ 3 (by decide) (by decide);obtain⟨w4,r4,p,g4⟩:=eD o (by omega) ⟨#[61]⟩ 5 (by decide) (by decide);obtain⟨K,L,q,g5⟩:=eD p (by omega) ⟨#[33,61]⟩ 6 (by decide) (by decide);obtain⟨M,N,r,g6⟩:=eD q (by omega) ⟨#[60]⟩ 7 (by decide) (by decide);obtain⟨O,P,s,g7⟩:=eD r (by omega) ⟨#[60,61]⟩ 8 (by decide) (by decide);obtain⟨Q,R,u,g8⟩:=eD s (by omega) ⟨#[97,110,100]⟩ 9 (by decide) (by decide);obtain⟨f,S,v,g9⟩:=eD u (by omega) ⟨#[111,114]⟩ 10 (by decide) (by decide);obtain⟨c,T,d,x⟩:=v.lookup_int tn Tryz.underlying233 Tryz.underlying47 (DV f) (WideMaps.keyOf_string_mk Tryz.underlying9 i);have y:c=lM yS t.data.toList:=by
  have e:=wG (H:=Unit) t.data.toList yS;have z:=d.symm.trans e;injection z with A
  injection A
 have B:Ft w f:=by
  have C:Ft w (w.alloc (.map #[] 0)):=(EB _ _).alloc (EA _) _;have st:∀{a b:World},Ft w a→a.grownBy b (some w.heap.size)→Ft w b:=fun h g=>h.grown g h.size (fun j D=>by cases D;exact EA _)
  exact st (st (st (st (st (st (st (st (st C g1) g2) g3) g4) g5) g6) g7) g8) g9
 go_enter Tryz.func158,Tryz.ntmps158
 go_wp2
 ·have e:t.data.toList=[62]:=by rw[←EN];rename_i h;simpa using h
  rw[e];exact⟨rfl,_,results_tmp2 rfl _ _ _,rfl,EB _ _⟩
 ·have e:t.data.toList=[62,61]:=by rw[←EN];rename_i h;simpa using h
  rw[e];exact⟨rfl,_,results_tmp2 rfl _ _ _,rfl,EB _ _⟩
 ·have E:t.data.toList≠[62]:=by rw[←EN];rename_i h _;simpa using h
  have n2:t.data.toList≠[62,61]:=by rw[←EN];rename_i h;simpa using h
  rw[Cp _ E n2,←y];exact⟨rfl,_,results_tmp2 rfl _ _ _,rfl,B⟩
theorem Ak{E S:TypeId}{sz bytes:Nat}(m:Elem E S sz bytes){w:World}{ops:Array Oper}{rest:List Oper}{o:Oper}{a:Act}{Q:Exit→Act→World→Prop}(r:o.guard=none)(s x:Operand)
  (q:o.op=.call { callee:=.builtin .append,args:=#[s,x],argTypes:=#[S,S] }) {p:Option Addr} {n c g9:Nat} {xs z:List Value} (K:a.eval s=.slice p n c) (L:a.eval x=slice (some ⟨g9,0,none⟩) 1 1)
  (k:w.ownsRow 0 E sz (.slice p n c) n xs) (M:w.heap[g9]?=some (.cells z.toArray E (0,0))) (N:z.length=sz) (O:∀u∈z,u.oneCell'=true) (U:n≤100000)
  (h:∀g cap w',((slice p n c).ownBlock=some g∨w.heap.size≤g)→Chg (fun b=>(slice p n c).ownBlock=some b) w w'→w'.ownsRow 0 E sz (slice (some ⟨g,0,none⟩) (n+1) cap) (n+1) (xs++z)→
   wpList Tryz.prog ops Q rest (a.put o.dst (slice (some ⟨g,0,none⟩) (n+1) cap)) w'):wpList Tryz.prog ops Q (o::rest) a w:=by
 obtain⟨i0,P,t,v,y,A,B⟩:=m.info;have C:=m.small;have D:=m.pos;have f:∀j u,z[j]?=some u→w.cell? ((⟨g9,0,none⟩:Addr).add j)=some u:=fun j u R=>by
  have e:(⟨g9,0,none⟩:Addr).add j=⟨g9,j,none⟩:=by
   unfold Addr.add
   by_cases J:j=0
   ·subst J;rfl
   ·rw[n8 J];simp
  rw[e,Fq _ _ _ _ _ _ M]
  simpa using R
 have F:(n+1)*bytes≤140737488355328:=by
  have:=Nat.mul_le_mul (show n+1≤100001 by omega) C.2;omega
 refine ml w r s x S q 0 E i0 P sz bytes m.und t v y A B D (.slice p n c) n xs K k ⟨g9,0,none⟩ 1 1 z L (by omega) f O (by unfold maxLen;omega) F (EM _) (by decide) ?_;intro V w' d i;rcases i with ⟨g,cap,G,H,l⟩|⟨cap,G,H⟩
 ·subst H;have q:(slice p n c).ownBlock=some g:=by rw[G];rfl
  refine h g cap w' (Or.inl q) ?_ d;exact⟨l.os,l.tape,l.output,l.size,fun b T I=>l.block b T (fun e=>I (q.trans e.symm))⟩
 ·subst G;exact h _ cap w' (Or.inr (EA _)) (Chg.of_below H) d
theorem tq:Elem 50 48 7 80:=Elem.of (z:=.agg #[int .u8 0,int .u8 0,int i64 0,.string ByteArray.empty,int i64 0,int .u8 0,slice none 0 0]) Tryz.underlying48 (by kernel_rfl) (by kernel_rfl) (by decide) (by decide)
theorem aD.slice{w:World}{B:Nat}:∀{d:Nat} {a:List ac} {e:Value},aD w B d a e→∃p c,e=.slice p a.length c
 | 0,_,_,h=>by
  obtain⟨rfl,p,c,rfl⟩:=h;exact⟨p,c,rfl⟩
 | _+1,_,_,h=>by
  rcases h with ⟨rfl,p,c,rfl⟩|⟨b,off,cap,_,_,_,_,rfl,_⟩
  ·exact⟨p,c,rfl⟩
  ·exact⟨_,_,rfl⟩
def eC:Nat→ac→Prop
 | 0,T=>T.text.size≤72007
 | d+1,T=>T.text.size≤72007∧T.kids.length≤20000∧∀k∈T.kids,eC d k
theorem eC.text:∀{d:Nat} {T:ac},eC d T→T.text.size≤72007
 | 0,_,h=>h
 | _+1,_,h=>h.1
structure mH (M:Nat) (vars:List ByteArray) (vV:Value) (w:World):Prop where
 m:w.cell? ⟨M,2,none⟩=some vV
 lt:M<w.heap.size
 v:Rd.str.row w (fun b=>b<w.heap.size) vars vV
theorem mH.below{M:Nat}{vars:List ByteArray}{vV:Value}{w w':World}(h:mH M vars vV w)(b:Ft w w'):mH M vars vV w':=
 ⟨(b.cell (p:=⟨M,2,none⟩) h.lt).trans h.m,EF h.lt b.size,Rd.row_sub (fun _ a=>EF a b.size) (Rd.row_below h.v (fun _ a=>a) b)⟩
def bj(w w':World) (b:Nat):Prop:=w.heap.size≤b∧b<w'.heap.size
def dC(d:Nat) (r:Except Flt ag) (w:World) (e:Ending) (w':World):Prop:=Ft w w'∧match r with
 | .ok E=>∃s,e=.returned (.agg #[int .u8 E.kind,int .u8 E.val.kind,int i64 E.val.num,.string E.val.text,int i64 E.var,int .u8 E.op,s])∧ep E∧cu w' (bj w w') d E.kids s
 | .error er=>e=aJ er.1 er.2
def iV(d:Nat) (r:Except Flt (List ag)) (w:World) (e:Ending) (w':World):Prop:=Ft w w'∧match r with
 | .ok es=>∃v,e=.returned v∧aX w' (fun b=>bj w w' b∧v.ownBlock≠some b) 50 (ay d) es v∧∀g,v.ownBlock=some g→w.heap.size≤g
 | .error er=>e=aJ er.1 er.2
theorem yy{α β:Type}{f:α→Except Flt β}{l:List α}{k:Nat}{a:List β}{x:α}(b:l[k]?=some x)(h:dl f (l.take k)=.ok a):dl f (l.take (k+1))=match f x with | .error e=>.error e | .ok y=>.ok (a++[y]):=fL b h
theorem xy{α β:Type}{f:α→Except Flt β}{l:List α}{k:Nat}{e:Flt}(h:dl f (l.take k)=.error e):dl f l=.error e:=by
 unfold dl at *
 conv=>lhs;rw[←List.take_append_drop k l]
 rw[iP,h]
theorem Chg.to_below{F:Nat→Prop}{B:Nat}{w w1 c:World}(h:Below B w w1)(a:Chg F w1 c)(hF:∀b,F b→B≤b)(hB:B≤w1.heap.size):Below B w c:=
 h.trans ⟨a.os,a.tape,a.output,a.size,fun b e=>a.block b (by omega) (fun d=>by have:=hF b d;omega)⟩
theorem yR{d:Nat}{w wr v W2 f m:World}{es:List ag}{E:ag}{p:Option Addr}{k c g cap:Nat}{s:Value}{us:List Value}(I:es.length=k)
  (x:Ft w wr) (J:wr.heap.size≤v.heap.size) (j:Ft wr f) (i:Ft W2 f)
  (K:(ay d).cells wr (fun b=>bj w wr b∧(slice p k c).ownBlock≠some b) es us) (n:wr.ownsRow 0 50 7 (.slice p k c) k us) (q:∀g,(slice p k c).ownBlock=some g→w.heap.size≤g)
  (r:ep E) (y:cu W2 (bj v W2) d E.kids s)
  (G:(slice p k c).ownBlock=some g∨f.heap.size≤g) (z:Chg (fun b=>(slice p k c).ownBlock=some b) f m) (t:m.ownsRow 0 50 7 (slice (some ⟨g,0,none⟩) (k+1) cap) (k+1) (us++bF E s)) :
  Ft w m∧aX m (fun b=>bj w m b∧(slice (some ⟨g,0,none⟩) (k+1) cap).ownBlock≠some b) 50 (ay d) (es++[E]) (slice (some ⟨g,0,none⟩) (k+1) cap)∧∀a,(slice (some ⟨g,0,none⟩) (k+1) cap).ownBlock=some a→w.heap.size≤a:=by
 have L:=i.size;have M:=z.size;have l:Ft w f:=x.trans (j.mono x.size);have N:(ay d).at_ W2 (bj v W2) E (bF E s):=bZ.2 ⟨r,s,rfl,y⟩;have A:∀a,(slice p k c).ownBlock=some a→a<wr.heap.size:=fun a h=>(gy n a h).2
 let F:Nat→Prop:=fun b=>(bj w wr b∧(slice p k c).ownBlock≠some b)∨bj v W2 b
 have hF:∀b,F b→w.heap.size≤b∧b<f.heap.size∧(slice p k c).ownBlock≠some b:=by
  rintro b (⟨⟨H,O⟩,P⟩|⟨H,O⟩)
  ·exact⟨H,by have:=j.size;omega,P⟩
  ·exact⟨by have:=x.size;omega,by omega,fun e=>by have:=A b e;omega⟩
 have B:(ay d).cells f F es us:=Rd.cells_sub (fun b h=>Or.inl h) (Rd.cells_keep (fun b h o u=>(j.block b h.1.2).trans u) K);have C:(ay d).at_ f F E (bF E s):=(ay d).sub (fun b h=>Or.inr h) ((ay d).keep (fun b h o u=>(i.block b h.2).trans u) N);have D:(ay d).cells m F (es++[E]) (us++bF E s):=Rd.cells_keep (fun b h o u=>(z.block b (hF b h).2.1 (hF b h).2.2).trans u) (Rd.cells_snoc B C);refine⟨Chg.to_below l z (fun b h=>q b h) l.size,⟨us++bF E s,?_,Rd.cells_sub (fun b h=>⟨⟨(hF b h).1,by have:=(hF b h).2.1;omega⟩,fun e=>?_⟩) D⟩,fun a e=>?_⟩
 ·rw[cB,EO,I];exact t
 ·injection e with e
  have e:g=b:=e;subst e;rcases G with h|h
  ·exact (hF g (by assumption)).2.2 h
  ·have:=(hF g (by assumption)).2.1;omega
 ·injection e with e
  have e:g=a:=e;subst e;rcases G with h|h
  ·exact q g h
  ·have:=l.size;omega
def uD(w:World) (d:Nat) (f:ac→Except Flt ag) (Ts:List ac) (n:Nat) (v i:Value) (W:World):Prop:=
 ∃k es,k≤n∧i=int i64 (k:Int)∧dl f (Ts.take k)=.ok es∧es.length=k∧Ft w W∧aX W (fun b=>bj w W b∧v.ownBlock≠some b) 50 (ay d) es v∧∀g,v.ownBlock=some g→w.heap.size≤g
theorem mQ(d M:Nat)(vars:List ByteArray)(vV:Value)(f:ac→Except Flt ag)(Ts:List ac)(U:Value)(w:World)(hv:mH M vars vV w)(l:aD w w.heap.size (d+1) Ts U)(V:Ts.length≤20000)
  (y:∀T∈Ts,∀(s:Value) (W:World),mH M vars vV W→Fits T→aD W W.heap.size d T.kids s→Calls Tryz.prog 113 #[.pointer (some ⟨M,0,none⟩),.agg #[int .u8 T.kind,.string T.text,int i64 T.num,int i64 T.place,s]] W (dC d (f T) W)) :
  Calls Tryz.prog 114 #[.pointer (some ⟨M,0,none⟩),U] w (iV d (dl f Ts) w):=by
 obtain⟨n,G⟩:=zzy (Ts.length);obtain⟨p,c,X⟩:∃p c,U=.slice p n c:=by
  rcases l with ⟨rfl,sp,cap,rfl⟩|⟨b,off,cap,h1,h2,h3,h4,rfl,Y⟩
  ·exact⟨sp,cap,by rw[←G];rfl⟩
  ·exact⟨_,_,by rw[G]⟩
 subst X;have HK:=Hd l;have HV:=Hd hv;have HO:=Hd y;rw[G]at V;have Z:=Hd G;clear l hv y G
 go_enter Tryz.func114,Tryz.ntmps114
 go_wp2
 go_loopw [5,10] (uD w d f Ts n) (fun _ i _=>n-(intOf i).toNat)
 case atStart=>exact⟨0,[],EM _,rfl,rfl,rfl,EB _ _,aX.nil,fun g h=>by cases h⟩
 case round =>
  obtain⟨k,es,hk,rfl,hl,C,hb,m,H⟩:=hrel;obtain⟨p5,c5,I⟩:=m.shape;rw[C]at I;subst I;have a6:(0:Int)≤k:=by omega
  have A:=Hd hb;have HL:=Hd hl;have HE:=Hd C;have HG:=Hd H;have HR:=Hd m;clear hb hl C H m
  by_cases ad:k<n
  ·have a7:(k:Int)<n:=by omega
   obtain⟨T,J⟩:∃T,Ts[k]?=some T:=⟨_,EE (by rw[Z.o];exact ad)⟩;have l:=HK.o.below A.o;rcases l with ⟨rfl,_⟩|⟨b,off,cap,h1,h2,h3,h4,he,Y⟩
   ·simp at J
   rw[Z.o]at he;injection he with e1 _ e3
   subst e1;subst e3;obtain⟨q,s,c0,c1,c2,c3,c4,D⟩:=Y k T J;obtain⟨S,cs,rfl⟩:=D.slice;have HF:=Hd q;have K:=Hd (yy J HL.o);have r:Ft wr (wr.alloc (.cells #[int .u8 T.kind,.string T.text,int i64 T.num,int i64 T.place,.slice S T.kids.length cs] 76)):=(EB _ wr).alloc (EA _) _;have HA:=Hd r;have HC:=Hd (HO.o T (EU J) (.slice S T.kids.length cs) (wr.alloc (.cells #[int .u8 T.kind,.string T.text,int i64 T.num,int i64 T.place,.slice S T.kids.length cs] 76)) ((HV.o.below A.o).below r) q ((D.below (r.mono A.o.size)).up (EG A.o.size r.size)));have af:=n7 wr (.cells #[int .u8 T.kind,.string T.text,int i64 T.num,int i64 T.place,.slice S T.kids.length cs] 76);clear q D Y h1 h2 h3 h4 r J;go_wp2_with fail
   refine HC.o.mono ?_;rintro e W2 ⟨L,he⟩;have t:=Hd (HA.o.trans (L.mono HA.o.size));clear L c0 c1 c2 c3 c4 af
   cases N:f T with
   | error er =>
    rw[N]at he;have he:e=aJ er.1 er.2:=he;subst he;have HX:Hid (dl f Ts=.error er):=xy (k:=k+1) (by rw[K.o,N]);refine⟨rfl,A.o.trans (t.o.mono A.o.size),?_⟩;rw[HX.o];rfl
   | ok E =>
    rw[N]at he;obtain⟨s2,rfl,u,F⟩:=he;have ak:Hid (dl f (Ts.take (k+1))=.ok (es++[E])):=by show _=_;rw[K.o,N]
    have an:=Hd u;have aq:=Hd F;obtain⟨us,a,j⟩:=HR.o;rw[HE.o,cB]at a;have ar:=Hd j;have v:Ft W2 (W2.alloc (.cells #[int .u8 E.kind,int .u8 E.val.kind,int i64 E.val.num,.string E.val.text,int i64 E.var,int .u8 E.op,s2] 50)):=(EB _ W2).alloc (EA _) _;have B:=Hd v;have av:=Hd a;have a1:=Hd (iT a (t.o.trans (v.mono t.o.size)));obtain⟨pe,ce,O⟩:=aI F;clear u F N a j v;subst O;go_wp2_with (at_builtin;go_must (refine Ak tq rfl (.tmp 14) (.tmp 18) rfl (p:=p5) (n:=k) (c:=c5) (z:=bF E (.slice pe E.kids.length ce)) rfl rfl a1.o (n7 W2 _) rfl (by simp[Value.oneCell',bF]) (by omega) ?_);intro g cap W4 hg hC x)
    obtain⟨P,Q,R⟩:=yR HE.o A.o HA.o.size (t.o.trans (B.o.mono t.o.size)) B.o ar.o av.o HG.o an.o aq.o hg hC x;have HP:Hid (uD w d f Ts n (slice (some ⟨g,0,none⟩) (k+1) cap) (int i64 ((k+1:Nat):Int)) W4):=⟨k+1,es++[E],by omega,rfl,ak.o,by rw[EO,HE.o];rfl,P,Q,R⟩;clear hg hC x P Q R;go_wp2_with fail
    refine⟨HP.o,?_⟩;simp[intOf];omega
  ·have HX:Hid (dl f Ts=.ok es):=by
    show _=_
    rw[←HL.o,ER (by rw[Z.o];omega)]
   go_wp2_with fail
   go_ret;refine⟨A.o,?_⟩;rw[HX.o];exact⟨_,rfl,HR.o,HG.o⟩
def st7(W:World) (g o:Nat) (a b c d e f h:Value):World:=((((((W.setCell ⟨g,o+0,none⟩ a).setCell ⟨g,o+1,none⟩ b).setCell ⟨g,o+2,none⟩ c).setCell ⟨g,o+3,none⟩ d).setCell ⟨g,o+4,none⟩ e).setCell ⟨g,o+5,none⟩ f).setCell ⟨g,o+6,none⟩ h
theorem AG(a b:ag)(h j:Option Addr)(k n2 l c2 g cap:Nat)(cur:Array Value)(w:World)(n:w.heap[g]?=some (.cells cur 50 (0,0)))
  (c:∀i u,(bF a (.slice h k l))[i]?=some u→w.cell? ⟨g,i,none⟩=some u) (d:∀i u,(bF b (.slice j n2 c2))[i]?=some u→w.cell? ⟨g,7+i,none⟩=some u) :
  Calls Tryz.prog 159 #[slice (some ⟨g,0,none⟩) 2 cap] w fun e w'=>e=.returned (.tuple #[])∧w'=(st7 (st7 w g 0 (int .u8 b.kind) (int .u8 b.val.kind) (int i64 b.val.num) (.string b.val.text) (int i64 b.var) (int .u8 b.op) (.slice j n2 c2)) g 7 (int .u8 a.kind) (int .u8 a.val.kind) (int i64 a.val.num) (.string a.val.text) (int i64 a.var) (int .u8 a.op) (.slice h k l)).drew:=by
 have a0:=c 0 _ rfl;have a1:=c 1 _ rfl;have a2:=c 2 _ rfl;have a3:=c 3 _ rfl;have a4:=c 4 _ rfl;have a5:=c 5 _ rfl;have q:=c 6 _ rfl;have r:w.cell? ⟨g,7,none⟩=_:=d 0 _ rfl;have s:w.cell? ⟨g,8,none⟩=_:=d 1 _ rfl;have t:w.cell? ⟨g,9,none⟩=_:=d 2 _ rfl;have v:w.cell? ⟨g,10,none⟩=_:=d 3 _ rfl;have x:w.cell? ⟨g,11,none⟩=_:=d 4 _ rfl;have y:w.cell? ⟨g,12,none⟩=_:=d 5 _ rfl;have z:w.cell? ⟨g,13,none⟩=_:=d 6 _ rfl;have f0:=ao n;clear c d n
 go_enter Tryz.func159,Tryz.ntmps159
 go_wp2_with fail
 refine wp_loop_rounds 2 ?_;rw[rounds_succ];go_wp2_with fail
 go_region
 go_wp2_with fail
 clear a0 a1 a2 a3 a4 a5 q r s t v x y z f0;obtain⟨p,f⟩:=zzx ((st7 (st7 w g 0 (int .u8 b.kind) (int .u8 b.val.kind) (int i64 b.val.num) (.string b.val.text) (int i64 b.var) (int .u8 b.op) (.slice j n2 c2)) g 7 (int .u8 a.kind) (int .u8 a.val.kind) (int i64 a.val.num) (.string a.val.text) (int i64 a.var) (int .u8 a.op) (.slice h k l)).drew);change Code.rounds _ _ _ _ _ (st7 (st7 w g 0 (int .u8 b.kind) (int .u8 b.val.kind) (int i64 b.val.num) (.string b.val.text) (int i64 b.var) (int .u8 b.op) (.slice j n2 c2)) g 7 (int .u8 a.kind) (int .u8 a.val.kind) (int i64 a.val.num) (.string a.val.text) (int i64 a.var) (int .u8 a.op) (.slice h k l)).drew;rw[←f];have m:=Hd f;clear f;rw[rounds_succ];go_wp2_with fail
 go_end0
 exact⟨rfl,m.o⟩
theorem gm{w:World}{g:Nat}{l:List Value}{t:TypeId}(h:w.heap[g]?=some (.cells l.toArray t (0,0)))(i:Nat)(u:Value):(w.setCell ⟨g,i,none⟩ u).heap[g]?=some (.cells (l.set i u).toArray t (0,0)):=by rw[heap_set h i u,EC]
theorem oC{W:World}{g o:Nat}{l:List Value}{t:TypeId}(i:W.heap[g]?=some (.cells l.toArray t (0,0)))(a b c d e f h:Value) :
  (st7 W g o a b c d e f h).heap[g]?=some (.cells (((((((l.set (o+0) a).set (o+1) b).set (o+2) c).set (o+3) d).set (o+4) e).set (o+5) f).set (o+6) h).toArray t (0,0)):=by
 unfold st7;exact gm (gm (gm (gm (gm (gm (gm i _ _) _ _) _ _) _ _) _ _) _ _) _ _
theorem DX{W:World}{g:Nat}{h i rest:List Value}{t:TypeId}(p:W.heap[g]?=some (.cells (h++i++rest).toArray t (0,0)))(q:h.length=7)(r:i.length=7)(a b c d e f u j b' k d' l m n:Value) :
  (st7 (st7 W g 0 a b c d e f u) g 7 j b' k d' l m n).drew.heap[g]?=some (.cells ([a,b,c,d,e,f,u]++[j,b',k,d',l,m,n]++rest).toArray t (0,0)):=by
 have s:=oC (o:=7) (oC (o:=0) p a b c d e f u) j b' k d' l m n;have v:∀X:World,X.drew.heap=X.heap:=fun _=>rfl
 rw[v,s]
 match h,q,i,r with
 | [_,_,_,_,_,_,_],_,[_,_,_,_,_,_,_],_=>simp[List.set_cons_succ,List.set_cons_zero]
theorem qF{W:World}{g o:Nat}(a b c d e f h:Value):Chg (fun x=>x=g) W (st7 W g o a b c d e f h):=by
 have step:∀{V:World},Chg (fun x=>x=g) W V→∀(i:Nat) (u:Value),Chg (fun x=>x=g) W (V.setCell ⟨g,i,none⟩ u):=fun j i u=>j.setCell (p:=⟨g,i,none⟩) (Or.inl rfl) u
 unfold st7;exact step (step (step (step (step (step (step (Chg.refl _ W) _ a) _ b) _ c) _ d) _ e) _ f) _ h
theorem BC{W:World}{A B rest:List Value}{g cap:Nat}(a:A.length=7)(hB:B.length=7)(h:W.heap[g]?=some (.cells (A++B++rest).toArray 50 (0,0)))(b:2≤cap)(c:cap≤maxLen)(d:(A++B++rest).length=cap*7) :
  W.ownsRow 0 50 7 (slice (some ⟨g,0,none⟩) 2 cap) 2 (A++B):=
 ⟨by rw[EO,a,hB],Or.inr ⟨g,cap,_,rfl,EM _,h,b,c,by rw[List.size_toArray];exact d,List.take_left' (by rw[EO,a,hB])⟩⟩
theorem CG(a b:ag)(c j:Option Addr)(d n2 f c2 g cap:Nat)(w:World)(k:w.ownsRow 0 50 7 (slice (some ⟨g,0,none⟩) 2 cap) 2 (bF a (.slice c d f)++bF b (.slice j n2 c2))) :
  Calls Tryz.prog 159 #[slice (some ⟨g,0,none⟩) 2 cap] w fun e w'=>e=.returned (.tuple #[])∧Chg (fun x=>x=g) w w'∧w'.ownsRow 0 50 7 (slice (some ⟨g,0,none⟩) 2 cap) 2 (bF b (.slice j n2 c2)++bF a (.slice c d f)):=by
 obtain⟨_,⟨h,_⟩|⟨B,q,cur,h,_,m,s,t,v,y⟩⟩:=k
 ·cases h
 injection h with l _ z
 injection l with l
 injection l with l
 subst l;subst z;obtain⟨rest,A⟩:∃rest,cur=(bF a (.slice c d f)++bF b (.slice j n2 c2)++rest).toArray:=⟨cur.toList.drop (2*7),by rw[←y,List.take_append_drop]⟩;subst A;refine (AG a b c j d n2 f c2 g cap _ w m (fun i u hu=>?_) (fun i u hu=>?_)).mono ?_
 ·rw[Fq _ _ _ _ _ _ m];have r:i<7:=(EP.1 hu).1;rw[List.getElem?_toArray,List.append_assoc,Fi (by exact r)];exact hu
 ·rw[Fq _ _ _ _ _ _ m];have r:i<7:=(EP.1 hu).1;rw[List.getElem?_toArray,List.append_assoc,EZ (by show 7≤7+i;omega),Fi (by show 7+i-7<7;omega)];have e:7+i-(bF a (.slice c d f)).length=i:=by show 7+i-7=i;omega
  rw[e];exact hu
 ·rintro e w' ⟨rfl,rfl⟩;have n:(st7 (st7 w g 0 (int .u8 b.kind) (int .u8 b.val.kind) (int i64 b.val.num) (.string b.val.text) (int i64 b.var) (int .u8 b.op) (.slice j n2 c2)) g 7 (int .u8 a.kind) (int .u8 a.val.kind) (int i64 a.val.num) (.string a.val.text) (int i64 a.var) (int .u8 a.op) (.slice c d f)).drew.heap[g]?=some (.cells (bF b (.slice j n2 c2)++bF a (.slice c d f)++rest).toArray 50 (0,0)):=
   DX m rfl rfl (int .u8 b.kind) (int .u8 b.val.kind) (int i64 b.val.num) (.string b.val.text) (int i64 b.var) (int .u8 b.op) (.slice j n2 c2) (int .u8 a.kind) (int .u8 a.val.kind) (int i64 a.val.num) (.string a.val.text) (int i64 a.var) (int .u8 a.op) (.slice c d f)
  have p:=((qF (W:=w) (g:=g) (o:=0) (int .u8 b.kind) (int .u8 b.val.kind) (int i64 b.val.num) (.string b.val.text) (int i64 b.var) (int .u8 b.op) (.slice j n2 c2)).trans (qF (g:=g) (o:=7) (int .u8 a.kind) (int .u8 a.val.kind) (int i64 a.val.num) (.string a.val.text) (int i64 a.var) (int .u8 a.op) (.slice c d f))).trans (Chg.of_below ((EB _ _).drew));exact⟨rfl,p,BC rfl rfl n s t (by rw[←v];rfl)⟩
theorem cD{w:World}{T:Nat}{a b c d e f h:Value}{t:TypeId}(g:w.heap[T]?=some (.cells #[a,b,c,d,e,f,h] t (0,0))) :
  w.cell? ⟨T,0,none⟩=some a∧w.cell? ⟨T,1,none⟩=some b∧w.cell? ⟨T,2,none⟩=some c∧w.cell? ⟨T,3,none⟩=some d∧w.cell? ⟨T,4,none⟩=some e∧w.cell? ⟨T,5,none⟩=some f∧w.cell? ⟨T,6,none⟩=some h:=by
 simp[World.cell?,g]
theorem jU{W:World}{g:Nat}{i j x2 x3 x4 x5 x6:Value}{t:TypeId}(k:W.heap[g]?=some (.cells #[i,j,x2,x3,x4,x5,x6] t (0,0)))(a b c d e f h:Value):(st7 W g 0 a b c d e f h).heap[g]?=some (.cells #[a,b,c,d,e,f,h] t (0,0)):=by
 have m:=oC (o:=0) (l:=[i,j,x2,x3,x4,x5,x6]) k a b c d e f h;rw[m];simp
theorem iY(W:World)(i:Ending→World→Prop)(T:Nat)(a b c d e f h:Value)(j:W.heap[T]?=some (.cells #[a,b,c,d,e,f,h] 50 (0,0)))
  (tmps:Array Value) (k:tmps.getD 4 undef=.pointer (some ⟨T,0,none⟩)) (l:i (.returned (.agg #[a,b,c,d,e,f,h])) W):bodyPost Tryz.prog Tryz.f113 i .ret ⟨tmps,[]⟩ W:=by
 obtain⟨m,n,c2,o,c4,p,q⟩:=cD j;have g:tmps[4]?.getD undef=.pointer (some ⟨T,0,none⟩):=by simpa using k
 refine bodyPost_ret (v:=.agg #[a,b,c,d,e,f,h]) ?_ rfl l;simp[results,Tryz.results113,go_sem,g,m,n,c2,o,c4,p,q]
theorem DC(t:ByteArray):I64 (lC t):=by
 have h:=rI (strip t.data.toList);unfold lr at h;unfold lC I64;dsimp only
 split<;>omega
theorem qo(T:ac)(c:T.text.size≤72007):kX (bC T):=by
 have a:U8 2:=⟨by decide,by decide⟩;have b:U8 1:=⟨by decide,by decide⟩;have i0:I64 0:=⟨by decide,by decide⟩;unfold bC
 split
 ·exact⟨a,i0,by show T.text.size≤maxLen;unfold maxLen;omega⟩
 ·exact⟨b,DC _,EM _⟩
theorem Eh(t:List UInt8)(k:Nat):U8 (opM t k).1:=by
 have h:∀(b:Bool) (x y:Int×Bool),U8 x.1→U8 y.1→U8 (if b then x else y).1:=fun b x y c d=>by cases b;exact d;exact c
 have a:∀(n:Nat) (b:Bool),n<20→U8 ((n:Int),b).1:=fun n b e=>⟨by show (0:Int)≤n;omega,by show (n:Int)<256;omega⟩
 unfold opM;refine h _ _ _ (h _ _ _ (a 7 _ (by decide)) (h _ _ _ (a 8 _ (by decide)) (h _ _ _ (a 1 _ (by decide)) (h _ _ _ (a 2 _ (by decide)) (h _ _ _ (a 3 _ (by decide)) (h _ _ _ (a 5 _ (by decide)) (h _ _ _ (a 6 _ (by decide)) (h _ _ _ (a 7 _ (by decide)) (h _ _ _ (a 8 _ (by decide)) (h _ _ _ (a 9 _ (by decide)) (h _ _ _ (a 10 _ (by decide)) (a 0 _ (by decide))))))))))))) (h _ _ _ (a 4 _ (by decide)) (a 11 _ (by decide)))
theorem l8{B:Nat}{w W:World}{g:Nat}(j:Below B w W)(i:B≤g)(a b c d e f h:Value):Below B w (st7 W g 0 a b c d e f h):=by
 unfold st7;exact ((((((j.setCell i a).setCell i b).setCell i c).setCell i d).setCell i e).setCell i f).setCell i h
theorem pu(d M:Nat)(vars:List ByteArray)(T:ac)(p:Option Addr)(n c:Nat)(w:World)(i:T.kind=14∨T.kind=15)(r:T.text.size≤72007) :
  Calls Tryz.prog 113 #[.pointer (some ⟨M,0,none⟩),.agg #[int .u8 T.kind,.string T.text,int i64 T.num,int i64 T.place,.slice p n c]] w (dC d (bD vars d T) w):=by
 have t:Hid (bD vars d T=.ok (.mk 1 (bC T) 0 0 [])):=by
  show _=_
  cases d<;>(unfold bD;rcases i with h|h<;>rw[h]<;>rfl)
 obtain⟨l,j,_⟩:=am w (.cells #[int .u8 T.kind,.string T.text,int i64 T.num,int i64 T.place,.slice p n c] 76) (.cells #[int .u8 0,int .u8 0,int i64 0,string ⟨#[]⟩,int i64 0,int .u8 0,slice none 0 0] 50);have k:Ft w ((w.alloc (.cells #[int .u8 T.kind,.string T.text,int i64 T.num,int i64 T.place,.slice p n c] 76)).alloc (.cells #[int .u8 0,int .u8 0,int i64 0,string ⟨#[]⟩,int i64 0,int .u8 0,slice none 0 0] 50)):=((EB _ w).alloc (EA _) _).alloc (by simp) _;have s:Hid (Calls Tryz.prog 157 #[.agg #[int .u8 T.kind,.string T.text,int i64 T.num,int i64 T.place,.slice p n c]] ((w.alloc (.cells #[int .u8 T.kind,.string T.text,int i64 T.num,int i64 T.place,.slice p n c] 76)).alloc (.cells #[int .u8 0,int .u8 0,int i64 0,string ⟨#[]⟩,int i64 0,int .u8 0,slice none 0 0] 50)) fun e w'=>e=.returned (.agg #[int .u8 (bC T).kind,int i64 (bC T).num,.string (bC T).text])∧Below ((w.alloc (.cells #[int .u8 T.kind,.string T.text,int i64 T.num,int i64 T.place,.slice p n c] 76)).alloc (.cells #[int .u8 0,int .u8 0,int i64 0,string ⟨#[]⟩,int i64 0,int .u8 0,slice none 0 0] 50)).heap.size ((w.alloc (.cells #[int .u8 T.kind,.string T.text,int i64 T.num,int i64 T.place,.slice p n c] 76)).alloc (.cells #[int .u8 0,int .u8 0,int i64 0,string ⟨#[]⟩,int i64 0,int .u8 0,slice none 0 0] 50)) w'):=qY T (.slice p n c) _ i r;have b:=Hd j;have f:=Hd k;have u:=Hd (qo T r);clear l j k;rcases i with i|i
 all_goals
  rw[i]at s b f ⊢
  go_enter Tryz.func113,Tryz.ntmps113
  go_wp2_with fail
  refine s.o.mono ?_;rintro e v ⟨rfl,g⟩;have a:=aa g b.o (Ez.1 b.o).1;have m:=Hd (f.o.trans (g.mono f.o.size));have q:=Hd (jU a (int .u8 1) (int .u8 (bC T).kind) (int i64 (bC T).num) (.string (bC T).text) (int i64 0) (int .u8 0) (slice none 0 0));have x:Hid (dC d (bD vars d T) w (.returned (.agg #[int .u8 1,int .u8 (bC T).kind,int i64 (bC T).num,.string (bC T).text,int i64 0,int .u8 0,slice none 0 0])) (st7 v (w.heap.size+1) 0 (int .u8 1) (int .u8 (bC T).kind) (int i64 (bC T).num) (.string (bC T).text) (int i64 0) (int .u8 0) (slice none 0 0))):=by
   refine⟨l8 m.o (EV _) _ _ _ _ _ _ _,?_⟩;rw[t.o];refine⟨slice none 0 0,rfl,⟨⟨by show (0:Int)≤1;decide,by show (1:Int)<256;decide⟩,u.o,⟨by show (-9223372036854775808:Int)≤0;decide,by show (0:Int)<9223372036854775808;decide⟩,⟨by show (0:Int)≤0;decide,by show (0:Int)<256;decide⟩⟩,?_⟩
   cases d with
   | zero=>exact⟨rfl,none,0,rfl⟩
   | succ d=>exact Or.inl ⟨rfl,none,0,rfl⟩
  obtain⟨y,z,c2,A,c4,B,C⟩:=cD a;have f0:=ab a;clear a g;go_wp2_with fail
  exact iY _ _ (w.heap.size+1) _ _ _ _ _ _ _ q.o _ rfl x.o
theorem uF(d M:Nat)(vars:List ByteArray)(vV:Value)(T:ac)(p:Option Addr)(n c:Nat)(w:World)(u:mH M vars vV w)(W:T.kind=13) :
  Calls Tryz.prog 113 #[.pointer (some ⟨M,0,none⟩),.agg #[int .u8 T.kind,.string T.text,int i64 T.num,int i64 T.place,.slice p n c]] w (dC d (bD vars d T) w):=by
 have H:Hid (bD vars d T=match idxOf T.text vars with|some k=>.ok (.mk 2 .zero k 0 [])|none=>.error (213,T.place)):=by
  show _=_
  cases d<;>(unfold bD;rw[W];rfl)
 rw[W];have J:=Rd.row_len u.v;obtain⟨Y,Z,K⟩:=Rd.row_shape u.v;subst K;obtain⟨w1,i⟩:=zzx ((w.alloc (.cells #[int .u8 13,.string T.text,int i64 T.num,int i64 T.place,.slice p n c] 76)).alloc (.cells #[int .u8 0,int .u8 0,int i64 0,string ⟨#[]⟩,int i64 0,int .u8 0,slice none 0 0] 50));obtain⟨j,r,_⟩:=am w (.cells #[int .u8 13,.string T.text,int i64 T.num,int i64 T.place,.slice p n c] 76) (.cells #[int .u8 0,int .u8 0,int i64 0,string ⟨#[]⟩,int i64 0,int .u8 0,slice none 0 0] 50);have s:Ft w w1:=by rw[i];exact ((EB _ w).alloc (EA _) _).alloc (by simp) _
 rw[←i]at j r;have y:=Hd j;have z:=Hd r;have a:=Hd s;have t:=u.below s;have L:=Hd u.v;have N:=Hd (fun (x:Wb w1)=>rN vars T.text (.slice Y vars.length Z) _ x.1 (t.below x.2).v);obtain⟨nv,A⟩:=zzy (vars.length);have hm:=t.m;rw[A]at N hm J;obtain⟨O,I,P,Q,R⟩:=cells5 j;clear j r s u t A
 go_enter Tryz.func113,Tryz.ntmps113
 go_upto_region 6 with fail
 change Code.wp _ _ _ _ ((w.alloc (.cells #[int .u8 13,.string T.text,int i64 T.num,int i64 T.place,.slice p n c] 76)).alloc (.cells #[int .u8 0,int .u8 0,int i64 0,string ⟨#[]⟩,int i64 0,int .u8 0,slice none 0 0] 50));rw[show (w.alloc (.cells #[int .u8 13,.string T.text,int i64 T.num,int i64 T.place,.slice p n c] 76)).alloc (.cells #[int .u8 0,int .u8 0,int i64 0,string ⟨#[]⟩,int i64 0,int .u8 0,slice none 0 0] 50)=w1 from i.symm];clear i;have X1:=fun x:Wb w1=>x.cell I
 have M2:=fun x:Wb w1=>x.cell hm
 refine ae (by kernel_rfl) (by kernel_rfl) ?_
 repeat (go_big_quiet_step ((go_at_call 156;exact Calls.below_of (N.o _))))
 refine wpQuiet_nil ?_;intro W2 B;have C:=az B;have b:=Hd C;clear B C X1 M2 N O I P Q R hm;have D:=aa b.o y.o (Ez.1 y.o).1;have E:=Hd (aa b.o z.o (Ez.1 z.o).1);obtain⟨O,I,P,Q,R⟩:=cells5 D;clear D
 cases f:idxOf T.text vars with
 | some k =>
  rw[f]at H;rw[show dR (some k)=(k:Int) from rfl];have ad:¬(k:Int)<0:=by omega
  have l:=Hd (bV [(false,213)] 13 T.text T.num T.place (.slice p n c) W2.heap.size 1 1 (W2.alloc (.cells #[.bool false,int i64 213] 149)) rfl (by omega) (n7 W2 _));have g:Hid (Ft w (W2.alloc (.cells #[.bool false,int i64 213] 149))):=(a.o.trans (b.o.mono a.o.size)).alloc (EG a.o.size b.o.size) _;have F:Hid ((W2.alloc (.cells #[.bool false,int i64 213] 149)).heap[w.heap.size+1]?=_):=aa ((EB W2.heap.size W2).alloc (EA _) _) E.o (Ez.1 E.o).1;have G:I64 (k:Int):=by
   have af:=(kl T.text vars 0 k f).2;have h2:=Rd.row_len L.o;unfold maxLen at h2;unfold I64;omega
  have S:=Hd G;clear f G;go_wp2_with fail
  refine l.o.mono ?_;rintro e X ⟨h,he⟩;have he:e=.returned (.tuple #[]):=he;subst he;have q:=aa h F.o (Ez.1 F.o).1;have U:=Hd (g.o.trans (h.mono g.o.size));have V:=Hd (jU q (int .u8 2) (int .u8 0) (int i64 0) (string ⟨#[]⟩) (int i64 (k:Int)) (int .u8 0) (slice none 0 0));have HP:Hid (dC d (bD vars d T) w (.returned (.agg #[int .u8 2,int .u8 0,int i64 0,string ⟨#[]⟩,int i64 (k:Int),int .u8 0,slice none 0 0])) (st7 X (w.heap.size+1) 0 (int .u8 2) (int .u8 0) (int i64 0) (string ⟨#[]⟩) (int i64 (k:Int)) (int .u8 0) (slice none 0 0))):=by
   refine⟨l8 U.o (EV _) _ _ _ _ _ _ _,?_⟩;rw[H.o];refine⟨slice none 0 0,rfl,⟨⟨by show (0:Int)≤2;decide,by show (2:Int)<256;decide⟩,⟨⟨by show (0:Int)≤0;decide,by show (0:Int)<256;decide⟩,⟨by show (-9223372036854775808:Int)≤0;decide,by show (0:Int)<9223372036854775808;decide⟩,EM _⟩,S.o,⟨by show (0:Int)≤0;decide,by show (0:Int)<256;decide⟩⟩,?_⟩
   cases d with
   | zero=>exact⟨rfl,none,0,rfl⟩
   | succ d=>exact Or.inl ⟨rfl,none,0,rfl⟩
  obtain⟨c0,c1,c2,c3,c4,c5,c6⟩:=cD q;have f0:=ab q;clear q h l O I P Q R;go_wp2_with fail
  exact iY _ _ (w.heap.size+1) _ _ _ _ _ _ _ V.o _ rfl HP.o
 | none =>
  rw[f]at H;clear f;rw[show dR none=(-1:Int) from rfl];have l:=Hd (bV [(true,213)] 13 T.text T.num T.place (.slice p n c) W2.heap.size 1 1 (W2.alloc (.cells #[.bool true,int i64 213] 149)) rfl (by omega) (n7 W2 _));have g:Hid (Ft w (W2.alloc (.cells #[.bool true,int i64 213] 149))):=(a.o.trans (b.o.mono a.o.size)).alloc (EG a.o.size b.o.size) _;go_wp2_with fail
  refine l.o.mono ?_;rintro e X ⟨h,he⟩;have he:e=aJ 213 T.place:=he;subst he;refine⟨rfl,g.o.trans (h.mono g.o.size),?_⟩;rw[H.o];rfl
