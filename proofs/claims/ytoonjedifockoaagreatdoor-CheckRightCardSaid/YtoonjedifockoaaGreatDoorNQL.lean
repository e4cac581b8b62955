/- CheckRight: rules that can be gone through in time have short lists; by contract. Condition: lists as long as a machine reaches. -/
import Derived.Test.YtoonjedifockoaaGreatDoorMDD
import Derived.Test.YtoonjedifockoaaGreatDoorMD
import Derived.Test.YtoonjedifockoaaGreatDoorNH
import Derived.Test.YtoonjedifockoaaGreatDoorNZ
import Derived.Test.YtoonjedifockoaaGreatDoorNKA
import Derived.Test.YtoonjedifockoaaGreatDoorMZK
namespace Go.Proofs.YtoonjedifockoaaGreatDoor
open Go.IntKind(i64)
open Go.Value(int string slice)
set_option maxHeartbeats 16000000
set_option maxRecDepth 100000
open Go.RowKit
theorem yz{α:Type}{r:Rd α}{W:World}{x:α}{vs:List Value}{E:TypeId}{L:Nat}{v:Value}(e:One E L vs W v)(h:r.at_ W (fun b=>b<W.heap.size) x vs):r.row W (fun b=>b<W.heap.size) [x] v:=by
 obtain⟨g,rfl,_,d⟩:=e;have a:g<W.heap.size:=(Ez.1 d).1;refine Or.inr ⟨g,0,1,by simp,a,a,EA _,by decide,rfl,fun i y c=>?_⟩
 cases i with
 | succ i=>simp at c
 | zero =>
  simp only[List.getElem?_cons_zero,ox]at c;subst c;refine⟨vs,h,fun m u hm=>?_⟩;rw[Fq _ _ _ _ _ _ d]
  simpa using hm
def phC(d:Nat) (c:World) (e:ag) (z:List Value) (i:Nat) (W:World) (b:List Value):Prop:=
 if i=15 then One 50 c.heap.size z W (b.getD 0 undef) else if i=16 then ∃a:Int,b.getD 0 undef=int i64 a∧0≤a∧a≤1501∧(a≤1500→nj (d+1) [e]) else True
theorem zE{d:Nat}{a:World}{e:ag}{z:List Value}{i:Nat}{W W':World}{b:List Value}(h:phC d a e z i W b)(c:Ft W W'):phC d a e z i W' b:=by
 unfold phC at h ⊢
 split
 ·rw[n9 (by assumption)]at h;exact h.below c
 ·rw[n8 (by assumption)]at h;exact h
def Ek(d:Nat) (R:cd) (w:World) (e:Ending) (w':World):Prop:=∃b,e=.returned (.bool b)∧(b=true→qq d R)∧Ft w w'
def gd:Int:=400000000000000000
def LiT(d:Int) (n:Nat) (w:World) (rc:Array Value) (c i:Value) (W:World):Prop:=
 ∃(a:World) (k:Nat) (b:Int),a=W∧k≤n∧c=int i64 b∧i=int i64 (k:Int)∧d≤b∧b≤gd∧a.heap[w.heap.size]?=some (.cells rc 25 (0,0))∧Ft w a
def LiR(P:Nat→Prop) (d:Int) (n:Nat) (w:World) (rc:Array Value) (c i:Value) (W:World):Prop:=
 ∃(b:World) (k:Nat) (a:Int),b=W∧k≤n∧c=int i64 a∧i=int i64 (k:Int)∧d≤a∧a≤gd∧(a<1500→P k)∧b.heap[w.heap.size]?=some (.cells rc 25 (0,0))∧Ft w b
def LiX(P:Nat→Prop) (d:Int) (n:Nat) (w e:World) (rc:Array Value) (B:Nat) (f:Array Value) (c i:Value) (W:World):Prop:=
 ∃(a:World) (k:Nat) (b:Int),a=W∧k≤n∧c=int i64 b∧i=int i64 (k:Int)∧d≤b∧b≤gd∧(b<1500→P k)∧a.heap[w.heap.size]?=some (.cells rc 25 (0,0))∧a.heap[B]?=some (.cells f 38 (0,0))∧Ft w a∧Ft e a
theorem oG{α:Type}{P:α→Prop}{l:List α}{k:Nat}{x:α}(b:l[k]?=some x)(h:∀y∈l.take k,P y)(c:P x):∀y∈l.take (k+1),P y:=fun y a=>by
 rw[Fg,b,List.mem_append]at a;rcases a with a|a
 ·exact h y a
 ·obtain rfl:=List.mem_singleton.1 a;exact c
theorem m9{α:Type}{P:α→Prop}{l:List α}{n:Nat}(b:l.length=n)(h:∀y∈l.take n,P y):∀y∈l,P y:=fun y a=>h y (by rw[ER (by omega)];exact a)
theorem Ae(d:Nat)(R:cd)(st sr:Value)(w:World)(ht:bo.row w (fun b=>b<w.heap.size) R.types st)(hr:(bh d).row w (fun b=>b<w.heap.size) R.rules sr)(hq:yH R) :
  Calls Tryz.prog 5 #[.agg #[st,sr]] w (Ek d R w):=by
 obtain⟨pT,cT,eg⟩:=Rd.row_shape ht;obtain⟨pR,cR,ek⟩:=Rd.row_shape hr;obtain⟨M,ch⟩:=zzy (R.types.length);obtain⟨J,ck⟩:=zzy (R.rules.length);rw[ch]at eg;rw[ck]at ek;subst eg;subst ek;obtain⟨hs,hv,el⟩:=hq;have ad:reachBytes<2 ^ 47:=reachBytes_lt;have jj:(M:Int)≤140737488355328:=by omega
 have j2:(J:Int)≤140737488355328:=by omega
 have hx:=Hd el;obtain⟨w1,bn⟩:=zzx (w.alloc (.cells #[.slice pT M cT,.slice pR J cR] 25));have en:Ft w w1:=by rw[bn];exact (EB _ w).alloc (EA _) _
 have bq:w1.heap[w.heap.size]?=some (.cells #[.slice pT M cT,.slice pR J cR] 25 (0,0)):=by rw[bn];exact n7 w _
 obtain⟨e0,N,_,_⟩:=dp bq;obtain⟨rc,cl⟩:∃rc:Array Value,rc=#[.slice pT M cT,.slice pR J cR]:=⟨_,rfl⟩;rw[←cl]at bq;have cq:=Hd cl;have eo:=Hd en;have er:=Hd bq;have et:=Hd ch;have ct:=Hd ck;have HT:=Hd (fun W (hW:Ft w W)=>Rd.row_sub (fun b (u:b<w.heap.size)=>EF u hW.size) (Rd.row_below ht (fun _ h=>h) hW));have hy:=Hd (fun W (hW:Ft w W)=>Rd.row_sub (fun b (u:b<w.heap.size)=>EF u hW.size) (Rd.row_below hr (fun _ h=>h) hW));obtain⟨n0,ev⟩:∃n0:Int,(M:Int)+J=n0:=⟨_,rfl⟩;have kc:=Hd ev;have e2:0≤n0∧n0≤281474976710656:=by omega
 obtain⟨hM,hN⟩:=e2;have hz:Hid (∀S:Int,n0≤S→S<1500→(∀r∈R.rules,kh d r)→qq d R):=fun S K Z h3=>⟨by omega,by omega,h3⟩
 clear cl en bq ht hr ch ck hs hv el ad
 go_enter Tryz.func5,Tryz.ntmps5
 go_upto_region 1 with fail
 change Code.wp _ _ _ _ (w.alloc (.cells #[.slice pT M cT,.slice pR J cR] 25));rw[←bn];clear bn;go_wp2_with fail
 clear e0 N
 go_loopw [3,4] (LiT n0 M w rc) (fun _ i _=>M-(intOf i).toNat)
 case atStart=>exact⟨w1,0,n0,rfl,EM _,rfl,rfl,by omega,by unfold gd;omega,er.o,eo.o⟩
 case round =>
  obtain⟨W1,k,S,rfl,hk,rfl,rfl,g1,g2,j,u⟩:=hrel;unfold gd at g2;have e6:(0:Int)≤k:=by omega
  have V:=Hd j;have HB:=Hd u;have k0:W1.cell? ⟨w.heap.size,0,none⟩=some (.slice pT M cT):=by rw[Fq _ _ _ _ _ _ j,cq.o];rfl
  have k1:W1.cell? ⟨w.heap.size,1,none⟩=some (.slice pR J cR):=by rw[Fq _ _ _ _ _ _ j,cq.o];rfl
  clear j ev u er eo;obtain⟨B,p⟩:=zzy ((decide (k<M)&&decide (S<1500)));have g:=Hd p;clear p;go_upto_region 3 with fail
  go_cut [25] from 17 to 25 (fun v W=>v=.bool B∧W1=W)
  case first =>
   by_cases K:k<M
   ·have y:(k:Int)<M:=by omega
    by_cases Z:S<1500
    ·go_wp2_with fail
     go_meet
     case rel=>exact⟨by rw[←g.o];simp[K,Z],rfl⟩
    ·go_wp2_with fail
     go_meet
     case rel=>exact⟨by rw[←g.o];simp;omega,rfl⟩
   ·have y:¬(k:Int)<M:=by omega
    go_wp2_with fail
    go_meet
    case rel=>exact⟨by rw[←g.o];simp;omega,rfl⟩
  case rest =>
   obtain⟨rfl,rfl⟩:=hcut
   cases B with
   | true =>
    have q:=g.o;simp only[EQ,oe]at q;obtain⟨O,hle⟩:=q;have y:(k:Int)<M:=by omega
    obtain⟨t,e7⟩:∃t,R.types[k]?=some t:=⟨_,EE (by rw[et.o];exact O)⟩;have l:=Rd.row_at (HT.o W1 HB.o) e7;rw[et.o]at l;obtain⟨b,off,cap,vs,P,_,_,_,_,C,f⟩:=l;injection P with N _ e3
    subst N;subst e3;obtain⟨rfl,af,_⟩:=dN.1 C;have d0:W1.cell? ⟨b,off+k*2,none⟩=some (.string t.name):=f 0 _ rfl;have e8:t.name.size≤9223372036854775807:=af;clear C f e7 af;go_wp2_with fail
    exact⟨⟨W1,k+1,_,rfl,by omega,rfl,by go_num,by omega,by unfold gd;omega,V.o,HB.o⟩,by simp[intOf];omega⟩
   | false =>
    have e9:=Hd g1;go_wp2_with fail
    clear k0 k1
    go_loopw [3,5] (LiR (fun k=>∀r∈R.rules.take k,kh d r) n0 J w rc) (fun _ i _=>J-(intOf i).toNat)
    case atStart=>exact⟨W1,0,S,rfl,EM _,rfl,rfl,e9.o,by unfold gd;omega,(fun _ r h=>by cases h),V.o,HB.o⟩
    case round =>
     clear V HB hk e6 g1 g2 g e9;obtain⟨W2,Q,cr,rfl,hk,rfl,rfl,g1,g2,hP,j,u⟩:=hrel;unfold gd at g2;have e6:(0:Int)≤Q:=by omega
     have V:=Hd j;have HB:=Hd u;have HP:=Hd hP;have k1:W2.cell? ⟨w.heap.size,1,none⟩=some (.slice pR J cR):=by rw[Fq _ _ _ _ _ _ j,cq.o];rfl
     clear j u hP;obtain⟨B,p⟩:=zzy ((decide (Q<J)&&decide (cr<1500)));have g:=Hd p;clear p;go_upto_region 7 with fail
     go_cut [46] from 38 to 46 (fun v W=>v=.bool B∧W2=W)
     case first =>
      by_cases K:Q<J
      ·have y:(Q:Int)<J:=by omega
       by_cases Z:cr<1500
       ·go_wp2_with fail
        go_meet
        case rel=>exact⟨by rw[←g.o];simp[K,Z],rfl⟩
       ·go_wp2_with fail
        go_meet
        case rel=>exact⟨by rw[←g.o];simp;omega,rfl⟩
      ·have y:¬(Q:Int)<J:=by omega
       go_wp2_with fail
       go_meet
       case rel=>exact⟨by rw[←g.o];simp;omega,rfl⟩
     case rest =>
      obtain⟨rfl,rfl⟩:=hcut
      cases B with
      | false =>
       have HE:Hid (cr<1500→qq d R):=fun L=>hz.o cr g1 L (by
        have K:=g.o;simp only[Bool.and_eq_false_iff,o3]at K;have ak:Q=J:=by omega
        subst ak
        exact m9 ct.o (HP.o L))
       by_cases L:cr<1500
       ·go_wp2_with fail
        go_ret;exact⟨true,by simp,fun _=>HE.o L,HB.o⟩
       ·go_wp2_with fail
        go_ret;exact⟨false,by simp,fun h=>(by cases h),HB.o⟩
      | true =>
       have q:=g.o;simp only[EQ,oe]at q;obtain⟨O,hle⟩:=q;have y:(Q:Int)<J:=by omega
       obtain⟨r,br⟩:∃r,R.rules[Q]?=some r:=⟨_,EE (by rw[ct.o];exact O)⟩;have l:=Rd.row_at (hy.o W2 HB.o) br;rw[ct.o]at l;obtain⟨b,off,cap,vs,P,_,_,_,_,C,fm⟩:=l;injection P with N _ e3
       subst N;subst e3;obtain⟨af,_,_,sc,sa,rfl,cx,cA⟩:=dY.1 C;obtain⟨qc,zc,fr⟩:=Rd.row_shape cx;obtain⟨qa,za,fs⟩:=Rd.row_shape cA;obtain⟨fv,fz,fI⟩:=hx.o r (EU br);have ad:reachBytes<2 ^ 47:=reachBytes_lt;obtain⟨E,cC⟩:=zzy (r.conds.length);obtain⟨F,cV⟩:=zzy (r.acts.length);rw[cC]at fr fv;rw[cV]at fs fz;subst fr;subst fs;have G:∀m z,(yP r (.slice qc E zc) (.slice qa F za))[m]?=some z→W2.cell? ⟨b,off+Q*5+m,none⟩=some z:=fm;have d0:W2.cell? ⟨b,off+Q*5,none⟩=some (.string r.name):=G 0 _ rfl;have d1:W2.cell? ⟨b,off+Q*5+1,none⟩=some (int i64 r.sal):=G 1 _ rfl;have d2:W2.cell? ⟨b,off+Q*5+2,none⟩=some (int i64 r.vars):=G 2 _ rfl;have d3:W2.cell? ⟨b,off+Q*5+3,none⟩=some (.slice qc E zc):=G 3 _ rfl;have d4:W2.cell? ⟨b,off+Q*5+4,none⟩=some (.slice qa F za):=G 4 _ rfl;have e8:r.name.size≤9223372036854775807:=af;have hO:(E:Int)≤140737488355328:=by omega
       have hQ:(F:Int)≤140737488355328:=by omega
       have an:=Hd cC;have bt:=Hd cV;have hA:=Hd fI;have hD:=Hd br;obtain⟨w3,bB⟩:=zzx (W2.alloc (.cells #[.string r.name,int i64 r.sal,int i64 r.vars,.slice qc E zc,.slice qa F za] 38));have aq:Ft W2 w3:=by rw[bB];exact (EB _ W2).alloc (EA _) _
       have cW:w3.heap[W2.heap.size]?=some (.cells #[.string r.name,int i64 r.sal,int i64 r.vars,.slice qc E zc,.slice qa F za] 38 (0,0)):=by rw[bB];exact n7 W2 _
       obtain⟨xc,c0⟩:∃xc:Array Value,xc=#[.string r.name,int i64 r.sal,int i64 r.vars,.slice qc E zc,.slice qa F za]:=⟨_,rfl⟩;have fT:Hid (w3.heap[W2.heap.size]?=some (.cells xc 38 (0,0))):=by rw[c0];exact cW
       have bR:=Hd c0;have b5:=Hd (aa aq V.o (Ez.1 V.o).1);have gf:=Hd (HB.o.trans (aq.mono HB.o.size));have gg:=Hd (fun W (hW:Ft w3 W)=>Rd.row_later (Rd.row_later cx aq) hW);have hG:=Hd (fun W (hW:Ft w3 W)=>Rd.row_later (Rd.row_later cA aq) hW);obtain⟨y0,y1,y2,y3,y4⟩:=cells5 cW;clear C fm G cx cA fv fz fI af cC cV br aq cW c0 ad;go_upto_region 10 with fail
       change Code.wp _ _ _ _ (W2.alloc (.cells #[.string r.name,int i64 r.sal,int i64 r.vars,.slice qc E zc,.slice qa F za] 38));rw[←bB];clear bB d0 d1 d2 d3 d4 k1;go_wp2_with fail
       clear y0 y1 y2 y3 y4;obtain⟨n1,gD⟩:∃n1:Int,cr+E+F=n1:=⟨_,rfl⟩;have kk:=Hd gD;have gE:n0≤n1∧n1≤200000000000000000∧cr≤n1∧(E:Int)≤n1∧(F:Int)≤n1:=⟨by omega,by omega,by omega,by omega,by omega⟩;obtain⟨hR,hT,hV,hX,hY⟩:=gE
       go_loopw [3,7] (LiX (fun k=>∀c∈r.conds.take k,jY d c) n1 E w w3 rc W2.heap.size xc) (fun _ i _=>E-(intOf i).toNat)
       case atStart=>exact⟨w3,0,_,rfl,EM _,rfl,rfl,by omega,by unfold gd;omega,(fun _ c h=>by cases h),b5.o,fT.o,gf.o,EB _ _⟩
       case round =>
        clear fT b5 gf g gD;obtain⟨n,k,S,rfl,kn,rfl,rfl,t1,t2,gF,j,A,u,gH⟩:=hrel;unfold gd at t2;have hZ:(0:Int)≤k:=by omega
        have ar:=Hd j;have av:=Hd A;have c1:=Hd u;have b0:=Hd gH;have gL:=Hd gF;have y3:n.cell? ⟨W2.heap.size,3,none⟩=some (.slice qc E zc):=by rw[Fq _ _ _ _ _ _ A,bR.o];rfl
        have y4:n.cell? ⟨W2.heap.size,4,none⟩=some (.slice qa F za):=by rw[Fq _ _ _ _ _ _ A,bR.o];rfl
        clear j A u gH gF;obtain⟨B,p⟩:=zzy ((decide (k<E)&&decide (S<1500)));have g:=Hd p;clear p;go_upto_region 12 with fail
        go_cut [76] from 68 to 76 (fun v W=>v=.bool B∧n=W)
        case first =>
         by_cases K:k<E
         ·have y:(k:Int)<E:=by omega
          by_cases Z:S<1500
          ·go_wp2_with fail
           go_meet
           case rel=>exact⟨by rw[←g.o];simp[K,Z],rfl⟩
          ·go_wp2_with fail
           go_meet
           case rel=>exact⟨by rw[←g.o];simp;omega,rfl⟩
         ·have y:¬(k:Int)<E:=by omega
          go_wp2_with fail
          go_meet
          case rel=>exact⟨by rw[←g.o];simp;omega,rfl⟩
        case rest =>
         obtain⟨rfl,rfl⟩:=hcut
         cases B with
         | false =>
          have c3:Hid (S<1500→∀c∈r.conds,jY d c):=fun L=>m9 an.o (by
           have K:=g.o;simp only[Bool.and_eq_false_iff,o3]at K;have ak:k=E:=by omega
           subst ak
           exact gL.o L)
          go_wp2_with fail
          clear y3 y4
          go_loopw [3,9] (LiX (fun k=>∀a∈r.acts.take k,kt d a) S F w w3 rc W2.heap.size xc) (fun _ i _=>F-(intOf i).toNat)
          case atStart=>exact⟨n,0,_,rfl,EM _,rfl,rfl,Int.le_refl _,by unfold gd;omega,(fun _ c h=>by cases h),ar.o,av.o,c1.o,b0.o⟩
          case round =>
           obtain⟨W5,k5,b1,rfl,ks,rfl,rfl,v1,v2,gM,j,A,u,gN⟩:=hrel;unfold gd at v2;have h4:(0:Int)≤k5:=by omega
           have a1:=Hd j;have b6:=Hd A;have c5:=Hd u;have c6:=Hd gN;have gO:=Hd gM;have y4:W5.cell? ⟨W2.heap.size,4,none⟩=some (.slice qa F za):=by rw[Fq _ _ _ _ _ _ A,bR.o];rfl
           clear j A u gN gM;obtain⟨B,p⟩:=zzy ((decide (k5<F)&&decide (b1<1500)));have a6:=Hd p;clear p;go_upto_region 20 with fail
           go_cut [135] from 127 to 135 (fun v W=>v=.bool B∧W5=W)
           case first =>
            by_cases K:k5<F
            ·have y:(k5:Int)<F:=by omega
             by_cases Z:b1<1500
             ·go_wp2_with fail
              go_meet
              case rel=>exact⟨by rw[←a6.o];simp[K,Z],rfl⟩
             ·go_wp2_with fail
              go_meet
              case rel=>exact⟨by rw[←a6.o];simp;omega,rfl⟩
            ·have y:¬(k5:Int)<F:=by omega
             go_wp2_with fail
             go_meet
             case rel=>exact⟨by rw[←a6.o];simp;omega,rfl⟩
           case rest =>
            obtain⟨rfl,rfl⟩:=hcut
            cases B with
            | false =>
             have c7:Hid (b1<1500→∀a∈r.acts,kt d a):=fun L=>m9 bt.o (by
              have K:=a6.o;simp only[Bool.and_eq_false_iff,o3]at K;have ak:k5=F:=by omega
              subst ak
              exact gO.o L)
             go_wp2_with fail
             exact⟨⟨W5,Q+1,b1,rfl,by omega,rfl,by go_num,by omega,by unfold gd;omega,(fun L=>oG hD.o (HP.o (by omega)) ⟨by rw[an.o];omega,by rw[bt.o];omega,c3.o (by omega),c7.o L⟩),a1.o,c5.o⟩,by simp[intOf];omega⟩
            | true =>
             have q:=a6.o;simp only[EQ,oe]at q;obtain⟨gS,h5⟩:=q;have h6:(k5:Int)<F:=by omega
             obtain⟨a,ha⟩:∃a,r.acts[k5]?=some a:=⟨_,EE (by rw[bt.o];exact gS)⟩;have hI:=Hd ha;have l:=Rd.row_at (hG.o W5 c6.o) ha;rw[bt.o]at l;obtain⟨b,off,cap,vs,P,_,_,_,_,C,c8⟩:=l;injection P with N q1 e3
             clear q1;subst N;subst e3;rw[qO]at c8;obtain⟨_,_,_,s,rfl,c9⟩:=eB.1 C;obtain⟨qe,ze,a7⟩:=Rd.row_shape c9;have HC:=Hd (kS (d+1) a.exprs s W5 1500 c9 (by omega) (by omega));obtain⟨me,a8⟩:=zzy (a.exprs.length);rw[a8]at a7;subst a7;have d3:W5.cell? ⟨b,off+k5*4+3,none⟩=some (.slice qe me ze):=c8 3 _ rfl;clear C c8 c9 ha a8;go_wp2_with fail
             refine HC.o.mono ?_;rintro e W6 ⟨X,rfl,hJ,hK,H,D⟩;have ba:=Hd (aa D a1.o (Ez.1 a1.o).1);have bc:=Hd (aa D b6.o (Ez.1 b6.o).1);have da:=Hd (c5.o.trans (D.mono c5.o.size));have dc:=Hd (c6.o.trans (D.mono c6.o.size));have bd:Hid (X≤1500→kt d a):=fun h=>⟨(H h).1,fun t ht=>oZ d t ((H h).2 t ht)⟩
             clear D H HC d3 y4;go_wp2_with fail
             exact⟨⟨W6,k5+1,_,rfl,by omega,rfl,by go_num,by omega,by unfold gd;omega,(fun L=>oG hI.o (gO.o (by omega)) (bd.o (by omega))),ba.o,bc.o,da.o,dc.o⟩,by simp[intOf];omega⟩
         | true =>
          have q:=g.o;simp only[EQ,oe]at q;obtain⟨O,hle⟩:=q;have y:(k:Int)<E:=by omega
          obtain⟨c,L⟩:∃c,r.conds[k]?=some c:=⟨_,EE (by rw[an.o];exact O)⟩;have gT:=Hd L;have l:=Rd.row_at (gg.o n b0.o) L;rw[an.o]at l;obtain⟨b,off,cap,vs,P,_,_,_,_,C,f⟩:=l;injection P with N _ e3
          subst N;subst e3;rw[dL]at f;obtain⟨_,_,bk,sg,se,rfl,Y,dd⟩:=dq.1 C;obtain⟨qg,zg,bl⟩:=Rd.row_shape Y;obtain⟨qe,ze,a7⟩:=aI dd;have dg:=hA.o c (EU L);unfold Bu at dg;have ad:reachBytes<2 ^ 47:=reachBytes_lt;obtain⟨T,ds⟩:=zzy (c.args.length);obtain⟨me,a8⟩:=zzy (c.test.kids.length);rw[ds]at bl dg;rw[a8]at a7;subst bl;subst a7;have h7:(T:Int)≤140737488355328:=by omega
          have b4:=Hd ds;have d2:n.cell? ⟨b,off+k*10+2,none⟩=some (.slice qg T zg):=f 2 _ rfl;have d3:n.cell? ⟨b,off+k*10+3,none⟩=some (int .u8 c.test.kind):=f 3 _ rfl;have d4:n.cell? ⟨b,off+k*10+4,none⟩=some (int .u8 c.test.val.kind):=f 4 _ rfl;have d5:n.cell? ⟨b,off+k*10+5,none⟩=some (int i64 c.test.val.num):=f 5 _ rfl;have d6:n.cell? ⟨b,off+k*10+6,none⟩=some (.string c.test.val.text):=f 6 _ rfl;have d7:n.cell? ⟨b,off+k*10+7,none⟩=some (int i64 c.test.var):=f 7 _ rfl;have d8:n.cell? ⟨b,off+k*10+8,none⟩=some (int .u8 c.test.op):=f 8 _ rfl;have d9:n.cell? ⟨b,off+k*10+9,none⟩=some (.slice qe me ze):=f 9 _ rfl;have b7:=Hd (fun x:Wb n=>Rd.later (r:=ay d) (bZ.2 ⟨bk,_,rfl,dd⟩:(ay d).at_ n (fun b=>b<n.heap.size) c.test (bF c.test (.slice qe me ze))) x.2);have D2:=fun x:Wb n=>x.cell d2
          have D3:=fun x:Wb n=>x.cell d3
          have D4:=fun x:Wb n=>x.cell d4
          have D5:=fun x:Wb n=>x.cell d5
          have D6:=fun x:Wb n=>x.cell d6
          have D7:=fun x:Wb n=>x.cell d7
          have D8:=fun x:Wb n=>x.cell d8
          have D9:=fun x:Wb n=>x.cell d9
          have Y3:=fun x:Wb n=>x.cell y3
          clear C f Y dd dg ds a8 L ad bk y4;go_upto_region 14 with fail
          clear d2 d3 d4 d5 d6 d7 d8 d9 y3;refine RE.wp_region_eff (by kernel_rfl) 17 [15,16] [] (fun _ W=>∃x:Wb n,W=x.1) (fun W W'=>Ft W W') (fun _ ys=>ys.getD 0 undef) (phC d n c.test (bF c.test (.slice qe me ze))) (by kernel_rfl) (fun _ _ _ _ _ _ h u=>ci h u) (fun i W W' ys h _ u=>zE h u) ⟨⟨n.drew,(EB _ _).drew⟩,rfl⟩ ?_;simp only[EK,ET,EL,ES]
          repeat (refine RE.wpE_read (fun W=>∃x:Wb n,W=x.1) (fun _ _ _ h=>h) rfl rfl rfl ⟨⟨n.drew,(EB _ _).drew⟩,rfl⟩ ?_;go_big_quiet_step (fail);refine wpQuiet_nil ?_)
          refine RE.wpE_turn rfl rfl ?_ (fun ys=>?_)
          ·intro W hC _ hE;obtain⟨s9,_,x,rfl⟩:=hC;exact dB tq (.tmp 93) rfl rfl rfl x.2.size (fun v W' u ho=>⟨[v],rfl,u,u,ho⟩)
          simp only[Act.put,EC,EI,EH];refine RE.wpE_turn rfl rfl ?_ (fun zs=>?_)
          ·intro W hC _ hE;obtain⟨s9,_,x,rfl⟩:=hC;have ho:One 50 n.heap.size (bF c.test (.slice qe me ze)) x.1 (ys.getD 0 undef):=hE 15 ys (by kernel_rfl) rfl;refine RE.upon_call 11 _ _ rfl (enters_of Tryz.func11 (by kernel_rfl) rfl) #[ys.getD 0 undef,int i64 1500] (by simp[Act.eval]) ((kS (d+1) [c.test] _ x.1 1500 (yz ho (b7.o x)) (by omega) (by omega)).mono ?_);rintro e W' ⟨X,rfl,h0,K,Z,u⟩;exact⟨_,rfl,[int i64 X],rfl,u,u,X,rfl,h0,by omega,Z⟩
          simp only[Act.put,EC,EI,EH];refine RE.wpE_nil ?_;intro _ hS hE;obtain⟨X,hd,hJ,hK,H⟩:∃X:Int,zs.getD 0 undef=int i64 X∧0≤X∧X≤1501∧(X≤1500→nj (d+1) [c.test]):=hE 16 zs rfl;obtain⟨⟨W6,D⟩,rfl⟩:=hS;rw[hd];have ba:=Hd (aa D ar.o (Ez.1 ar.o).1);have bc:=Hd (aa D av.o (Ez.1 av.o).1);have da:=Hd (c1.o.trans (D.mono c1.o.size));have dc:=Hd (b0.o.trans (D.mono b0.o.size));have bd:Hid (X≤1500→jg d c.test):=fun h=>oZ d c.test ((H h).2 c.test (by simp))
          clear D H hE hd D2 D3 D4 D5 D6 D7 D8 D9 Y3;obtain⟨n2,hf⟩:∃n2:Int,S+T+X=n2:=⟨_,rfl⟩;have kv:=Hd hf;have hg:n1≤n2∧n2≤200000000000000000∧(T:Int)≤n2∧X≤n2∧S≤n2:=⟨by omega,by omega,by omega,by omega,by omega⟩;obtain⟨h8,h9,ih,ix,iA⟩:=hg;clear b7;go_wp2_with fail
          go_loopw [3,8] (LiX (fun _=>True) n2 T w w3 rc W2.heap.size xc) (fun _ i _=>T-(intOf i).toNat)
          case atStart=>exact⟨_,0,_,rfl,EM _,rfl,rfl,Int.le_refl _,by unfold gd;omega,fun _=>trivial,ba.o,bc.o,da.o,dc.o⟩
          case round =>
           clear hf;obtain⟨W7,m,dv,rfl,hm,rfl,rfl,u1,u2,_,j,A,u,ec⟩:=hrel;unfold gd at u2;have kI:(0:Int)≤m:=by omega
           have b8:=Hd j;have b9:=Hd A;have hh:=Hd u;have hi:=Hd ec;have y3:W7.cell? ⟨W2.heap.size,3,none⟩=some (slice (some ⟨b,off,none⟩) E zc):=by rw[Fq _ _ _ _ _ _ A,bR.o];rfl
           have l:=Rd.row_at (gg.o W7 ec) gT.o;rw[an.o]at l;obtain⟨b2,iB,iX,k2,hj,_,_,_,_,ca,I⟩:=l;injection hj with N q1 q2
           clear q1 q2;injection N with N
           injection N with e4 e5 _
           subst e4;subst e5;rw[dL]at I;obtain⟨_,_,_,sg,se,rfl,Y,_⟩:=dq.1 ca;obtain⟨qh,zh,bl⟩:=Rd.row_shape Y;rw[b4.o]at bl;subst bl;have d2:W7.cell? ⟨b,off+k*10+2,none⟩=some (.slice qh T zh):=I 2 _ rfl;have k3:(k:Int)<E:=by omega
           have hL:=Hd Y;clear j A u ec ca I Y;obtain⟨B,p⟩:=zzy ((decide (m<T)&&decide (dv<1500)));have g:=Hd p;clear p;go_upto_region 16 with fail
           go_cut [109] from 97 to 109 (fun v W=>v=.bool B∧W7=W)
           case first =>
            by_cases K:m<T
            ·have y:(m:Int)<T:=by omega
             by_cases Z:dv<1500
             ·go_wp2_with fail
              go_meet
              case rel=>exact⟨by rw[←g.o];simp[K,Z],rfl⟩
             ·go_wp2_with fail
              go_meet
              case rel=>exact⟨by rw[←g.o];simp;omega,rfl⟩
            ·have y:¬(m:Int)<T:=by omega
             go_wp2_with fail
             go_meet
             case rel=>exact⟨by rw[←g.o];simp;omega,rfl⟩
           case rest =>
            obtain⟨rfl,rfl⟩:=hcut
            cases B with
            | true =>
             have q:=g.o;simp only[EQ,oe]at q;obtain⟨O,hle⟩:=q;have k4:(m:Int)<T:=by omega
             obtain⟨a,ha⟩:∃a,c.args[m]?=some a:=⟨_,EE (by rw[b4.o];exact O)⟩;have l:=Rd.row_at hL.o ha;rw[b4.o]at l;obtain⟨b3,hl,i1,k6,hn,_,_,_,_,cc,U⟩:=l;injection hn with N _ e3
             subst N;subst e3;obtain⟨rfl,_,_,hp⟩:=eP.1 cc;have d4:W7.cell? ⟨b3,hl+m*5+4,none⟩=some (.string a.val.text):=U 4 _ rfl;have e8:a.val.text.size≤9223372036854775807:=hp.2.2;clear ha cc U hp;go_wp2_with fail
             exact⟨⟨W7,m+1,_,rfl,by omega,rfl,by go_num,by omega,by unfold gd;omega,fun _=>trivial,b8.o,b9.o,hh.o,hi.o⟩,by simp[intOf];omega⟩
            | false =>
             go_wp2_with fail
             exact⟨⟨W7,k+1,dv,rfl,by omega,rfl,by go_num,by omega,by unfold gd;omega,(fun L=>oG gT.o (gL.o (by omega)) ⟨by rw[b4.o];omega,bd.o (by omega)⟩),b8.o,b9.o,hh.o,hi.o⟩,by simp[intOf];omega⟩
