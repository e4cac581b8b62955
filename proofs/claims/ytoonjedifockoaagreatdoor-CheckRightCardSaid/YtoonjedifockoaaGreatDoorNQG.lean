/- Parts of one proof, joined; conditions stand in each theorem. -/
import Derived.Test.YtoonjedifockoaaGreatDoorNQF
import Derived.Test.YtoonjedifockoaaGreatDoorNX
import Derived.Test.YtoonjedifockoaaGreatDoorNO
import Derived.Test.YtoonjedifockoaaGreatDoorNQL
import Derived.Test.YtoonjedifockoaaGreatDoorNKA
namespace Go.Proofs.YtoonjedifockoaaGreatDoor
open Go.IntKind(i64)
open Go.Value(int string slice)
set_option maxHeartbeats 16000000
set_option maxRecDepth 100000
open Go.RowKit
theorem oL(x:ByteArray):∀(l:List ByteArray) (m:Nat),(fi x l m).isSome=l.any (fun y=>y.data.toList==x.data.toList)
 | [],_=>rfl
 | z::l,m=>by
  unfold fi;rw[List.any_cons]
  cases h:(z.data.toList==x.data.toList) with
  | true=>rw[n9 rfl];rfl
  | false=>rw[n8 (by decide),oL x l (m+1)];rfl
def py(x:ByteArray) (l:List ByteArray) (k:Nat):Prop:=(idxOf x (l.take k)).isSome=false
theorem pP{x y:ByteArray}{l:List ByteArray}{k:Nat}(b:l[k]?=some y)(h:py x l k)(a:(y.toList==x.toList)=false):py x l (k+1):=by
 unfold py idxOf at *;rw[oL]at *;rw[Fg,b,List.any_append,h];rw[EN,EN]at a
 show (false||((y.data.toList==x.data.toList)||false))=false
 rw[a];rfl
theorem ry{x y:ByteArray}{l:List ByteArray}{k j:Nat}(a:l[k]?=some y)(b:k<j)(he:(y.toList==x.toList)=true):(idxOf x (l.take j)).isSome=true:=by
 unfold idxOf;rw[oL,List.any_eq_true];rw[EN,EN]at he;exact⟨y,EU (i:=k) (by rw[List.getElem?_take_of_lt b];exact a),he⟩
def Ep(R:cd) (n:Nat) (w:World) (rc:Array Value) (i:Value) (W:World):Prop:=
 ∃(a:World) (j:Nat),a=W∧j≤n∧i=int i64 (j:Int)∧(R.types.take j).all dh=true∧apartB [] ((R.types.map ai.name).take j)=true∧a.heap[w.heap.size]?=some (.cells rc 25 (0,0))∧Ft w a
def Eu(R:cd) (d n:Nat) (w:World) (rc:Array Value) (i:Value) (W:World):Prop:=
 ∃(a:World) (j:Nat),a=W∧j≤n∧i=int i64 (j:Int)∧(R.rules.take j).all (dU d R.types)=true∧apartB [] ((R.rules.map aj.name).take j)=true∧a.heap[w.heap.size]?=some (.cells rc 25 (0,0))∧Ft w a
def Ex(x:ByteArray) (l:List ByteArray) (n:Nat) (w:World) (rc:Array Value) (B:Nat) (b:Array Value) (i:Value) (W:World):Prop:=
 ∃(a:World) (k:Nat),a=W∧k≤n∧i=int i64 (k:Int)∧py x l k∧a.heap[w.heap.size]?=some (.cells rc 25 (0,0))∧a.heap[B]?=some (.cells b 40 (0,0))∧Ft w a
def Eo(x:ByteArray) (l:List ByteArray) (n:Nat) (w:World) (rc:Array Value) (i:Value) (W:World):Prop:=
 ∃(a:World) (k:Nat),a=W∧k≤n∧i=int i64 (k:Int)∧py x l k∧a.heap[w.heap.size]?=some (.cells rc 25 (0,0))∧Ft w a
theorem v6(d:Nat)(R:cd)(st sr:Value)(w:World)(ht:bo.row w (fun b=>b<w.heap.size) R.types st)(hr:(bh d).row w (fun b=>b<w.heap.size) R.rules sr) :
  Calls Tryz.prog 8 #[.agg #[st,sr]] w (ap (ja d R) w):=by
 obtain⟨pT,cT,cl⟩:=Rd.row_shape ht;obtain⟨pR,cR,cq⟩:=Rd.row_shape hr;have bR:=Rd.row_len ht;have b0:=Rd.row_len hr;obtain⟨E,a8⟩:=zzy (R.types.length);obtain⟨C,ba⟩:=zzy (R.rules.length);rw[a8]at cl bR;rw[ba]at cq b0;subst cl;subst cq;have dv:(E:Int)≤9223372036854775807:=by unfold maxLen at bR;omega
 have ec:(C:Int)≤9223372036854775807:=by unfold maxLen at b0;omega
 have cr:Ft w (w.alloc (.cells #[.slice pT E cT,.slice pR C cR] 25)):=(EB _ w).alloc (EA _) _;have b1:(w.alloc (.cells #[.slice pT E cT,.slice pR C cR] 25)).heap[w.heap.size]?=some (.cells #[.slice pT E cT,.slice pR C cR] 25 (0,0)):=n7 w _;have V:=Hd cr;have bb:=Hd b1;have Q:=Hd a8;have S:=Hd ba;have HT:=Hd (fun W (hW:Ft w W)=>Rd.row_sub (fun b (M:b<w.heap.size)=>EF M hW.size) (Rd.row_below ht (fun _ h=>h) hW));have ct:=Hd (fun W (hW:Ft w W)=>Rd.row_sub (fun b (M:b<w.heap.size)=>EF M hW.size) (Rd.row_below hr (fun _ h=>h) hW));obtain⟨res,X⟩:=zzy (ja d R);have HR:Hid (res=(decide (E≤32)&&decide (C≤64)&&R.types.all dh&&apartB [] (R.types.map ai.name)&&R.rules.all (dU d R.types)&&apartB [] (R.rules.map aj.name))):=by
  show _=_
  rw[←X,←a8,←ba];rfl
 rw[X];obtain⟨e0,e1,_,_⟩:=dp b1;clear X b1 cr ht hr a8 ba bR b0
 go_enter Tryz.func8,Tryz.ntmps8
 by_cases h1:E≤32
 case neg =>
  go_wp2_with fail
  go_ret;exact⟨by rw[HR.o,oc h1];rfl,V.o⟩
 by_cases h2:C≤64
 case neg =>
  go_wp2_with fail
  go_ret;exact⟨by rw[HR.o,oc h2];simp,V.o⟩
 have b2:Hid (res=(R.types.all dh&&apartB [] (R.types.map ai.name)&&R.rules.all (dU d R.types)&&apartB [] (R.rules.map aj.name))):=by
  show _=_
  rw[HR.o,decide_eq_true h1,decide_eq_true h2];rfl
 obtain⟨w1,cv⟩:=zzx (w.alloc (.cells #[.slice pT E cT,.slice pR C cR] 25));go_upto_region 1 with fail
 rw[←cv]at V bb e0 e1 ⊢;obtain⟨rc,b3⟩:∃rc:Array Value,rc=#[.slice pT E cT,.slice pR C cR]:=⟨_,rfl⟩;rw[←b3]at bb;have T:=Hd b3;clear HR b3 cv;go_wp2_with fail
 clear e0 e1
 go_loopw [3] (Ep R E w rc) (fun i _=>E-(intOf i).toNat)
 case atStart=>exact⟨w1,0,rfl,EM _,rfl,rfl,rfl,bb.o,V.o⟩
 case round =>
  obtain⟨I,j,rfl,hj,rfl,F,Y,G,M⟩:=hrel;clear bb V;have eg:(0:Int)≤j:=by omega
  have b4:=Hd G;have b5:=Hd M;have cx:=Hd F;have cA:=Hd Y;have k0:I.cell? ⟨w.heap.size,0,none⟩=some (.slice pT E cT):=by rw[Fq _ _ _ _ _ _ G,T.o];rfl
  have k1:I.cell? ⟨w.heap.size,1,none⟩=some (.slice pR C cR):=by rw[Fq _ _ _ _ _ _ G,T.o];rfl
  clear G F Y
  by_cases b6:j<E
  ·have ek:(j:Int)<E:=by omega
   obtain⟨t,Z⟩:∃t,R.types[j]?=some t:=⟨_,EE (by rw[Q.o];exact b6)⟩;have y:=Rd.row_at (HT.o I M) Z;rw[Q.o]at y;obtain⟨b,off,cap,vs,ad,_,_,_,_,D,a⟩:=y;injection ad with e1 _ e3
   subst e1;subst e3;obtain⟨rfl,U,_⟩:=dN.1 D;have a:∀m z,[string t.name,int i64 t.fields][m]?=some z→I.cell? ⟨b,off+j*2+m,none⟩=some z:=a;have d0:I.cell? ⟨b,off+j*2,none⟩=some (.string t.name):=a 0 _ rfl;have d1:I.cell? ⟨b,off+j*2+1,none⟩=some (int i64 t.fields):=a 1 _ rfl;obtain⟨w2,bc⟩:=zzx (I.alloc (.cells #[.string t.name,int i64 t.fields] 40));have b7:Ft I w2:=by rw[bc];exact (EB _ I).alloc (EA _) _
   have b8:w2.heap[I.heap.size]?=some (.cells #[.string t.name,int i64 t.fields] 40 (0,0)):=by rw[bc];exact n7 I _
   obtain⟨tc,b9⟩:∃tc:Array Value,tc=#[.string t.name,int i64 t.fields]:=⟨_,rfl⟩;have c9:Hid (w2.heap[I.heap.size]?=some (.cells tc 40 (0,0))):=by rw[b9];exact b8
   have da:=Hd b9;have af:=Hd (aa b7 b4.o (Ez.1 b4.o).1);have K:=Hd (b5.o.trans (b7.mono b5.o.size));have cC:=Hd (lD t.name w2 U);have ak:Hid ((R.types.map ai.name)[j]?=some t.name):=by show _=_;rw[List.getElem?_map,Z];rfl
   have dc:=Hd Z;have an:Hid (dh t=false→res=false):=fun h=>by rw[b2.o,i5 Z h];rfl
   have aq:Hid ((idxOf t.name ((R.types.map ai.name).take j)).isSome=true→res=false):=fun h=>by rw[b2.o,ku ak.o h];simp
   obtain⟨y0,y1,_,_⟩:=dp b8;obtain⟨bd,ar⟩:=zzy (bv t.name.data.toList);rw[ar]at cC;have N:Hid (dh t=(bd&&decide (0≤t.fields)&&decide (t.fields≤6))):=by show _=_;rw[←ar];rfl
   clear D a U Z b8 b7 b9 M ar;go_upto_region 7 with fail
   change Code.wp _ _ _ _ (I.alloc (.cells #[.string t.name,int i64 t.fields] 40));rw[←bc];clear bc d0 d1 k0 k1;go_wp2_with fail
   refine cC.o.mono ?_;rintro e f ⟨rfl,rfl⟩
   cases bd with
   | false =>
    go_wp2_with fail
    go_ret;exact⟨by rw[an.o N.o];rfl,K.o⟩
   | true =>
   by_cases h5:0≤t.fields
   case neg =>
    go_wp2_with fail
    go_ret;exact⟨by rw[an.o (by rw[N.o,oc (show ¬0≤t.fields by omega)];rfl)];rfl,K.o⟩
   by_cases h6:t.fields≤6
   case neg =>
    go_wp2_with fail
    go_ret;exact⟨by rw[an.o (by rw[N.o,oc (show ¬t.fields≤6 by omega)];simp)];rfl,K.o⟩
   have av:Hid (dh t=true):=by show _=_;rw[N.o,decide_eq_true h5,decide_eq_true h6];rfl
   go_wp2_with fail
   clear y0 y1 h5 h6
   go_loopw [5] (Ex t.name (R.types.map ai.name) j w rc I.heap.size tc) (fun i _=>j-(intOf i).toNat)
   case atStart=>exact⟨w2,0,rfl,EM _,rfl,rfl,af.o,c9.o,K.o⟩
   case round =>
    obtain⟨f,k,rfl,hk,rfl,L,l,O,A⟩:=hrel;have dd:(0:Int)≤k:=by omega
    have a1:=Hd L;have s:=Hd l;have bq:=Hd O;have n:=Hd A
    by_cases ca:k<j
    ·have dg:(k:Int)<j:=by omega
     have ds:(k:Int)<E:=by omega
     obtain⟨u,hu⟩:∃u,R.types[k]?=some u:=⟨_,EE (by rw[Q.o];omega)⟩;have y:=Rd.row_at (HT.o f A) hu;rw[Q.o]at y;obtain⟨b',cV,cW,vs,ad,_,_,_,_,D,a⟩:=y;injection ad with e1 _ _
     injection e1 with e1
     injection e1 with e4 e5 _
     subst e4;subst e5;obtain⟨rfl,_,_⟩:=dN.1 D;have d0:f.cell? ⟨b,off+k*2,none⟩=some (.string u.name):=a 0 _ rfl;have y0:f.cell? ⟨I.heap.size,0,none⟩=some (.string t.name):=by rw[Fq _ _ _ _ _ _ O,da.o];rfl
     have k0:f.cell? ⟨w.heap.size,0,none⟩=some (slice (some ⟨b,off,none⟩) E cT):=by rw[Fq _ _ _ _ _ _ l,T.o];rfl
     have D0:=fun x:Wb f=>x.cell d0
     have Y0:=fun x:Wb f=>x.cell y0
     have K0:=fun x:Wb f=>x.cell k0
     have a6:Hid ((R.types.map ai.name)[k]?=some u.name):=by show _=_;rw[List.getElem?_map,hu];rfl
     clear D a hu A l O L
     cases J:(u.name.toList==t.name.toList) with
     | true =>
      have HE:Hid (res=false):=aq.o (ry a6.o ca J);go_upto_region 12 with fail
      clear d0 y0 k0;refine ae (by kernel_rfl) (by kernel_rfl) ?_
      repeat (go_big_quiet_step (fail))
      refine wpQuiet_nil ?_;intro W6 g;have c:=az g;have B:=Hd (n.o.trans (c.mono n.o.size));clear g c D0 Y0 K0 J;go_wp2_with fail
      go_ret;exact⟨by rw[HE.o];rfl,B.o⟩
     | false =>
      have cc:=Hd (pP a6.o a1.o J);go_upto_region 12 with fail
      clear d0 y0 k0;refine ae (by kernel_rfl) (by kernel_rfl) ?_
      repeat (go_big_quiet_step (fail))
      refine wpQuiet_nil ?_;intro W6 g;have c:=az g;have B:=Hd (n.o.trans (c.mono n.o.size));have H:=Hd (aa c s.o (Ez.1 s.o).1);have c0:=Hd (aa c bq.o (Ez.1 bq.o).1);clear g c D0 Y0 K0 J;go_wp2_with fail
      exact⟨⟨W6,k+1,rfl,by omega,by go_num,cc.o,H.o,c0.o,B.o⟩,by simp[intOf];omega⟩
    ·obtain rfl:k=j:=by omega
     clear L l O A;go_wp2_with fail
     exact⟨⟨f,k+1,rfl,by omega,by go_num,ky dc.o cx.o av.o,jK ak.o cA.o a1.o,s.o,n.o⟩,by simp[intOf];omega⟩
  ·obtain rfl:j=E:=by omega
   have a7:Hid (R.types.all dh=true):=by
    have:=cx.o
    rwa [ER (by rw[Q.o];exact EA _)]at this
   have c1:Hid (apartB [] (R.types.map ai.name)=true):=by
    have:=cA.o
    rwa [ER (by rw[List.length_map,Q.o];exact EA _)]at this
   have ch:Hid (res=(R.rules.all (dU d R.types)&&apartB [] (R.rules.map aj.name))):=by
    show _=_
    rw[b2.o,a7.o,c1.o];rfl
   have c3:Hid (∀t∈R.types,t.fields≤6):=fun t ht=>by
    have:=Fe.1 a7.o t ht;unfold dh at this;simp only[EQ,oe]at this;exact this.2
   clear M;go_wp2_with fail
   clear k0 k1
   go_loopw [6] (Eu R d C w rc) (fun i _=>C-(intOf i).toNat)
   case atStart=>exact⟨I,0,rfl,EM _,rfl,rfl,rfl,b4.o,b5.o⟩
   case round =>
    obtain⟨W2,i,rfl,hi,rfl,F,Y,G,M⟩:=hrel;have el:(0:Int)≤i:=by omega
    have af:=Hd G;have K:=Hd M;have br:=Hd F;have bt:=Hd Y;have k1:W2.cell? ⟨w.heap.size,1,none⟩=some (.slice pR C cR):=by rw[Fq _ _ _ _ _ _ G,T.o];rfl
    clear G F Y
    by_cases b6:i<C
    ·have en:(i:Int)<C:=by omega
     obtain⟨r,bk⟩:∃r,R.rules[i]?=some r:=⟨_,EE (by rw[S.o];exact b6)⟩;have ak:Hid ((R.rules.map aj.name)[i]?=some r.name):=by show _=_;rw[List.getElem?_map,bk];rfl
     have c5:=Hd bk;have an:Hid (dU d R.types r=false→res=false):=fun h=>by rw[ch.o,i5 bk h];rfl
     have aq:Hid ((idxOf r.name ((R.rules.map aj.name).take i)).isSome=true→res=false):=fun h=>by rw[ch.o,ku ak.o h];simp
     clear bk M;go_wp2_with fail
     clear k1
     go_loopw [7] (Eo r.name (R.rules.map aj.name) i w rc) (fun k _=>i-(intOf k).toNat)
     case atStart=>exact⟨W2,0,rfl,EM _,rfl,rfl,af.o,K.o⟩
     case round =>
      obtain⟨f,k,rfl,hk,rfl,L,l,A⟩:=hrel;have dd:(0:Int)≤k:=by omega
      have a1:=Hd L;have s:=Hd l;have n:=Hd A;have y:=Rd.row_at (ct.o f A) c5.o;rw[S.o]at y;obtain⟨b,off,cap,vs,ad,_,_,_,_,D,a⟩:=y;injection ad with e1 _ e3
      subst e1;subst e3;obtain⟨U,_,_,sc,sa,rfl,bl,bn⟩:=dY.1 D;have a:∀m z,(yP r sc sa)[m]?=some z→f.cell? ⟨b,off+i*5+m,none⟩=some z:=a;have d0:f.cell? ⟨b,off+i*5,none⟩=some (.string r.name):=a 0 _ rfl;have k1:f.cell? ⟨w.heap.size,1,none⟩=some (slice (some ⟨b,off,none⟩) C cR):=by rw[Fq _ _ _ _ _ _ l,T.o];rfl
      have D0:=fun x:Wb f=>x.cell d0
      have K1:=fun x:Wb f=>x.cell k1
      by_cases ca:k<i
      ·have dg:(k:Int)<i:=by omega
       have ds:(k:Int)<C:=by omega
       obtain⟨u,hu⟩:∃u,R.rules[k]?=some u:=⟨_,EE (by rw[S.o];omega)⟩;have y:=Rd.row_at (ct.o f A) hu;rw[S.o]at y;obtain⟨b',cV,cW,eo,c6,_,_,_,_,bB,P⟩:=y;injection c6 with ck _ _
       injection ck with ck
       injection ck with e4 e5 _
       subst e4;subst e5;obtain⟨_,_,_,_,_,rfl,_,_⟩:=dY.1 bB;have u0:f.cell? ⟨b,off+k*5,none⟩=some (.string u.name):=P 0 _ rfl;have U0:=fun x:Wb f=>x.cell u0
       have a6:Hid ((R.rules.map aj.name)[k]?=some u.name):=by show _=_;rw[List.getElem?_map,hu];rfl
       clear D a bB P hu A l L bl bn U
       cases J:(u.name.toList==r.name.toList) with
       | true =>
        have HE:Hid (res=false):=aq.o (ry a6.o ca J);go_upto_region 20 with fail
        clear d0 u0 k1;refine ae (by kernel_rfl) (by kernel_rfl) ?_
        repeat (go_big_quiet_step (fail))
        refine wpQuiet_nil ?_;intro W6 g;have c:=az g;have B:=Hd (n.o.trans (c.mono n.o.size));clear g c D0 U0 K1 J;go_wp2_with fail
        go_ret;exact⟨by rw[HE.o];rfl,B.o⟩
       | false =>
        have cc:=Hd (pP a6.o a1.o J);go_upto_region 20 with fail
        clear d0 u0 k1;refine ae (by kernel_rfl) (by kernel_rfl) ?_
        repeat (go_big_quiet_step (fail))
        refine wpQuiet_nil ?_;intro W6 g;have c:=az g;have B:=Hd (n.o.trans (c.mono n.o.size));have H:=Hd (aa c s.o (Ez.1 s.o).1);clear g c D0 U0 K1 J;go_wp2_with fail
        exact⟨⟨W6,k+1,rfl,by omega,by go_num,cc.o,H.o,B.o⟩,by simp[intOf];omega⟩
      ·obtain rfl:k=i:=by omega
       have d1:f.cell? ⟨b,off+k*5+1,none⟩=some (int i64 r.sal):=a 1 _ rfl;have d2:f.cell? ⟨b,off+k*5+2,none⟩=some (int i64 r.vars):=a 2 _ rfl;have d3:f.cell? ⟨b,off+k*5+3,none⟩=some sc:=a 3 _ rfl;have d4:f.cell? ⟨b,off+k*5+4,none⟩=some sa:=a 4 _ rfl;have k0:f.cell? ⟨w.heap.size,0,none⟩=some (.slice pT j cT):=by rw[Fq _ _ _ _ _ _ l,T.o];rfl
       have D1:=fun x:Wb f=>x.cell d1
       have D2:=fun x:Wb f=>x.cell d2
       have D3:=fun x:Wb f=>x.cell d3
       have D4:=fun x:Wb f=>x.cell d4
       have K0:=fun x:Wb f=>x.cell k0
       have up:∀{α:Type} {q:Rd α} {xs:List α} {v:Value} (x:Wb f),q.row f (fun b=>b<f.heap.size) xs v→q.row x.1 (fun b=>b<x.1.heap.size) xs v:=fun x h=>Rd.row_sub (fun b (M:b<f.heap.size)=>EF M x.2.size) (Rd.row_below h (fun _ h=>h) x.2)
       have p:=Hd (fun x:Wb f=>BN d R.types _ r sc sa x.1 (up x (HT.o f A)) c3.o (up x bl) (up x bn) U);obtain⟨qc,zc,c7⟩:=Rd.row_shape bl;obtain⟨qa,za,c8⟩:=Rd.row_shape bn;generalize r.conds.length=mc at c7;generalize r.acts.length=ma at c8;subst c7;subst c8;clear D a A l L bl bn U up;go_upto_region 22 with fail
       clear d0 d1 d2 d3 d4 k0 k1
       cases J:dU d R.types r with
       | false =>
        rw[J]at p;have HE:Hid (res=false):=an.o J;clear J;refine ae (by kernel_rfl) (by kernel_rfl) ?_
        repeat (go_big_quiet_step ((go_at_call 19;exact Calls.below_of (p.o _))))
        refine wpQuiet_nil ?_;intro W6 g;have c:=az g;have B:=Hd (n.o.trans (c.mono n.o.size));clear g c D0 D1 D2 D3 D4 K0 K1 p;go_wp2_with fail
        go_ret;exact⟨by rw[HE.o];rfl,B.o⟩
       | true =>
        rw[J]at p;have av:=Hd J;clear J;refine ae (by kernel_rfl) (by kernel_rfl) ?_
        repeat (go_big_quiet_step ((go_at_call 19;exact Calls.below_of (p.o _))))
        refine wpQuiet_nil ?_;intro W6 g;have c:=az g;have B:=Hd (n.o.trans (c.mono n.o.size));have H:=Hd (aa c s.o (Ez.1 s.o).1);clear g c D0 D1 D2 D3 D4 K0 K1 p;go_wp2_with fail
        exact⟨⟨W6,k+1,rfl,by omega,by go_num,ky c5.o br.o av.o,jK ak.o bt.o a1.o,H.o,B.o⟩,by simp[intOf];omega⟩
    ·obtain rfl:i=C:=by omega
     have HE:Hid (res=true):=by
      show _=_
      have h1:=br.o;have h2:=bt.o;rw[ER (by rw[S.o];exact EA _)]at h1;rw[ER (by rw[List.length_map,S.o];exact EA _)]at h2;rw[ch.o,h1,h2];rfl
     clear M;go_wp2_with fail
     go_ret;exact⟨by rw[HE.o];rfl,K.o⟩
def yD:ByteArray:=⟨#[102,97,99,116,32,112,40,97,44,32,98,41,59,32,114,117,108,101,32,114,32,123,32,112,40,63,120,44,32,49,41,59,32,112,40,63,120,44,32,63,121,41,59,32,61,62,32,97,115,115,101,114,116,32,112,40,63,121,44,32,63,120,32,43,32,49,41,59,32,114,101,116,114,97,99,116,32,50,59,32,125]⟩
def B7:ByteArray:=⟨#[114,117,108,101,32,114,32,123,32,113,40,41,59,32,61,62,32,104,97,108,116,59,32,125]⟩
def R8:cd:=match fW yD with | .ok R=>R | .error _=>⟨[],[]⟩
theorem DF:fW yD=.ok R8:=by kernel_rfl
theorem Dd:fW B7=.error (211,9):=by kernel_rfl
theorem Ev:ja 30 R8=true:=by kernel_rfl
def zt(R:cd):Bool:=match R with
 | ⟨[t],[r]⟩=>decide (t.fields=2)&&decide (r.vars=2)&&(match r.conds with
  | [_,c]=>(match c.args with
   | [a,b]=>decide (a.kind=3)&&decide (b.var=1)
   | _=>false)
  | _=>false)&&(match r.acts with
  | [_,x]=>decide (x.which=1)
  | _=>false)
 | _=>false
theorem Bm:zt R8=true:=by kernel_rfl
theorem Es:∃t r f c g x a b,R8.types=[t]∧R8.rules=[r]∧t.fields=2∧r.vars=2∧r.conds=[f,c]∧r.acts=[g,x]∧x.which=1∧c.args=[a,b]∧a.kind=3∧b.var=1:=by
 have h:=Bm;unfold zt at h
 split at h
 ·rename_i t r i
  rw[i];simp only[EQ,oe]at h;obtain⟨⟨⟨j,k⟩,d⟩,e⟩:=h
  split at d
  ·rename_i f c l
   split at d
   ·rename_i a b m
    split at e
    ·rename_i g x n
     simp only[EQ,oe]at d e;exact⟨t,r,f,c,g,x,a,b,rfl,rfl,j,k,l,n,e,m,d.1,d.2⟩
    ·cases e
   ·cases d
  ·cases d
 ·cases h
theorem B6{w:World}{F:Nat→Prop}{d:Nat}{R:cd}{st sr:Value}{t:ai}{r:aj}{c0 c:aC}{x0 x:aT}{a b:cg}(h1:R.types=[t])(h2:R.rules=[r])(h3:r.conds=[c0,c])(h4:r.acts=[x0,x])(h5:c.args=[a,b])
  (ht:bo.row w F R.types st) (hr:(bh d).row w F R.rules sr) :
  ∃l y B h e C m z D bx A E k n G,st=slice (some ⟨l,y,none⟩) 1 B∧sr=slice (some ⟨h,e,none⟩) 1 C∧(F l∧F h∧F m∧F bx∧F k)∧
   w.cell? ⟨l,y+1,none⟩=some (int i64 t.fields)∧w.cell? ⟨h,e,none⟩=some (.string r.name)∧w.cell? ⟨h,e+1,none⟩=some (int i64 r.sal)∧w.cell? ⟨h,e+2,none⟩=some (int i64 r.vars)∧
   w.cell? ⟨h,e+3,none⟩=some (slice (some ⟨m,z,none⟩) 2 D)∧w.cell? ⟨h,e+4,none⟩=some (slice (some ⟨bx,A,none⟩) 2 E)∧
   w.cell? ⟨m,z+12,none⟩=some (slice (some ⟨k,n,none⟩) 2 G)∧w.cell? ⟨k,n,none⟩=some (int .u8 a.kind)∧w.cell? ⟨k,n+6,none⟩=some (int i64 b.var)∧w.cell? ⟨bx,A+6,none⟩=some (int i64 x.which):=by
 rw[h1]at ht;rw[h2]at hr;obtain⟨l,y,B,vt,H,_,_,I,_,J,K⟩:=Rd.row_at (i:=0) ht rfl;obtain⟨h,e,C,vr,L,_,_,M,_,N,f⟩:=Rd.row_at (i:=0) hr rfl;obtain⟨rfl,_⟩:=dN.1 J;obtain⟨_,_,_,sc,sa,rfl,o,p⟩:=dY.1 N;rw[h3]at o;rw[h4]at p;obtain⟨m,z,D,vc,O,_,_,P,_,Q,q⟩:=Rd.row_at (i:=1) o rfl;obtain⟨bx,A,E,vx,S,_,_,T,_,U,V⟩:=Rd.row_at (i:=1) p rfl;obtain⟨_,_,_,af,s,rfl,g,_⟩:=dq.1 Q;obtain⟨_,_,_,s',rfl,_⟩:=eB.1 U;rw[h5]at g;obtain⟨k,n,G,va,u,_,_,W,_,X,Y⟩:=Rd.row_at (i:=0) g rfl;obtain⟨ak,an,aq,ar,j,_,_,_,_,Z,ad⟩:=Rd.row_at (i:=1) g rfl;rw[u]at j;injection j with v _ e3
 injection v with v
 injection v with v e4
 subst v;subst e4;subst e3;obtain⟨rfl,_⟩:=eP.1 X;obtain⟨rfl,_⟩:=eP.1 Z;subst O;subst S;subst u;rw[dL]at q;refine⟨l,y,B,h,e,C,m,z,D,bx,A,E,k,n,G,H,L,⟨I,M,P,T,W⟩,K 1 _ rfl,f 0 _ rfl,f 1 _ rfl,f 2 _ rfl,f 3 _ rfl,f 4 _ rfl,q 2 _ rfl,Y 0 _ rfl,ad 1 _ rfl,V 2 _ rfl⟩
theorem yQ(w:World)(ht:aM w):Calls Tryz.prog 4 #[] w (ap true w):=by
 have k:=Hd (pL yD w ht);rw[DF]at k;have l:=fun W (f:Ft w W)=>pL B7 W (ht.below f)
 rw[Dd]at l;unfold yD at k;unfold B7 at l;have I:=Hd l;obtain⟨t,r,c0,c,x0,x,a,b,q1,q2,q3,q4,q5,q6,q7,q8,q9,J⟩:=Es;have ad:=Hd Ev;generalize R8=R at *;clear ht l
 go_enter Tryz.func4,Tryz.ntmps4
 go_wp2_with fail
 refine EJ k.o ?_;rintro e w1 ⟨m,st,sr,rfl,v,y⟩;obtain⟨E,K,Z,g,d,cr,F,L,cc,bx,M,cx,N,oa,ca,rfl,rfl,⟨⟨_,F1⟩,⟨_,G⟩,⟨_,F3⟩,⟨_,F4⟩,⟨_,F5⟩⟩,d1,d2,d3,d4,d5,d6,d7,d8,d9,d10⟩:=B6 q1 q2 q5 q6 q8 v y;rw[q3]at d1;rw[q4]at d4;rw[q9]at d8;rw[J]at d9;rw[q7]at d10
 have HX:Hid (∀W,Ft w1 W→W.cell? ⟨E,K+1,none⟩=some (int i64 2)∧W.cell? ⟨g,d,none⟩=some (.string r.name)∧W.cell? ⟨g,d+1,none⟩=some (int i64 r.sal)∧W.cell? ⟨g,d+2,none⟩=some (int i64 2)∧
   W.cell? ⟨g,d+3,none⟩=some (slice (some ⟨F,L,none⟩) 2 cc)∧W.cell? ⟨g,d+4,none⟩=some (slice (some ⟨bx,M,none⟩) 2 cx)∧
   W.cell? ⟨F,L+12,none⟩=some (slice (some ⟨N,oa,none⟩) 2 ca)∧W.cell? ⟨N,oa,none⟩=some (int .u8 3)∧W.cell? ⟨N,oa+6,none⟩=some (int i64 1)∧W.cell? ⟨bx,M+6,none⟩=some (int i64 1)):=by
  intro W f;refine⟨(f.cell (p:=⟨E,_,none⟩) F1).trans d1,(f.cell (p:=⟨g,_,none⟩) G).trans d2,(f.cell (p:=⟨g,_,none⟩) G).trans d3,(f.cell (p:=⟨g,_,none⟩) G).trans d4,(f.cell (p:=⟨g,_,none⟩) G).trans d5,(f.cell (p:=⟨g,_,none⟩) G).trans d6,(f.cell (p:=⟨F,_,none⟩) F3).trans d7,(f.cell (p:=⟨N,_,none⟩) F5).trans d8,(f.cell (p:=⟨N,_,none⟩) F5).trans d9,(f.cell (p:=⟨bx,_,none⟩) F4).trans d10⟩
 have HR:Hid (∀W,Ft w1 W→Calls Tryz.prog 7 #[.agg #[slice (some ⟨E,K,none⟩) 1 Z,slice (some ⟨g,d,none⟩) 1 cr]] W (ap true W)):=by
  intro W f;have:=nO (fun b=>b<w1.heap.size) 30 R _ _ W (fun b h=>EF h f.size) (Rd.row_below (Rd.row_sub (fun b h=>h.2) v) (fun _ h=>h) f) (Rd.row_below (Rd.row_sub (fun b h=>h.2) y) (fun _ h=>h) f);rw[ad.o]at this;exact this
 obtain⟨H,n⟩:=zzx (((w1.alloc (.cells #[slice (some ⟨E,K,none⟩) 1 Z,slice (some ⟨g,d,none⟩) 1 cr] 25)).alloc (.cells #[int i64 0,int i64 0] 32)));have z:Ft w1 H:=by rw[n];exact bz w1 _ _
 obtain⟨X0,X1,_⟩:=am w1 (.cells #[slice (some ⟨E,K,none⟩) 1 Z,slice (some ⟨g,d,none⟩) 1 cr] 25) (.cells #[int i64 0,int i64 0] 32);rw[←n]at X0 X1;have ar:w1.heap.size+1<H.heap.size:=(Ez.1 X1).1;have O:=Hd z;have P:=Hd m;have HC:=Hd (I.o H (m.trans (z.mono m.size)));have Q:=Hd X0;have S:=Hd X1;clear m v y d1 d2 d3 d4 d5 d6 d7 d8 d9 d10 z X0 X1 k I q1 q2 q3 q4 q5 q6 q7 q8 q9 J F1 G F3 F4 F5;go_upto_region 2 with fail
 change Code.wp _ _ _ _ ((w1.alloc (.cells #[slice (some ⟨E,K,none⟩) 1 Z,slice (some ⟨g,d,none⟩) 1 cr] 25)).alloc (.cells #[int i64 0,int i64 0] 32));rw[←n];clear n;go_wp2_with fail
 refine EJ HC.o ?_;rintro e A ⟨q,rfl⟩;obtain⟨j,s⟩:=zzx (((A.alloc (.cells #[slice none 0 0,slice none 0 0] 25)).alloc (.cells #[int i64 211,int i64 9] 32)));have T:Ft A j:=by rw[s];exact bz A _ _
 obtain⟨Y0,Y1,_⟩:=am A (.cells #[slice none 0 0,slice none 0 0] 25) (.cells #[int i64 211,int i64 9] 32);rw[←s]at Y0 Y1;have av:A.heap.size+1<j.heap.size:=(Ez.1 Y1).1;have a6:H.heap.size≤A.heap.size:=q.size;have i:=q.trans (T.mono q.size);have Z0:=aa i Q.o (by omega);have Z1:=aa i S.o (by omega);have B:=Hd (O.o.trans (i.mono O.o.size));have U:=Hd Z0;have af:=Hd Z1;have ak:=Hd Y1;clear q T i Q S Z0 Z1 Y0 Y1 HC;go_upto_region 3 with fail
 change Code.wp _ _ _ _ ((A.alloc (.cells #[slice none 0 0,slice none 0 0] 25)).alloc (.cells #[int i64 211,int i64 9] 32));rw[←s];clear s;obtain⟨a0,a1,_,_⟩:=dp U.o;obtain⟨b0,b1,_,_⟩:=dp af.o;obtain⟨c0,c1,_,_⟩:=dp ak.o;obtain⟨d1,d2,d3,d4,d5,d6,_⟩:=HX.o j B.o;go_upto_region 6 with fail
 clear a0 a1 b0 b1 c0 c1 d1 d2 d3 d4 d5 d6;change Code.wp _ _ _ _ (j.alloc (.cells #[.string r.name,int i64 r.sal,int i64 2,slice (some ⟨F,L,none⟩) 2 cc,slice (some ⟨bx,M,none⟩) 2 cx] 38));obtain⟨X,C⟩:=zzx ((j.alloc (.cells #[.string r.name,int i64 r.sal,int i64 2,slice (some ⟨F,L,none⟩) 2 cc,slice (some ⟨bx,M,none⟩) 2 cx] 38)));have D:Ft j X:=by rw[C];exact (EB _ j).alloc (EA _) _
 have V:=n7 j (.cells #[.string r.name,int i64 r.sal,int i64 2,slice (some ⟨F,L,none⟩) 2 cc,slice (some ⟨bx,M,none⟩) 2 cx] 38);rw[←C]at V ⊢;have u:=Hd (B.o.trans (D.mono B.o.size));obtain⟨v0,v1,v2,v3,v4⟩:=cells5 V;obtain⟨a0,a1,_,_⟩:=dp (aa D U.o (by omega));obtain⟨d1,d2,d3,d4,d5,d6,d7,d8,d9,d10⟩:=HX.o X u.o;have an:=Hd (HR.o X u.o);clear C V D HX HR;go_wp2_with fail
 refine EJ an.o ?_;rintro e w3 ⟨rfl,Y⟩;have aq:=Hd (P.o.trans ((u.o.trans (Y.mono u.o.size)).mono P.o.size));clear Y;go_wp2_with fail
 go_ret;exact⟨rfl,aq.o⟩
theorem qQ(d:Nat)(R:cd)(vs:List Value)(w:World)(hR:(iW d).at_ w (fun b=>b<w.heap.size) R vs)(y:yH R)(ht:aM w) :
  Calls Tryz.prog 3 #[.agg vs.toArray] w (ap true w):=by
 obtain⟨st,sr,rfl,l,m⟩:=jb.1 hR;obtain⟨Z,cT,z⟩:=Rd.row_shape l;obtain⟨pR,cR,A⟩:=Rd.row_shape m;obtain⟨B,C⟩:=zzy (R.types.length);obtain⟨D,E⟩:=zzy (R.rules.length);rw[C]at z;rw[E]at A;subst z;subst A;have n:Ft w (w.alloc (.cells #[.slice Z B cT,.slice pR D cR] 25)):=(EB _ w).alloc (EA _) _;have F:(w.alloc (.cells #[.slice Z B cT,.slice pR D cR] 25)).heap[w.heap.size]?=some (.cells #[.slice Z B cT,.slice pR D cR] 25 (0,0)):=n7 w _;have G:=Hd F;have H:=Hd n;have X:=Hd (fun W (hW:Ft w W)=>Rd.row_later l hW);have g:=Hd (fun W (hW:Ft w W)=>Rd.row_later m hW);have HA:=Hd (yQ _ (ht.below n));have ad:=Hd y;clear n F hR l m C E ht y
 go_enter Tryz.func3,Tryz.ntmps3
 go_wp2_with fail
 refine EJ HA.o ?_;rintro e w2 ⟨rfl,p⟩;have i:=Hd (H.o.trans (p.mono H.o.size));have q:=Hd (aa p G.o (Ez.1 G.o).1);obtain⟨a0,a1,_,_⟩:=dp q.o;clear p HA;go_wp2_with fail
 refine (Ae d R _ _ w2 (X.o _ i.o) (g.o _ i.o) ad.o).mono ?_;rintro e I ⟨b,rfl,J,r⟩;have f:=Hd (i.o.trans (r.mono i.o.size));have s:=Hd (aa r q.o (Ez.1 q.o).1);clear r a0 a1
 cases b with
 | false =>
  go_wp2_with fail
  go_ret;exact⟨rfl,f.o⟩
 | true =>
  have K:=Hd (J rfl);clear J;obtain⟨a0,a1,_,_⟩:=dp s.o;go_wp2_with fail
  refine (sj d (fun b=>b<I.heap.size) R _ _ _ _ _ _ I (X.o _ f.o) (g.o _ f.o) (fun _ h=>h) K.o).mono ?_;rintro e w4 ⟨us,rfl,t,Y⟩;obtain⟨y1,y2,L,M,N⟩:=Y;have Y:(ka d).at_ w4 (fun b=>I.heap.size≤b∧b<w4.heap.size) R us:=⟨y1,y2,L,M,N⟩;obtain⟨g1,rfl,_⟩:=M;obtain⟨g2,rfl,_⟩:=N;subst L;have HL:=Hd Y;obtain⟨c,j⟩:=zzx (w4.alloc (.cells #[slice (some ⟨g1,0,none⟩) R.types.length (R.types.length+(marks eW).length),slice (some ⟨g2,0,none⟩) R.rules.length (R.rules.length+(marks fP).length)] 25));have k:Ft w4 c:=by rw[j];exact (EB _ w4).alloc (EA _) _
  have O:c.heap[w4.heap.size]?=some (.cells #[slice (some ⟨g1,0,none⟩) R.types.length (R.types.length+(marks eW).length),slice (some ⟨g2,0,none⟩) R.rules.length (R.rules.length+(marks fP).length)] 25 (0,0)):=by rw[j];exact n7 w4 _
  have u:=t.trans (k.mono t.size);have a:=Hd (f.o.trans (u.mono f.o.size));have P:=Hd (aa u s.o (Ez.1 s.o).1);have af:=Hd O;have v:Hid ((ka d).at_ c (fun b=>b<c.heap.size) R [slice (some ⟨g1,0,none⟩) R.types.length (R.types.length+(marks eW).length),slice (some ⟨g2,0,none⟩) R.rules.length (R.rules.length+(marks fP).length)]):=
   (ka d).sub (fun b (hb:I.heap.size≤b∧b<w4.heap.size)=>EF hb.2 k.size) ((ka d).keep (fun b (hb:I.heap.size≤b∧b<w4.heap.size) o ho=>(k.block b hb.2).trans ho) HL.o)
  have Q:Hid (∀x:Wb c,Calls Tryz.prog 7 #[.agg #[slice (some ⟨g1,0,none⟩) R.types.length (R.types.length+(marks eW).length),slice (some ⟨g2,0,none⟩) R.rules.length (R.rules.length+(marks fP).length)]] x.1 (ap (ja d R) x.1)):=fun x=>by
   obtain⟨s1,s2,e,k1,k2⟩:=jb.1 (rA d _ _ _ _ (Rd.later v.o x.2));injection e with e1 e
   injection e with e2 _
   subst e1;subst e2;exact nO (fun b=>b<x.1.heap.size) d R _ _ x.1 (fun _ h=>h) k1 k2
  have S:=Hd (fun x:Wb c=>v6 d R _ _ x.1 (X.o _ (a.o.trans (x.2.mono a.o.size))) (g.o _ (a.o.trans (x.2.mono a.o.size))));have HK:=Hd (fun x:Wb c=>sD d R _ _ x.1 (Rd.later v.o x.2) (jb.2 ⟨_,_,rfl,X.o _ (a.o.trans (x.2.mono a.o.size)),g.o _ (a.o.trans (x.2.mono a.o.size))⟩) K.o);have ak:=P.o;obtain⟨ok,T⟩:=zzy (ja d R);rw[T]at Q S;generalize an:R.types.length+(marks eW).length=mA at *;generalize aq:R.rules.length+(marks fP).length=mB at *;generalize ar:R.types.length=mC at *;generalize av:R.rules.length=mD at *;clear t k O u Y T ak an aq ar av a0 a1 HL v;go_upto_region 6 with fail
  change Code.wp _ _ _ _ (w4.alloc (.cells #[slice (some ⟨g1,0,none⟩) mC mA,slice (some ⟨g2,0,none⟩) mD mB] 25));rw[←j];clear j;obtain⟨a0,a1,_,_⟩:=dp P.o;obtain⟨b0,b1,_,_⟩:=dp af.o;have A0:=fun x:Wb c=>x.cell a0
  have A1:=fun x:Wb c=>x.cell a1
  have B0:=fun x:Wb c=>x.cell b0
  have B1:=fun x:Wb c=>x.cell b1
  clear a0 a1 b0 b1
  cases ok <;>
  ·refine ae (by kernel_rfl) (by kernel_rfl) ?_
   repeat (go_big_quiet_step ((first|(go_at_call 7;exact Calls.below_of (Q.o _))|(go_at_call 8;exact Calls.below_of (S.o _))|(go_at_call 9;exact Calls.below_of (HK.o _)))))
   refine wpQuiet_nil ?_;intro W6 U;have V:=az U;have a6:=Hd (a.o.trans (V.mono a.o.size));clear U V A0 A1 B0 B1;go_wp2_with fail
   go_ret;exact⟨rfl,a6.o⟩
