/- Parts of one proof, joined; conditions stand in each theorem. -/
import Derived.Test.YtoahnjkclckodaaGreatDoorNA
import Derived.Test.YtoahnjkclckodaaGreatDoorNB
import Derived.Test.YtoahnjkclckodaaGreatDoorMD
open Option renaming none→Y,some→A
open Go.Value renaming bool→xt,int→I,agg→wP,tuple→y9,string→r9,slice→O,pointer→vo,func→z6
open Go.IntKind renaming i64→U,u8→r8
open Bool renaming false→ur,true→tT
open Go renaming World→J,Value→tS,Calls→vv,undef→xk,wpQuiet_nil→xL
open Go.Ending renaming returned→wg
open Go.Obj renaming cells→r7
open Go.Proofs.Tryz renaming prog→va
open Except renaming error→zs,ok→xn
namespace Go.Proofs.YtoahnjkclckodaaGreatDoor
set_option maxHeartbeats 2000000
set_option maxRecDepth 100000
open Go.RowKit
def iR:List (Bool×Int)→Option Int
 | []=>Y
 | (b,e)::l=>if b then A e else iR l
def fQ(l:List (Bool×Int)):List Value:=(l.map fun x=>[xt x.1,I U x.2]).flatten
theorem AC:∀(l:List (Bool×Int)) (k:Nat) (x:Bool×Int),l[k]?=A x→(fQ l)[k*2]?=A (xt x.1)∧(fQ l)[k*2+1]?=A (I U x.2)
 | [],k,x,h=>by simp at h
 | y::l,0,x,h=>by
  simp only[List.getElem?_cons_zero,o6]at h;subst h;exact⟨Z,Z⟩
 | y::l,k+1,x,h=>by
  rw[Km]at h;have:=AC l k x h;have e:fQ (y::l)=xt y.1::I U y.2::fQ l:=rfl;rw[e,show (k+1)*2=k*2+1+1 by omega]
  simpa using this
theorem kX(l:List (Bool×Int)):∀k,(∀j x,j<k→l[j]?=A x→x.1=ur)→iR l=iR (l.drop k)
 | 0,_=>rfl
 | k+1,h=>by
  rw[kX l k (fun j x i d=>h j x (by omega) d)]
  cases a:l.drop k with
  | nil =>
   have:l.drop (k+1)=[]:=by rw[←List.drop_drop,a];rfl
   rw[this]
  | cons y r =>
   have f:l.drop (k+1)=r:=by rw[←List.drop_drop,a];rfl
   have g:l[k]?=A y:=by
    have:=o4 (·[0]?) a
    simpa using this
   have c:=h k y (by omega) g;rw[f];obtain⟨b,e⟩:=y;have c:b=false:=c
   show (if b then A e else iR r)=iR r
   rw[c];rfl
def aR(er place:Int):Ending:=.panicked [{ v:=.iface 109 (wP #[I U er,I U place]),recovered:=ur }]
def Hj(l:List (Bool×Int)) (place:Int) (w:J) (e:Ending) (w':J):Prop:=Kr w w'∧match iR l with
 | none=>e=wg (y9 #[])
 | some er=>e=aR er place
def Jc(w:J) (n:Nat) (l:List (Bool×Int)) (cs:Array tS) (i:tS) (W:J):Prop:=∃k:Nat,k≤n∧i=I U (k:Int)∧Kr w W∧W.heap[w.heap.size]?=A (r7 cs 145 (0,0))∧(∀j x,j<k→l[j]?=A x→x.1=ur)
theorem bZ(l:List (Bool×Int))(k:Nat)(t:ByteArray)(nm pl:Int)(s:tS)(g n c:Nat)(w:J)(H:l.length=n)(R:n≤100)(E:w.heap[g]?=A (r7 (fQ l).toArray 238 (0,0))) :
  vv va 124 #[wP #[I r8 k,r9 t,I U nm,I U pl,s],O (A ⟨g,0,Y⟩) n c] w (Hj l pl w):=by
 have F:g<w.heap.size:=(JL.1 E).1;obtain⟨S,K⟩:=zz2 E H;have q:Kr w (w.alloc (r7 #[I r8 k,r9 t,I U nm,I U pl,s] 145)):=(JO _ w).alloc (JM _) _;have L:Hid ((w.alloc (r7 #[I r8 k,r9 t,I U nm,I U pl,s] 145)).heap[w.heap.size]?=A (r7 #[I r8 k,r9 t,I U nm,I U pl,s] 145 (0,0))):=oc w _;have M:=Hd q;clear E H q
 go_enter Tryz.func124,Tryz.ntmps124
 go_wp2
 go_loopw [8] (Jc w n l #[I r8 k,r9 t,I U nm,I U pl,s]) (fun i _=>n-(intOf i).toNat)
 case atStart=>exact⟨0,J0 _,Z,M.o,L.o,fun j x N=>by omega⟩
 case round =>
  clear M L;obtain⟨i,hi,rfl,P,a,u⟩:=hrel;have T:(0:Int)≤i:=by omega
  obtain⟨d,v,e⟩:=zz3 P a u;clear P a u
  by_cases G:i<n
  ·have V:(i:Int)<n:=by omega
   obtain⟨x,f⟩:∃x,l[i]?=A x:=⟨_,JR (by rw[K.o];exact G)⟩;obtain⟨b,er⟩:=x;have m:=aa d.o S.o F;obtain⟨a0,a1⟩:=AC l i (b,er) f;have c0:wr.cell? ⟨g,i*2,Y⟩=A (xt b):=by rw[Kq _ _ _ _ _ _ m];simpa using a0
   have c1:wr.cell? ⟨g,i*2+1,Y⟩=A (I U er):=by rw[Kq _ _ _ _ _ _ m];simpa using a1
   have z:=Hd f;have p:Kr wr (wr.alloc (r7 #[xt b,I U er] 238)):=(JO _ wr).alloc (JM _) _;obtain⟨B,C⟩:=zz2 (d.o.trans (p.mono d.o.size)) (aa p v.o (JL.1 v.o).1);have d3:(wr.alloc (r7 #[xt b,I U er] 238)).cell? ⟨w.heap.size,3,Y⟩=A (I U pl):=by rw[Kq _ _ _ _ _ _ C.o];rfl
   clear m a0 a1 f p
   cases b with
   | true =>
    have W:Hid (iR l=A er):=by
     show _=_
     rw[kX l i e.o];obtain⟨r,X⟩:∃r,l.drop i=(tT,er)::r:=by
      have:=z.o
      cases Q:l.drop i with
      | nil =>
       have D:=o4 (·[0]?) Q;simp[this]at D
      | cons y r =>
       have D:=o4 (·[0]?) Q;simp[this]at D;exact⟨r,by rw[D]⟩
     rw[X];rfl
    go_wp2
    refine⟨Z,B.o,?_⟩;rw[W.o];rfl
   | false =>
    go_wp2
    exact⟨⟨i+1,by omega,by go_num,B.o,C.o,fun j x N a=>by
     by_cases h:j=i
     ·subst h;rw[z.o]at a;injection a with a
      rw[←a]
     ·exact e.o j x (by omega) a⟩,by simp[intOf];omega⟩
  ·go_wp2
   go_returns
   refine⟨d.o,?_⟩;have hF:iR l=none:=by
    rw[kX l n (fun j x N a=>e.o j x (by omega) a),List.drop_of_length_le (by rw[K.o];exact JM _)];rfl
   rw[hF]
theorem yk(x:ByteArray):∀(l:List ByteArray) (m k:Nat) (y:ByteArray),l[k]?=A y→(y.data.toList==x.data.toList)=tT→(∀(j:Nat) (z:ByteArray),j<k→l[j]?=A z→(z.data.toList==x.data.toList)=ur)→jt x l m=A (m+k)
 | [],m,k,y,h,_,_=>by simp at h
 | z::l,m,0,y,h,he,_=>by
  simp only[List.getElem?_cons_zero,o6]at h;subst h;unfold jt;rw[oj he];rfl
 | z::l,m,k+1,y,h,he,a=>by
  rw[Km]at h;have b:=a 0 z (by omega) Z;unfold jt;rw[b];simp only[Ka,oF];rw[yk x l (m+1) k y h he (fun j c e d=>a (j+1) c (by omega) (by rw[Km];exact d))]
  congr 1;omega
theorem uW(x:ByteArray):∀(l:List ByteArray) (m:Nat),(∀(j:Nat) (z:ByteArray),l[j]?=A z→(z.data.toList==x.data.toList)=ur)→jt x l m=Y
 | [],m,_=>rfl
 | z::l,m,a=>by
  unfold jt;rw[a 0 z Z];simp only[Ka,oF];exact uW x l (m+1) (fun j b c=>a (j+1) b (by rw[Km];exact c))
def eK:Option Nat→Int
 | some k=>k
 | none=>-1
theorem idxOf_hit{x y:ByteArray}{l:List ByteArray}{k:Nat}(h:l[k]?=A y)(he:(y.data.toList==x.data.toList)=tT)(a:∀(j:Nat)(z:ByteArray),j<k→l[j]?=A z→(z.data.toList==x.data.toList)=ur):eK (idxOf x l)=k:=by
 unfold idxOf;rw[yk x l 0 k y h he a,Nat.zero_add];rfl
theorem idxOf_miss{x:ByteArray}{l:List ByteArray}(a:∀(j:Nat)(z:ByteArray),l[j]?=A z→(z.data.toList==x.data.toList)=ur):eK (idxOf x l)=-1:=by
 unfold idxOf;rw[uW x l 0 a];rfl
theorem fW{w:J}{T o:Nat}{v:tS}(h:w.cell? ⟨T,o,Y⟩=A v):T<w.heap.size:=by
 cases a:w.heap[T]? with
 | none=>unfold World.cell? at h;simp[a]at h
 | some o=>exact (JL.1 a).1
theorem Db(a b:ByteArray)(n:Int)(T:Nat)(w:J)(d:w.cell? ⟨T,0,Y⟩=A (r9 b)) :
  vv va 151 #[wP #[r9 a,I U n],vo (A ⟨T,0,Y⟩)] w fun e w'=>e=wg (xt (a.data.toList==b.data.toList))∧Kr w w':=by
 have f:=fW d;have c:Kr w (w.alloc (r7 #[r9 a,I U n] 118)):=(JO _ w).alloc (JM _) _;have g:(w.alloc (r7 #[r9 a,I U n] 118)).cell? ⟨T,0,Y⟩=A (r9 b):=(c.cell (p:=⟨T,0,Y⟩) f).trans d;have h:=Hd c;clear c
 go_enter Tryz.func151,Tryz.ntmps151
 go_wp2
 go_ret;exact⟨by rw[J1,J1];rfl,h.o⟩
def Al(w:J) (n:Nat) (l:List ByteArray) (x:ByteArray) (i:tS) (W:J):Prop:=∃k:Nat,k≤n∧i=I U (k:Int)∧Kr w W∧(∀(j:Nat) (z:ByteArray),j<k→l[j]?=A z→(z.data.toList==x.data.toList)=ur)
theorem F5(types:List am)(x:ByteArray)(v:tS)(F:Nat→Prop)(T:Nat)(w:J)(D:eW.h w F types v)(hF:∀b,F b→b<w.heap.size)(G:w.cell? ⟨T,0,Y⟩=A (r9 x)) :
  vv va 150 #[v,z6 (.func 151) #[] #[vo (A ⟨T,0,Y⟩)]] w (fun e w'=>e=wg (I U (eK (dE x types)))∧Kr w w'):=by
 obtain⟨p,c,rfl⟩:=Rd.q D;have d:=Rd.sb D;obtain⟨n,H⟩:=zzy (types.length);have R:=Hd (fun W (K:Kr w W)=>Rd.sm D hF K);have L:=Hd (fun W (K:Kr w W)=>(K.cell (p:=⟨T,0,Y⟩) (fW G)).trans G);rw[H]at d R ⊢;have M:=Hd H;have S:(n:Int)≤9223372036854775807:=by unfold maxLen at d;omega
 clear D G H d
 go_enter Tryz.func150,Tryz.ntmps150
 go_wp2
 go_loopw [8] (Al w n (types.map am.c) x) (fun i _=>n-(intOf i).toNat)
 case atStart=>exact⟨0,J0 _,Z,JO _ _,fun j z V=>by omega⟩
 case round =>
  obtain⟨k,hk,rfl,q,r⟩:=hrel;have X:(0:Int)≤k:=by omega
  obtain⟨N,l⟩:=zz2 q r;clear r
  by_cases P:k<n
  ·have ad:(k:Int)<n:=by omega
   obtain⟨t,m⟩:∃t,types[k]?=A t:=⟨_,JR (by rw[M.o];exact P)⟩;have f:=R.o wr q;have s:=Rd.X f m;rw[M.o]at s;obtain⟨b,off,cap,vs,he,_,_,_,_,u,a⟩:=s;injection he with e1 _ e3
   subst e1;subst e3;obtain⟨rfl,_,_⟩:=qG.1 u;have c0:wr.cell? ⟨b,off+k*2,Y⟩=A (r9 t.c):=a 0 _ Z;have c1:wr.cell? ⟨b,off+k*2+1,Y⟩=A (I U t.a):=a 1 _ Z;have HK:=Hd (Db t.c x t.a T wr (L.o wr q));have y:Hid ((types.map am.c)[k]?=A t.c):=by show _=_;rw[List.getElem?_map,m];rfl
   clear f u a m q;go_wp2_with fail
   refine HK.o.mono ?_;rintro e w1 ⟨rfl,B⟩;have C:=Hd (N.o.trans (B.mono N.o.size));clear B c0 c1
   cases E:(t.c.data.toList==x.data.toList) with
   | true =>
    have Q:=Hd (idxOf_hit y.o E l.o);clear E;go_wp2_with fail
    go_ret;exact⟨by rw[show dE x types=idxOf x (types.map am.c) from rfl,Q.o];rfl,C.o⟩
   | false =>
    have HQ:=Hd E;clear E;go_wp2_with fail
    exact⟨⟨k+1,by omega,by go_num,C.o,fun j z V g=>by
     by_cases h:j=k
     ·subst h;rw[y.o]at g;injection g with g
      rw[←g];exact HQ.o
     ·exact l.o j z (by omega) g⟩,by simp[intOf];omega⟩
  ·have Q:Hid (eK (dE x types)=-1):=idxOf_miss (fun j z g=>l.o j z (by
    have:=(J3.1 g).1;rw[List.length_map,M.o]at this
    omega) g)
   clear q;go_wp2_with fail
   go_ret;exact⟨by rw[Q.o];rfl,N.o⟩
theorem Da(a b:ByteArray)(n m:Int)(c d:tS)(T:Nat)(w:J)(g:w.cell? ⟨T,0,Y⟩=A (r9 b)) :
  vv va 155 #[wP #[r9 a,I U n,I U m,c,d],vo (A ⟨T,0,Y⟩)] w fun e w'=>e=wg (xt (a.data.toList==b.data.toList))∧Kr w w':=by
 have h:=fW g;have f:Kr w (w.alloc (r7 #[r9 a,I U n,I U m,c,d] 159)):=(JO _ w).alloc (JM _) _;have i:(w.alloc (r7 #[r9 a,I U n,I U m,c,d] 159)).cell? ⟨T,0,Y⟩=A (r9 b):=(f.cell (p:=⟨T,0,Y⟩) h).trans g;have j:=Hd f;clear f
 go_enter Tryz.func155,Tryz.ntmps155
 go_wp2
 go_ret;exact⟨by rw[J1,J1];rfl,j.o⟩
theorem F4(d:Nat)(types:List aD)(x:ByteArray)(v:tS)(F:Nat→Prop)(T:Nat)(w:J)(H:(fM d).h w F types v)(hF:∀b,F b→b<w.heap.size)(L:w.cell? ⟨T,0,Y⟩=A (r9 x)) :
  vv va 154 #[v,z6 (.func 155) #[] #[vo (A ⟨T,0,Y⟩)]] w (fun e w'=>e=wg (I U (eK (idxOf x (types.map aD.c))))∧Kr w w'):=by
 obtain⟨p,c,rfl⟩:=Rd.q H;have f:=Rd.sb H;obtain⟨n,M⟩:=zzy (types.length);have X:=Hd (fun W (N:Kr w W)=>Rd.sm H hF N);have P:=Hd (fun W (N:Kr w W)=>(N.cell (p:=⟨T,0,Y⟩) (fW L)).trans L);rw[M]at f X ⊢;have Q:=Hd M;have ad:(n:Int)≤9223372036854775807:=by unfold maxLen at f;omega
 clear H L M f
 go_enter Tryz.func154,Tryz.ntmps154
 go_wp2
 go_loopw [8] (Al w n (types.map aD.c) x) (fun i _=>n-(intOf i).toNat)
 case atStart=>exact⟨0,J0 _,Z,JO _ _,fun j z hj=>by omega⟩
 case round =>
  obtain⟨k,hk,rfl,r,s⟩:=hrel;have af:(0:Int)≤k:=by omega
  obtain⟨R,m⟩:=zz2 r s;clear s
  by_cases S:k<n
  ·have aq:(k:Int)<n:=by omega
   obtain⟨t,q⟩:∃t,types[k]?=A t:=⟨_,JR (by rw[Q.o];exact S)⟩;have g:=X.o wr r;have u:=Rd.X g q;rw[Q.o]at u;obtain⟨b,off,cap,vs,he,_,_,_,_,y,a⟩:=u;injection he with e1 _ e3
   subst e1;subst e3;obtain⟨_,_,_,sc,sa,rfl,B,C⟩:=uy.1 y;obtain⟨pc,cc,rfl⟩:=Rd.q B;obtain⟨pa,ca,rfl⟩:=Rd.q C;have c0:wr.cell? ⟨b,off+k*5,Y⟩=A (r9 t.c):=a 0 _ Z;have c1:wr.cell? ⟨b,off+k*5+1,Y⟩=A (I U t.sal):=a 1 _ Z;have c2:wr.cell? ⟨b,off+k*5+2,Y⟩=A (I U t.b):=a 2 _ Z;have c3:wr.cell? ⟨b,off+k*5+3,Y⟩=A (O pc t.a.length cc):=a 3 _ Z;have c4:wr.cell? ⟨b,off+k*5+4,Y⟩=A (O pa t.d.length ca):=a 4 _ Z;have HK:=Hd (Da t.c x t.sal t.b (O pc t.a.length cc) (O pa t.d.length ca) T wr (P.o wr r));clear B C;have D:Hid ((types.map aD.c)[k]?=A t.c):=by show _=_;rw[List.getElem?_map,q];rfl
   clear g y a q r;go_wp2_with fail
   refine HK.o.mono ?_;rintro e w1 ⟨rfl,E⟩;have G:=Hd (R.o.trans (E.mono R.o.size));clear E c0 c1 c2 c3 c4
   cases K:(t.c.data.toList==x.data.toList) with
   | true =>
    have V:=Hd (idxOf_hit D.o K m.o);clear K;go_wp2_with fail
    go_ret;exact⟨by rw[V.o];rfl,G.o⟩
   | false =>
    have HQ:=Hd K;clear K;go_wp2_with fail
    exact⟨⟨k+1,by omega,by go_num,G.o,fun j z hj l=>by
     by_cases h:j=k
     ·subst h;rw[D.o]at l;injection l with l
      rw[←l];exact HQ.o
     ·exact m.o j z (by omega) l⟩,by simp[intOf];omega⟩
  ·have V:Hid (eK (idxOf x (types.map aD.c))=-1):=idxOf_miss (fun j z l=>m.o j z (by
    have:=(J3.1 l).1;rw[List.length_map,Q.o]at this
    omega) l)
   clear r;go_wp2_with fail
   go_ret;exact⟨by rw[V.o];rfl,R.o⟩
theorem xJ(types:List am)(x:ByteArray)(vT:tS)(F:Nat→Prop)(M:Nat)(w:J)(f:eW.h w F types vT)(hF:∀b,F b→b<w.heap.size)(hm:w.cell? ⟨M,0,Y⟩=A vT) :
  vv va 125 #[vo (A ⟨M,0,Y⟩),r9 x] w (fun e w'=>e=wg (I U (eK (dE x types)))∧Kr w w'):=by
 have j:∀(fn:Fn) (first cap:Array tS) (w:J),(Instr.makeFunc fn first cap).run va w=.ok (z6 fn first cap) w:=fun _ _ _ _=>rfl
 obtain⟨p,c,rfl⟩:=Rd.q f;have a:Kr w (w.alloc (r7 #[r9 x] 9)):=(JO _ w).alloc (JM _) _;have g:(w.alloc (r7 #[r9 x] 9)).cell? ⟨M,0,Y⟩=A (O p types.length c):=(a.cell (p:=⟨M,0,Y⟩) (fW hm)).trans hm;obtain⟨k,i⟩:=zz2 (F5 types x _ F w.heap.size (w.alloc (r7 #[r9 x] 9)) (Rd.sm f hF a) (fun b l=>JS (hF b l) a.size) (cell_new1 w _ _)) a;clear f a hm
 go_enter Tryz.func125,Tryz.ntmps125
 go_wp2_with fail
 refine k.o.mono ?_;rintro e w1 ⟨rfl,d⟩;have h:=Hd (i.o.trans (d.mono i.o.size));clear d g;go_wp2_with fail
 go_ret;exact⟨Z,h.o⟩
theorem Hr(d:Nat)(rules:List aD)(x:ByteArray)(vR:tS)(F:Nat→Prop)(M:Nat)(w:J)(g:(fM d).h w F rules vR)(hF:∀b,F b→b<w.heap.size)(hm:w.cell? ⟨M,1,Y⟩=A vR) :
  vv va 129 #[vo (A ⟨M,0,Y⟩),r9 x] w (fun e w'=>e=wg (I U (eK (idxOf x (rules.map aD.c))))∧Kr w w'):=by
 have k:∀(fn:Fn) (first cap:Array tS) (w:J),(Instr.makeFunc fn first cap).run va w=.ok (z6 fn first cap) w:=fun _ _ _ _=>rfl
 obtain⟨p,c,rfl⟩:=Rd.q g;have a:Kr w (w.alloc (r7 #[r9 x] 9)):=(JO _ w).alloc (JM _) _;have h:(w.alloc (r7 #[r9 x] 9)).cell? ⟨M,1,Y⟩=A (O p rules.length c):=(a.cell (p:=⟨M,1,Y⟩) (fW hm)).trans hm;obtain⟨l,j⟩:=zz2 (F4 d rules x _ F w.heap.size (w.alloc (r7 #[r9 x] 9)) (Rd.sm g hF a) (fun b m=>JS (hF b m) a.size) (cell_new1 w _ _)) a;clear g a hm
 go_enter Tryz.func129,Tryz.ntmps129
 go_wp2_with fail
 refine l.o.mono ?_;rintro e w1 ⟨rfl,f⟩;have i:=Hd (j.o.trans (f.mono j.o.size));clear f h;go_wp2_with fail
 go_ret;exact⟨Z,i.o⟩
theorem xX:∀(l:List UInt8) (m n:Nat),m≤nS→gW m l=A n→n≤nS
 | [],m,n,hm,h=>by
  simp only[gW]at h;injection h with h;omega
 | c::l,m,n,hm,h=>by
  unfold gW at h
  split at h
  ·rename_i a
   simp only[J4,oB]at a;exact xX l _ n a.2 h
  ·cases h
theorem vx(l:List UInt8):((number l).getD 0:Nat)≤nS:=by
 unfold number
 split
 ·exact J0 _
 ·cases h:gW 0 l with
  | none=>exact J0 _
  | some n=>exact xX l 0 n (J0 _) h
def gb(t:ByteArray):ByteArray:=if fH t.data.toList then t.extract 1 t.size else t
theorem zy(t:ByteArray):(gb t).data.toList=strip t.data.toList:=by
 unfold gb
 split
 ·rename_i h
  rw[ByteArray.data_extract,Array.toList_extract]
  cases a:t.data.toList with
  | nil=>rw[a]at h;cases h
  | cons c r =>
   rw[a]at h;have d:c=45:=by
    unfold fH at h
    split at h
    ·rename_i heq;injection heq
    ·cases h
   subst d;have e:t.size=r.length+1:=by
    have b:t.data.toList.length=t.size:=Kc;rw[a]at b
    simpa using b.symm
   rw[e];simp[strip,List.extract]
 ·rename_i h
  unfold strip
  split
  ·rename_i r heq
   exfalso
   apply h;unfold fH;rw[heq];rfl
  ·rfl
theorem zI(t:ByteArray):(gb t).size≤t.size:=by
 unfold gb
 split
 ·rw[ByteArray.size_extract];omega
 ·omega
theorem uq(l:List UInt8):Lib.hasPrefix l [45]=fH l:=by
 unfold Lib.hasPrefix fH
 cases l with
 | nil=>rfl
 | cons c r =>
  by_cases h:c=45
  ·subst h;rfl
  ·have:(45==c)=false:=by simpa using fun e:(45:UInt8)=c=>h e.symm
   simp only[List.isPrefixOf,this,Bool.false_and]
   split
   ·rename_i heq;injection heq with heq;exact absurd heq h
   ·rfl
theorem tD(s:ByteArray)(w:J):vv va 203 #[r9 s,r9 ⟨#[45]⟩] w fun e w'=>e=wg (xt (fH s.data.toList))∧w=w':=
 (Tryz.stringslite_HasPrefix s ⟨#[45]⟩ w).mono fun e w' ⟨a,b⟩=>⟨by rw[a,←uq],b.symm⟩
theorem zj(t:ByteArray)(w:J):vv va 208 #[r9 t,r9 ⟨#[45]⟩] w fun e w'=>e=wg (y9 #[r9 (gb t),xt (fH t.data.toList)])∧w=w':=by
 have d:vv va 220 #[r9 t,r9 ⟨#[45]⟩] w fun e w'=>e=wg (y9 #[r9 (gb t),xt (fH t.data.toList)])∧w=w':=by
  have j:=Hd (tD t w);have b:Hid (gb t=if fH t.data.toList then t.extract 1 t.size else t):=rfl;have k:fH t.data.toList=tT→1≤t.size:=fun h=>by
   have g:t.data.toList.length=t.size:=Kc
   cases i:t.data.toList with
   | nil=>rw[i]at h;cases h
   | cons c r=>rw[i]at g;simp at g;omega
  go_enter Tryz.func220,Tryz.ntmps220
  go_wp2_with fail
  refine j.o.mono ?_;rintro e w' ⟨rfl,rfl⟩
  cases a:fH t.data.toList with
  | true =>
   rw[a]at b;have d:=k a;have l:∀W,(Instr.slice 9 (r9 t) (A (I U 1)) Y Y).run va W=.ok (r9 (gb t)) W:=fun W=>by
    rw[b.o];simp only[oX];exact run_slice_string_l W 9 t Tryz.underlying9 U 1 (by omega) (by omega)
   go_wp2_with fail
   go_ret2
   exact⟨by rw[a];rfl,Z⟩
  | false =>
   rw[a]at b;have f:gb t=t:=b.o;go_wp2_with fail
   go_ret2
   exact⟨by rw[f,a];rfl,Z⟩
 have H1:=Hd d;clear d
 go_enter Tryz.func208,Tryz.ntmps208
 go_wp2_with fail
 refine H1.o.mono ?_;rintro e w' ⟨rfl,rfl⟩;go_wp2_with fail
 go_ret2
 exact⟨Z,Z⟩
theorem uO(W:J)(e:Ending→J→Prop)(T:Nat)(a b c:tS)(f:W.heap[T]?=A (r7 #[a,b,c] 88 (0,0)))
  (tmps:Array tS) (g:tmps.getD 2 xk=vo (A ⟨T,0,Y⟩)) (h:e (wg (wP #[a,b,c])) W):bodyPost va Tryz.f187 e .ret ⟨tmps,[]⟩ W:=by
 obtain⟨i,j,c2,_⟩:=cells3 f;have d:tmps[2]?.getD xk=vo (A ⟨T,0,Y⟩):=by simpa using g
 refine bodyPost_ret (v:=wP #[a,b,c]) ?_ Z h;simp[results,Tryz.results187,go_sem,d,i,j,c2]
theorem uL(T:ac)(s:tS)(w:J)(h:T.q=14∨T.q=15)(p:T.h.size≤72007) :
  vv va 187 #[wP #[I r8 T.q,r9 T.h,I U T.u,I U T.C,s]] w fun e w'=>e=wg (wP (uv (br T)).toArray)∧Kr w w':=by
 obtain⟨k,t,nm,pl,ks⟩:=T;have p:t.size≤72007:=p;have h:k=14∨k=15:=h
 show vv va 187 #[wP #[I r8 k,r9 t,I U nm,I U pl,s]] w _
 rcases h with rfl|rfl
 ·have a:Kr w ((w.alloc (r7 #[I r8 14,r9 t,I U nm,I U pl,s] 145)).alloc (r7 #[I r8 0,I U 0,r9 ⟨#[]⟩] 88)):=((JO _ w).alloc (JM _) _).alloc (by simp) _;obtain⟨_,b,_⟩:=bc w (r7 #[I r8 14,r9 t,I U nm,I U pl,s] 145) (r7 #[I r8 0,I U 0,r9 ⟨#[]⟩] 88);obtain⟨f,g,q,r⟩:=zz4 a b (ow (gb t) ((w.alloc (r7 #[I r8 14,r9 t,I U nm,I U pl,s] 145)).alloc (r7 #[I r8 0,I U 0,r9 ⟨#[]⟩] 88)) (by have:=zI t;omega)) (zj t ((w.alloc (r7 #[I r8 14,r9 t,I U nm,I U pl,s] 145)).alloc (r7 #[I r8 0,I U 0,r9 ⟨#[]⟩] 88)));have hle:=vx (gb t).data.toList;have u:Hid (ot t=if fH t.data.toList then -(((number (gb t).data.toList).getD 0:Nat):Int) else (((number (gb t).data.toList).getD 0:Nat):Int)):=by
   show ot t=_
   unfold ot;rw[zy]
  clear a b
  go_enter Tryz.func187,Tryz.ntmps187
  go_wp2_with fail
  refine r.o.mono ?_;rintro e w' ⟨rfl,rfl⟩;go_wp2_with fail
  refine q.o.mono ?_;rintro e w1 ⟨rfl,c⟩;have i:=Hd (f.o.trans (c.mono f.o.size));have j:=aa c g.o (JL.1 g.o).1;obtain⟨C,D,c2,f0,f1,f2⟩:=cells3 j;have l:=Hd j;clear c j q r;generalize (number (gb t).data.toList).getD 0=n at *;have E:(n:Int)≤9223372036854775807:=by unfold nS at hle;omega
  have y:(0:Int)≤n:=by omega
  have fin:∀(z:Int),ot t=z→∀(tmps:Array tS),tmps.getD 2 xk=vo (A ⟨w.heap.size+1,0,Y⟩)→bodyPost va Tryz.f187 (fun e w'=>e=wg (wP (uv (br (.mk 14 t nm pl ks))).toArray)∧Kr w w') .ret ⟨tmps,[]⟩ (((w1.setCell ⟨w.heap.size+1,0,Y⟩ (I r8 1)).setCell ⟨w.heap.size+1,1,Y⟩ (I U z)).setCell ⟨w.heap.size+1,2,Y⟩ (r9 ⟨#[]⟩)):=fun z d tmps B=>by
   refine uO _ _ (w.heap.size+1) (I r8 1) (I U z) (r9 ⟨#[]⟩) ?_ tmps B ⟨?_,((i.o.setCell (by simp) _).setCell (by simp) _).setCell (by simp) _⟩
   ·rw[heap_set (heap_set (heap_set l.o 0 _) 1 _) 2 _];rfl
   ·rw[←d];rfl
  have v:=Hd fin;clear fin
  cases x:fH t.data.toList with
  | true =>
   have d:ot t=-(n:Int):=by rw[u.o,x];rfl
   have m:=Hd d;clear d hle;go_wp2_with fail
   exact v.o _ m.o _ Z
  | false =>
   have d:ot t=(n:Int):=by rw[u.o,x];rfl
   have m:=Hd d;clear d hle;go_wp2_with fail
   exact v.o _ m.o _ Z
 ·have a:Kr w ((w.alloc (r7 #[I r8 15,r9 t,I U nm,I U pl,s] 145)).alloc (r7 #[I r8 2,I U 0,r9 t] 88)):=((JO _ w).alloc (JM _) _).alloc (by simp) _;obtain⟨_,b,_⟩:=bc w (r7 #[I r8 15,r9 t,I U nm,I U pl,s] 145) (r7 #[I r8 2,I U 0,r9 t] 88);obtain⟨f,g⟩:=zz2 a b;clear a b
  go_enter Tryz.func187,Tryz.ntmps187
  go_wp2_with fail
  exact uO _ _ (w.heap.size+1) _ _ _ g.o _ Z ⟨Z,f.o⟩
def qL{α:Type} (r:Except Flt α) (val:α→tS) (w:J) (e:Ending) (w':J):Prop:=Kr w w'∧match r with
 | .ok x=>e=wg (val x)
 | .error er=>e=aR er.1 er.2
theorem mD:Elem 238 257 2 16:=Elem.of (z:=wP #[xt ur,I U 0]) Tryz.underlying257 (by kernel_rfl) Z (by decide) (by decide)
theorem du{a W W':J}(h:∃x:Wb a,W=x.1)(b:Kr W W'):∃x:Wb a,W'=x.1:=by
 obtain⟨x,rfl⟩:=h;exact⟨⟨W',x.2.trans (b.mono x.2.size)⟩,Z⟩
theorem oQ(x:ByteArray):∀(l:List ByteArray) (m k:Nat),jt x l m=A k→m≤k∧k<m+l.length
 | [],m,k,h=>by cases h
 | y::l,m,k,h=>by
  unfold jt at h
  split at h
  ·injection h with h;subst h;simp
  ·have:=oQ x l (m+1) k h;simp only[Kf];omega
theorem re{x:ByteArray}{l:List am}{k:Nat}(h:dE x l=A k):k<l.length:=by
 have:=(oQ x (l.map am.c) 0 k h).2
 simpa using this
def nL(k:Nat):Value:=I U (k:Int)
theorem DG(types:List am)(T:ac)(p:Option Addr)(c:Nat)(vT:tS)(F:Nat→Prop)(M:Nat)(w:J)(hv:eW.h w F types vT)(hF:∀b,F b→b<w.heap.size)(hm:w.cell? ⟨M,0,Y⟩=A vT)(_hl:T.z.length≤100000) :
  vv va 156 #[vo (A ⟨M,0,Y⟩),wP #[I r8 T.q,r9 T.h,I U T.u,I U T.C,O p T.z.length c]] w (qL (cM types T) nL w):=by
 obtain⟨pT,cT,rfl⟩:=Rd.q hv;have aq:=Rd.sb hv;obtain⟨n,hn⟩:=zzy (T.z.length);have P:Hid (cM types T=match dE T.h types with|none=>zs (211,T.C)|some k=>if ((types[k]?).map am.a).getD 0==(n:Int) then xn k else zs (212,T.C)):=by show _=_;rw[←hn];rfl
 rw[hn];obtain⟨w1,B⟩:=zzx (w.alloc (r7 #[I r8 T.q,r9 T.h,I U T.u,I U T.C,O p n c] 145));have d:Kr w w1:=by rw[B];exact (JO _ w).alloc (JM _) _
 have HX:Hid (w1.heap[w.heap.size]?=A (r7 #[I r8 T.q,r9 T.h,I U T.u,I U T.C,O p n c] 145 (0,0))):=by show _=_;rw[B];exact oc w _
 have hM:=fW hm;have HV:=Hd (fun W (Q:Kr w1 W)=>Rd.sm hv hF (d.trans (Q.mono d.size)));have HM:=Hd (fun W (Q:Kr w1 W)=>((d.trans (Q.mono d.size)).cell (p:=⟨M,0,Y⟩) hM).trans hm);have HF:=Hd (fun W (Q:Kr w1 W) b (hf:F b)=>JS (hF b hf) (JU d.size Q.size));have j:=Hd d;clear hn d hv hF hm
 go_enter Tryz.func156,Tryz.ntmps156
 go_upto_region 1 with fail
 change Code.wp _ _ _ _ (w.alloc (r7 #[I r8 T.q,r9 T.h,I U T.u,I U T.C,O p n c] 145));rw[←B];clear B;obtain⟨x0,x1,x2,x3,x4⟩:=cells5 HX.o;have X1:=fun x:Wb w1=>x.h x1
 have HK:=Hd (fun x:Wb w1=>xJ types T.h _ F M x.1 (HV.o _ x.2) (HF.o _ x.2) (HM.o _ x.2));refine ao (by kernel_rfl) (by kernel_rfl) ?_
 repeat (go_big_quiet_step ((go_at_call 125;exact Calls.h (HK.o _))))
 refine xL ?_;intro W2 R;have H:=bA R;have C:=Hd H;have K:=aa H HX.o (JL.1 HX.o).1;have S:=Hd K;obtain⟨a0,a1,a2,a3,a4⟩:=cells5 K;clear R H K X1 HK x0 x1 x2 x3 x4
 cases r:dE T.h types with
 | none =>
  rw[r]at P;clear r;have l:Kr W2 (W2.alloc (r7 (fQ [(tT,211)]).toArray 238)):=(JO _ W2).alloc (JM _) _;obtain⟨s,D⟩:=zz2 (j.o.trans ((C.o.trans (l.mono C.o.size)).mono j.o.size)) (bZ [(tT,211)] T.q T.h T.u T.C (O p n c) W2.heap.size 1 1 (W2.alloc (r7 (fQ [(tT,211)]).toArray 238)) Z (by omega) (oc W2 _));clear l;go_wp2_with fail
  refine D.o.mono ?_;rintro e a ⟨u,he⟩;have he:e=aR 211 T.C:=he;subst he;refine⟨Z,s.o.trans (u.mono s.o.size),?_⟩;rw[P.o];rfl
 | some k =>
  rw[r]at P;have ar:=re r;obtain⟨t,L⟩:∃t,types[k]?=A t:=⟨_,JR ar⟩;have V:Hid (cM types T=if t.a==(n:Int) then xn k else zs (212,T.C)):=by show _=_;rw[P.o];dsimp only;rw[L];rfl
  rw[show eK (A k)=(k:Int) from rfl];have bg:¬((k:Int)<0):=by omega
  have bk:(0:Int)≤k:=by omega
  have bl:(k:Int)<types.length:=by omega
  have bm:(types.length:Int)≤9223372036854775807:=by unfold maxLen at aq;omega
  clear r P;obtain⟨wn,E⟩:=zzx (W2.alloc (r7 (fQ [(ur,211)]).toArray 238));have l:Kr W2 wn:=by rw[E];exact (JO _ W2).alloc (JM _) _
  obtain⟨s,X,D⟩:=zz3 (C.o.trans (l.mono C.o.size)) (aa l S.o (JL.1 S.o).1) (bZ [(ur,211)] T.q T.h T.u T.C (O p n c) W2.heap.size 1 1 (W2.alloc (r7 (fQ [(ur,211)]).toArray 238)) Z (by omega) (oc W2 _));rw[←E]at D;clear l;go_wp2_with fail
  change vv va 124 #[_,_] (W2.alloc (r7 (fQ [(ur,211)]).toArray 238)) _;rw[←E];clear E;refine D.o.mono ?_;rintro e a ⟨u,he⟩;have he:e=wg (y9 #[]):=he;subst he;have m:=Hd (s.o.trans (u.mono s.o.size));have ad:=aa u X.o (JL.1 X.o).1;have a6:=Hd ad;clear u a0 a1 a2 a3 a4 ad D;obtain⟨a0,a1,a2,a3,a4⟩:=cells5 a6.o;obtain⟨b,off,cap,vs,ba,_,_,_,_,af,y⟩:=Rd.X (HV.o a m.o) L;obtain⟨rfl,_,_⟩:=qG.1 af;injection ba with e1 _ e3
  subst e1;subst e3;have c1:a.cell? ⟨b,off+k*2+1,Y⟩=A (I U t.a):=y 1 _ Z;have m0:=HM.o a m.o;have A0:=fun x:Wb a=>x.h a0
  have A1:=fun x:Wb a=>x.h a1
  have A2:=fun x:Wb a=>x.h a2
  have A3:=fun x:Wb a=>x.h a3
  have A4:=fun x:Wb a=>x.h a4
  have B1:=fun x:Wb a=>x.h c1
  have M0:=fun x:Wb a=>x.h m0
  clear af y L
  cases hq:(t.a==(n:Int)) with
  | true =>
   have bb:(t.a != (n:Int))=false:=by simp only[bne,hq];rfl
   have HQ:=Hd hq;go_wp2_with fail
   refine RE.z (by kernel_rfl) 17 [16] [] (fun _ W=>∃x:Wb a,W=x.1) (fun W W'=>Kr W W') (fun i f=>f.getD 0 xk) (fun i W f=>if i=16 then One 238 a.heap.size (fQ [(ur,212)]) W (f.getD 0 xk) else True) (by kernel_rfl) (fun _ _ _ _ _ _ h q=>du h q) (fun i W W' f h _ q=>by split at h;(rw[oj (by assumption)];exact h.C q);rw[oe (by assumption)];trivial) ⟨⟨a.drew,(JO _ _).drew⟩,Z⟩ ?_;simp only[JY,J7,JZ,J6]
   repeat (refine RE.q (fun W=>∃x:Wb a,W=x.1) (fun _ _ _ h=>h) Z Z Z ⟨⟨a.drew,(JO _ _).drew⟩,Z⟩ ?_;go_big_quiet_step (fail);refine xL ?_)
   refine RE.h Z Z ?_ (fun f=>?_)
   ·intro W hC _ N;obtain⟨s9,_,x,rfl⟩:=hC;exact ek mD (vs:=fQ [(ur,212)]) _ Z Z Z x.2.size (fun v W' q ho=>⟨[v],Z,q,q,ho⟩)
   simp only[Act.put,JP,JW,JV];refine RE.u ?_;intro W hS N;obtain⟨x,rfl⟩:=hS;obtain⟨g,eg,lg,hg⟩:One 238 a.heap.size (fQ [(ur,212)]) x.1 (f.getD 0 xk):=N 16 f Z;rw[eg];obtain⟨D,z⟩:=zz2 (bZ [(ur,212)] T.q T.h T.u T.C (O p n c) g 1 1 x.1 Z (by omega) hg) (j.o.trans ((m.o.trans (x.2.mono m.o.size)).mono j.o.size));clear N eg lg hg A0 A1 A2 A3 A4 B1 M0;go_wp2_with fail
   refine D.o.mono ?_;rintro e w5 ⟨G,he⟩;have he:e=wg (y9 #[]):=he;subst he;have bd:=Hd (z.o.trans (G.mono z.o.size));clear G;go_wp2_with fail
   go_ret;refine⟨bd.o,?_⟩;rw[V.o,HQ.o];rfl
  | false =>
   have bb:(t.a != (n:Int))=true:=by simp only[bne,hq];rfl
   have HQ:=Hd hq;go_wp2_with fail
   refine RE.z (by kernel_rfl) 17 [16] [] (fun _ W=>∃x:Wb a,W=x.1) (fun W W'=>Kr W W') (fun i f=>f.getD 0 xk) (fun i W f=>if i=16 then One 238 a.heap.size (fQ [(tT,212)]) W (f.getD 0 xk) else True) (by kernel_rfl) (fun _ _ _ _ _ _ h q=>du h q) (fun i W W' f h _ q=>by split at h;(rw[oj (by assumption)];exact h.C q);rw[oe (by assumption)];trivial) ⟨⟨a.drew,(JO _ _).drew⟩,Z⟩ ?_;simp only[JY,J7,JZ,J6]
   repeat (refine RE.q (fun W=>∃x:Wb a,W=x.1) (fun _ _ _ h=>h) Z Z Z ⟨⟨a.drew,(JO _ _).drew⟩,Z⟩ ?_;go_big_quiet_step (fail);refine xL ?_)
   refine RE.h Z Z ?_ (fun f=>?_)
   ·intro W hC _ N;obtain⟨s9,_,x,rfl⟩:=hC;exact ek mD (vs:=fQ [(tT,212)]) _ Z Z Z x.2.size (fun v W' q ho=>⟨[v],Z,q,q,ho⟩)
   simp only[Act.put,JP,JW,JV];refine RE.u ?_;intro W hS N;obtain⟨x,rfl⟩:=hS;obtain⟨g,eg,lg,hg⟩:One 238 a.heap.size (fQ [(tT,212)]) x.1 (f.getD 0 xk):=N 16 f Z;rw[eg];obtain⟨D,z⟩:=zz2 (bZ [(tT,212)] T.q T.h T.u T.C (O p n c) g 1 1 x.1 Z (by omega) hg) (j.o.trans ((m.o.trans (x.2.mono m.o.size)).mono j.o.size));clear N eg lg hg A0 A1 A2 A3 A4 B1 M0;go_wp2_with fail
   refine D.o.mono ?_;rintro e w5 ⟨G,he⟩;have he:e=aR 212 T.C:=he;subst he;refine⟨Z,z.o.trans (G.mono z.o.size),?_⟩;rw[V.o,HQ.o];rfl
theorem ge{w:J}{F:Nat→Prop}{d:Nat}{ks:List ak}{s:tS}(h:fU w F d ks s):∃p c,s=O p ks.length c:=by
 cases d with
 | zero=>obtain⟨rfl,p,c,rfl⟩:=h;exact⟨p,c,Z⟩
 | succ d=>exact Rd.q h
theorem lX(d:Nat):(ie d).n=10:=by cases d<;>rfl
def Iz(w:J) (n:Nat) (cs:List bj) (f i:tS) (W:J):Prop:=∃k:Nat,k≤n∧i=I U (k:Int)∧f=I U ((aK (cs.take k):Nat):Int)∧Kr w W
theorem yY(l:List bj)(k:Nat)(c:bj)(h:l[k]?=A c):aK (l.take (k+1))=aK (l.take k)+(if c.q==1 then 1 else 0):=by
 unfold aK;rw[Kj,h,List.filter_append,J2]
 congr 1
 show (List.filter _ [c]).length=_
 by_cases a:(c.q==1)=tT
 ·rw[oj a];simp[List.filter,a]
 ·rw[oe a];simp only[Bool.not_eq_true]at a;simp[List.filter,a]
theorem CN(d:Nat)(conds:List bj)(vC:tS)(F:Nat→Prop)(M:Nat)(w:J)(C:(ie d).h w F conds vC)(hF:∀b,F b→b<w.heap.size)(hm:w.cell? ⟨M,6,Y⟩=A vC)(j:conds.length≤10000) :
  vv va 160 #[vo (A ⟨M,0,Y⟩)] w (fun e w'=>e=wg (I U (aK conds:Int))∧Kr w w'):=by
 obtain⟨p,c,rfl⟩:=Rd.q C;obtain⟨n,D⟩:=zzy (conds.length);have K:=Hd (fun W (V:Kr w W)=>Rd.sm C hF V);rw[D]at K hm j;have L:=Hd D;have X:(n:Int)≤10000:=by omega
 clear C D
 go_enter Tryz.func160,Tryz.ntmps160
 go_wp2
 go_loopw [3,12] (Iz w n conds) (fun _ i _=>n-(intOf i).toNat)
 case atStart=>exact⟨0,J0 _,Z,Z,JO _ _⟩
 case round =>
  obtain⟨k,hk,rfl,rfl,B⟩:=hrel;have ad:(0:Int)≤k:=by omega
  have E:=Hd B
  by_cases G:k<n
  ·have af:(k:Int)<n:=by omega
   obtain⟨x,H⟩:∃x,conds[k]?=A x:=⟨_,JR (by rw[L.o];exact G)⟩;obtain⟨b,off,cap,vs,he,_,_,_,_,l,a⟩:=Rd.X (K.o wr B) H;injection he with e1 _ e3
   subst e1;subst e3;have a:∀(m:Nat) (u:tS),vs[m]?=A u→wr.cell? ⟨b,off+k*10+m,Y⟩=A u:=fun m u h=>by rw[←lX d];exact a m u h
   obtain⟨_,_,_,sa,s,rfl,q,r⟩:=qU.1 l;obtain⟨N,P,rfl⟩:=Rd.q q;obtain⟨Q,R,rfl⟩:=ge r;have c0:wr.cell? ⟨b,off+k*10,Y⟩=A (I r8 x.q):=a 0 _ Z;have c1:wr.cell? ⟨b,off+k*10+1,Y⟩=A (I U x.u):=a 1 _ Z;have c2:wr.cell? ⟨b,off+k*10+2,Y⟩=A (O N x.c.length P):=a 2 _ Z;have c3:wr.cell? ⟨b,off+k*10+3,Y⟩=A (I r8 x.a.q):=a 3 _ Z;have c4:wr.cell? ⟨b,off+k*10+4,Y⟩=A (I r8 x.a.h.q):=a 4 _ Z;have c5:wr.cell? ⟨b,off+k*10+5,Y⟩=A (I U x.a.h.u):=a 5 _ Z;have c6:wr.cell? ⟨b,off+k*10+6,Y⟩=A (r9 x.a.h.h):=a 6 _ Z;have c7:wr.cell? ⟨b,off+k*10+7,Y⟩=A (I U x.a.u):=a 7 _ Z;have c8:wr.cell? ⟨b,off+k*10+8,Y⟩=A (I r8 x.a.op):=a 8 _ Z;have c9:wr.cell? ⟨b,off+k*10+9,Y⟩=A (O Q x.a.z.length R):=a 9 _ Z;have t:=Hd (yY conds k x H);have aq:aK (conds.take k)≤10000:=by
    have h1:aK (conds.take k)≤(conds.take k).length:=List.length_filter_le _ _;have h2:=List.length_take_le k conds;omega
   have S:((aK (conds.take k):Nat):Int)≤10000:=by omega
   have T:(0:Int)≤((aK (conds.take k):Nat):Int):=by omega
   have v:Kr wr (wr.alloc (r7 #[I r8 x.q,I U x.u,O N x.c.length P,I r8 x.a.q,I r8 x.a.h.q,I U x.a.h.u,r9 x.a.h.h,I U x.a.u,I r8 x.a.op,O Q x.a.z.length R] 168)):=(JO _ wr).alloc (JM _) _;have f:=Hd (E.o.trans (v.mono E.o.size));clear l a q r H B v
   cases g:(x.q==1) with
   | true =>
    have y:Hid (aK (conds.take (k+1))=aK (conds.take k)+1):=by show _=_;rw[t.o,g];rfl
    have z:x.q=1:=by simpa using g
    rw[z]at f;clear g;go_wp2_with fail
    exact⟨⟨k+1,by omega,by go_num,by rw[y.o];go_num,f.o⟩,by simp[intOf];omega⟩
   | false =>
    have y:Hid (aK (conds.take (k+1))=aK (conds.take k)):=by show _=_;rw[t.o,g];rfl
    have z:¬x.q=1:=by simpa using g
    clear g;go_wp2_with fail
    exact⟨⟨k+1,by omega,by go_num,by rw[y.o],f.o⟩,by simp[intOf];omega⟩
  ·have y:Hid (aK (conds.take k)=aK conds):=by show _=_;rw[J5 (by rw[L.o];omega)]
   clear B;go_wp2_with fail
   go_ret;exact⟨by rw[←y.o];rfl,E.o⟩
