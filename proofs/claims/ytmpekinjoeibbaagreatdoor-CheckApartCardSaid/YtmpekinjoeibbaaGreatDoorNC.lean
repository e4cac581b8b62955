/- Parts of one proof, joined; conditions stand in each theorem. -/
import Derived.Test.YtmpekinjoeibbaaGreatDoorNA
import Derived.Test.YtmpekinjoeibbaaGreatDoorNB
import Derived.Test.YtmpekinjoeibbaaGreatDoorMD
open Option renaming none→V,some→A
open Go.Value renaming bool→ur,int→I,agg→s3,tuple→wF,string→p9,slice→O,pointer→tv,func→wP
open Go.IntKind renaming i64→Y,u8→J
open Bool renaming false→r7,true→r5
open Go renaming World→p7,Value→r3,Calls→r9,undef→tT,wpQuiet_nil→vk
open Go.Ending renaming returned→tF
open Go.Obj renaming cells→p8
open Go.Proofs.Tryz renaming prog→r6
open Except renaming error→wD,ok→vb
namespace Go.Proofs.YtmpekinjoeibbaaGreatDoor
set_option maxHeartbeats 2000000
set_option maxRecDepth 100000
open Go.RowKit
def iq:List (Bool×Int)→Option Int
 | []=>V
 | (b,e)::l=>if b then A e else iq l
def fo(l:List (Bool×Int)):List Value:=(l.map fun x=>[ur x.1,I Y x.2]).flatten
theorem xI:∀(l:List (Bool×Int)) (k:Nat) (x:Bool×Int),l[k]?=A x→(fo l)[k*2]?=A (ur x.1)∧(fo l)[k*2+1]?=A (I Y x.2)
 | [],k,x,h=>by simp at h
 | y::l,0,x,h=>by
  simp only[List.getElem?_cons_zero,oF]at h;subst h;exact⟨Z,Z⟩
 | y::l,k+1,x,h=>by
  rw[FN]at h;have:=xI l k x h;have e:fo (y::l)=ur y.1::I Y y.2::fo l:=rfl;rw[e,show (k+1)*2=k*2+1+1 by omega]
  simpa using this
theorem j7(l:List (Bool×Int)):∀k,(∀j x,j<k→l[j]?=A x→x.1=r7)→iq l=iq (l.drop k)
 | 0,_=>rfl
 | k+1,h=>by
  rw[j7 l k (fun j x i d=>h j x (by omega) d)]
  cases a:l.drop k with
  | nil =>
   have:l.drop (k+1)=[]:=by rw[←List.drop_drop,a];rfl
   rw[this]
  | cons y r =>
   have f:l.drop (k+1)=r:=by rw[←List.drop_drop,a];rfl
   have g:l[k]?=A y:=by
    have:=o9 (·[0]?) a
    simpa using this
   have c:=h k y (by omega) g;rw[f];obtain⟨b,e⟩:=y;have c:b=false:=c
   show (if b then A e else iq r)=iq r
   rw[c];rfl
def aQ(er place:Int):Ending:=.panicked [{ v:=.iface 29 (s3 #[I Y er,I Y place]),recovered:=r7 }]
def C9(l:List (Bool×Int)) (place:Int) (w:p7) (e:Ending) (w':p7):Prop:=FS w w'∧match iq l with
 | none=>e=tF (wF #[])
 | some er=>e=aQ er place
def En(w:p7) (n:Nat) (l:List (Bool×Int)) (cs:Array r3) (i:r3) (W:p7):Prop:=∃k:Nat,k≤n∧i=I Y (k:Int)∧FS w W∧W.heap[w.heap.size]?=A (p8 cs 64 (0,0))∧(∀j x,j<k→l[j]?=A x→x.1=r7)
theorem bS(l:List (Bool×Int))(k:Nat)(t:ByteArray)(nm pl:Int)(s:r3)(g n c:Nat)(w:p7)(H:l.length=n)(R:n≤100)(E:w.heap[g]?=A (p8 (fo l).toArray 162 (0,0))) :
  r9 r6 47 #[s3 #[I J k,p9 t,I Y nm,I Y pl,s],O (A ⟨g,0,V⟩) n c] w (C9 l pl w):=by
 have F:g<w.heap.size:=(ES.1 E).1;obtain⟨S,K⟩:=zz2 E H;have q:FS w (w.alloc (p8 #[I J k,p9 t,I Y nm,I Y pl,s] 64)):=(EU _ w).alloc (ET _) _;have L:Hid ((w.alloc (p8 #[I J k,p9 t,I Y nm,I Y pl,s] 64)).heap[w.heap.size]?=A (p8 #[I J k,p9 t,I Y nm,I Y pl,s] 64 (0,0))):=ot w _;have M:=Hd q;clear E H q
 go_enter Tryz.func47,Tryz.ntmps47
 go_wp2
 go_loopw [8] (En w n l #[I J k,p9 t,I Y nm,I Y pl,s]) (fun i _=>n-(intOf i).toNat)
 case atStart=>exact⟨0,Fi _,Z,M.o,L.o,fun j x N=>by omega⟩
 case round =>
  clear M L;obtain⟨i,hi,rfl,P,a,u⟩:=hrel;have T:(0:Int)≤i:=by omega
  obtain⟨d,v,e⟩:=zz3 P a u;clear P a u
  by_cases G:i<n
  ·have U:(i:Int)<n:=by omega
   obtain⟨x,f⟩:∃x,l[i]?=A x:=⟨_,EX (by rw[K.o];exact G)⟩;obtain⟨b,er⟩:=x;have m:=ag d.o S.o F;obtain⟨a0,a1⟩:=xI l i (b,er) f;have c0:wr.cell? ⟨g,i*2,V⟩=A (ur b):=by rw[FR _ _ _ _ _ _ m];simpa using a0
   have c1:wr.cell? ⟨g,i*2+1,V⟩=A (I Y er):=by rw[FR _ _ _ _ _ _ m];simpa using a1
   have z:=Hd f;have p:FS wr (wr.alloc (p8 #[ur b,I Y er] 162)):=(EU _ wr).alloc (ET _) _;obtain⟨B,C⟩:=zz2 (d.o.trans (p.mono d.o.size)) (ag p v.o (ES.1 v.o).1);have d3:(wr.alloc (p8 #[ur b,I Y er] 162)).cell? ⟨w.heap.size,3,V⟩=A (I Y pl):=by rw[FR _ _ _ _ _ _ C.o];rfl
   clear m a0 a1 f p
   cases b with
   | true =>
    have W:Hid (iq l=A er):=by
     show _=_
     rw[j7 l i e.o];obtain⟨r,X⟩:∃r,l.drop i=(r5,er)::r:=by
      have:=z.o
      cases Q:l.drop i with
      | nil =>
       have D:=o9 (·[0]?) Q;simp[this]at D
      | cons y r =>
       have D:=o9 (·[0]?) Q;simp[this]at D;exact⟨r,by rw[D]⟩
     rw[X];rfl
    go_wp2
    refine⟨Z,B.o,?_⟩;rw[W.o];rfl
   | false =>
    go_wp2
    exact⟨⟨i+1,by omega,by go_num,B.o,C.o,fun j x N a=>by
     by_cases h:j=i
     ·subst h;rw[z.o]at a;injection a with a
      rw[←a]
     ·exact e.o j x (by omega) a⟩,by simp[intOf];omega⟩
  ·go_wp2
   go_returns
   refine⟨d.o,?_⟩;have hF:iq l=none:=by
    rw[j7 l n (fun j x N a=>e.o j x (by omega) a),List.drop_of_length_le (by rw[K.o];exact ET _)];rfl
   rw[hF]
theorem uU(x:ByteArray):∀(l:List ByteArray) (m k:Nat) (y:ByteArray),l[k]?=A y→(y.data.toList==x.data.toList)=r5→(∀(j:Nat) (z:ByteArray),j<k→l[j]?=A z→(z.data.toList==x.data.toList)=r7)→gl x l m=A (m+k)
 | [],m,k,y,h,_,_=>by simp at h
 | z::l,m,0,y,h,he,_=>by
  simp only[List.getElem?_cons_zero,oF]at h;subst h;unfold gl;rw[oA he];rfl
 | z::l,m,k+1,y,h,he,a=>by
  rw[FN]at h;have b:=a 0 z (by omega) Z;unfold gl;rw[b];simp only[Fx,oX];rw[uU x l (m+1) k y h he (fun j c e d=>a (j+1) c (by omega) (by rw[FN];exact d))]
  congr 1;omega
theorem rQ(x:ByteArray):∀(l:List ByteArray) (m:Nat),(∀(j:Nat) (z:ByteArray),l[j]?=A z→(z.data.toList==x.data.toList)=r7)→gl x l m=V
 | [],m,_=>rfl
 | z::l,m,a=>by
  unfold gl;rw[a 0 z Z];simp only[Fx,oX];exact rQ x l (m+1) (fun j b c=>a (j+1) b (by rw[FN];exact c))
def eh:Option Nat→Int
 | some k=>k
 | none=>-1
theorem idxOf_hit{x y:ByteArray}{l:List ByteArray}{k:Nat}(h:l[k]?=A y)(he:(y.data.toList==x.data.toList)=r5)(a:∀(j:Nat)(z:ByteArray),j<k→l[j]?=A z→(z.data.toList==x.data.toList)=r7):eh (idxOf x l)=k:=by
 unfold idxOf;rw[uU x l 0 k y h he a,Nat.zero_add];rfl
theorem idxOf_miss{x:ByteArray}{l:List ByteArray}(a:∀(j:Nat)(z:ByteArray),l[j]?=A z→(z.data.toList==x.data.toList)=r7):eh (idxOf x l)=-1:=by
 unfold idxOf;rw[rQ x l 0 a];rfl
theorem dW{w:p7}{T o:Nat}{v:r3}(h:w.cell? ⟨T,o,V⟩=A v):T<w.heap.size:=by
 cases a:w.heap[T]? with
 | none=>unfold World.cell? at h;simp[a]at h
 | some o=>exact (ES.1 a).1
theorem zM(a b:ByteArray)(n:Int)(T:Nat)(w:p7)(d:w.cell? ⟨T,0,V⟩=A (p9 b)) :
  r9 r6 31 #[s3 #[p9 a,I Y n],tv (A ⟨T,0,V⟩)] w fun e w'=>e=tF (ur (a.data.toList==b.data.toList))∧FS w w':=by
 have f:=dW d;have c:FS w (w.alloc (p8 #[p9 a,I Y n] 41)):=(EU _ w).alloc (ET _) _;have g:(w.alloc (p8 #[p9 a,I Y n] 41)).cell? ⟨T,0,V⟩=A (p9 b):=(c.cell (p:=⟨T,0,V⟩) f).trans d;have h:=Hd c;clear c
 go_enter Tryz.func31,Tryz.ntmps31
 go_wp2
 go_ret;exact⟨by rw[Fj,Fj];rfl,h.o⟩
def xq(w:p7) (n:Nat) (l:List ByteArray) (x:ByteArray) (i:r3) (W:p7):Prop:=∃k:Nat,k≤n∧i=I Y (k:Int)∧FS w W∧(∀(j:Nat) (z:ByteArray),j<k→l[j]?=A z→(z.data.toList==x.data.toList)=r7)
theorem BY(types:List ap)(x:ByteArray)(v:r3)(F:Nat→Prop)(T:Nat)(w:p7)(hv:cN.y w F types v)(hF:∀b,F b→b<w.heap.size)(E:w.cell? ⟨T,0,V⟩=A (p9 x)) :
  r9 r6 30 #[v,wP (.func 31) #[] #[tv (A ⟨T,0,V⟩)]] w (fun e w'=>e=tF (I Y (eh (dC x types)))∧FS w w'):=by
 obtain⟨p,c,rfl⟩:=Rd.b hv;have d:=Rd.ss hv;obtain⟨n,G⟩:=zzy (types.length);have Q:=Hd (fun W (H:FS w W)=>Rd.u hv hF H);have K:=Hd (fun W (H:FS w W)=>(H.cell (p:=⟨T,0,V⟩) (dW E)).trans E);rw[G]at d Q ⊢;have L:=Hd G;have R:(n:Int)≤9223372036854775807:=by unfold maxLen at d;omega
 clear hv E G d
 go_enter Tryz.func30,Tryz.ntmps30
 go_wp2
 go_loopw [8] (xq w n (types.map ap.a) x) (fun i _=>n-(intOf i).toNat)
 case atStart=>exact⟨0,Fi _,Z,EU _ _,fun j z S=>by omega⟩
 case round =>
  obtain⟨k,hk,rfl,q,r⟩:=hrel;have U:(0:Int)≤k:=by omega
  obtain⟨M,l⟩:=zz2 q r;clear r
  by_cases N:k<n
  ·have X:(k:Int)<n:=by omega
   obtain⟨t,m⟩:∃t,types[k]?=A t:=⟨_,EX (by rw[L.o];exact N)⟩;have f:=Q.o wr q;have s:=Rd.T f m;rw[L.o]at s;obtain⟨b,off,cap,vs,he,_,_,_,_,u,a⟩:=s;injection he with e1 _ e3
   subst e1;subst e3;obtain⟨rfl,_,_⟩:=fW.1 u;have c0:wr.cell? ⟨b,off+k*2,V⟩=A (p9 t.a):=a 0 _ Z;have c1:wr.cell? ⟨b,off+k*2+1,V⟩=A (I Y t.b):=a 1 _ Z;have HK:=Hd (zM t.a x t.b T wr (K.o wr q));have y:Hid ((types.map ap.a)[k]?=A t.a):=by show _=_;rw[List.getElem?_map,m];rfl
   clear f u a m q;go_wp2_with fail
   refine HK.o.mono ?_;rintro e w1 ⟨rfl,B⟩;have C:=Hd (M.o.trans (B.mono M.o.size));clear B c0 c1
   cases D:(t.a.data.toList==x.data.toList) with
   | true =>
    have P:=Hd (idxOf_hit y.o D l.o);clear D;go_wp2_with fail
    go_ret;exact⟨by rw[show dC x types=idxOf x (types.map ap.a) from rfl,P.o];rfl,C.o⟩
   | false =>
    have HQ:=Hd D;clear D;go_wp2_with fail
    exact⟨⟨k+1,by omega,by go_num,C.o,fun j z S g=>by
     by_cases h:j=k
     ·subst h;rw[y.o]at g;injection g with g
      rw[←g];exact HQ.o
     ·exact l.o j z (by omega) g⟩,by simp[intOf];omega⟩
  ·have P:Hid (eh (dC x types)=-1):=idxOf_miss (fun j z g=>l.o j z (by
    have:=(Fo.1 g).1;rw[List.length_map,L.o]at this
    omega) g)
   clear q;go_wp2_with fail
   go_ret;exact⟨by rw[P.o];rfl,M.o⟩
theorem zJ(a b:ByteArray)(n m:Int)(c d:r3)(T:Nat)(w:p7)(g:w.cell? ⟨T,0,V⟩=A (p9 b)) :
  r9 r6 33 #[s3 #[p9 a,I Y n,I Y m,c,d],tv (A ⟨T,0,V⟩)] w fun e w'=>e=tF (ur (a.data.toList==b.data.toList))∧FS w w':=by
 have h:=dW g;have f:FS w (w.alloc (p8 #[p9 a,I Y n,I Y m,c,d] 39)):=(EU _ w).alloc (ET _) _;have i:(w.alloc (p8 #[p9 a,I Y n,I Y m,c,d] 39)).cell? ⟨T,0,V⟩=A (p9 b):=(f.cell (p:=⟨T,0,V⟩) h).trans g;have j:=Hd f;clear f
 go_enter Tryz.func33,Tryz.ntmps33
 go_wp2
 go_ret;exact⟨by rw[Fj,Fj];rfl,j.o⟩
theorem BX(d:Nat)(types:List au)(x:ByteArray)(v:r3)(F:Nat→Prop)(T:Nat)(w:p7)(hv:(dP d).y w F types v)(hF:∀b,F b→b<w.heap.size)(K:w.cell? ⟨T,0,V⟩=A (p9 x)) :
  r9 r6 32 #[v,wP (.func 33) #[] #[tv (A ⟨T,0,V⟩)]] w (fun e w'=>e=tF (I Y (eh (idxOf x (types.map au.a))))∧FS w w'):=by
 obtain⟨p,c,rfl⟩:=Rd.b hv;have f:=Rd.ss hv;obtain⟨n,L⟩:=zzy (types.length);have U:=Hd (fun W (M:FS w W)=>Rd.u hv hF M);have N:=Hd (fun W (M:FS w W)=>(M.cell (p:=⟨T,0,V⟩) (dW K)).trans K);rw[L]at f U ⊢;have P:=Hd L;have ad:(n:Int)≤9223372036854775807:=by unfold maxLen at f;omega
 clear hv K L f
 go_enter Tryz.func32,Tryz.ntmps32
 go_wp2
 go_loopw [8] (xq w n (types.map au.a) x) (fun i _=>n-(intOf i).toNat)
 case atStart=>exact⟨0,Fi _,Z,EU _ _,fun j z hj=>by omega⟩
 case round =>
  obtain⟨k,hk,rfl,r,s⟩:=hrel;have af:(0:Int)≤k:=by omega
  obtain⟨Q,m⟩:=zz2 r s;clear s
  by_cases R:k<n
  ·have ak:(k:Int)<n:=by omega
   obtain⟨t,q⟩:∃t,types[k]?=A t:=⟨_,EX (by rw[P.o];exact R)⟩;have g:=U.o wr r;have u:=Rd.T g q;rw[P.o]at u;obtain⟨b,off,cap,vs,he,_,_,_,_,y,a⟩:=u;injection he with e1 _ e3
   subst e1;subst e3;obtain⟨_,_,_,sc,sa,rfl,B,C⟩:=gA.1 y;obtain⟨X,cc,rfl⟩:=Rd.b B;obtain⟨pa,ca,rfl⟩:=Rd.b C;have c0:wr.cell? ⟨b,off+k*5,V⟩=A (p9 t.a):=a 0 _ Z;have c1:wr.cell? ⟨b,off+k*5+1,V⟩=A (I Y t.c):=a 1 _ Z;have c2:wr.cell? ⟨b,off+k*5+2,V⟩=A (I Y t.b):=a 2 _ Z;have c3:wr.cell? ⟨b,off+k*5+3,V⟩=A (O X t.d.length cc):=a 3 _ Z;have c4:wr.cell? ⟨b,off+k*5+4,V⟩=A (O pa t.e.length ca):=a 4 _ Z;have HK:=Hd (zJ t.a x t.c t.b (O X t.d.length cc) (O pa t.e.length ca) T wr (N.o wr r));clear B C;have D:Hid ((types.map au.a)[k]?=A t.a):=by show _=_;rw[List.getElem?_map,q];rfl
   clear g y a q r;go_wp2_with fail
   refine HK.o.mono ?_;rintro e w1 ⟨rfl,E⟩;have G:=Hd (Q.o.trans (E.mono Q.o.size));clear E c0 c1 c2 c3 c4
   cases H:(t.a.data.toList==x.data.toList) with
   | true =>
    have S:=Hd (idxOf_hit D.o H m.o);clear H;go_wp2_with fail
    go_ret;exact⟨by rw[S.o];rfl,G.o⟩
   | false =>
    have HQ:=Hd H;clear H;go_wp2_with fail
    exact⟨⟨k+1,by omega,by go_num,G.o,fun j z hj l=>by
     by_cases h:j=k
     ·subst h;rw[D.o]at l;injection l with l
      rw[←l];exact HQ.o
     ·exact m.o j z (by omega) l⟩,by simp[intOf];omega⟩
  ·have S:Hid (eh (idxOf x (types.map au.a))=-1):=idxOf_miss (fun j z l=>m.o j z (by
    have:=(Fo.1 l).1;rw[List.length_map,P.o]at this
    omega) l)
   clear r;go_wp2_with fail
   go_ret;exact⟨by rw[S.o];rfl,Q.o⟩
theorem pm(types:List ap)(x:ByteArray)(vT:r3)(F:Nat→Prop)(M:Nat)(w:p7)(hv:cN.y w F types vT)(hF:∀b,F b→b<w.heap.size)(hm:w.cell? ⟨M,0,V⟩=A vT) :
  r9 r6 15 #[tv (A ⟨M,0,V⟩),p9 x] w (fun e w'=>e=tF (I Y (eh (dC x types)))∧FS w w'):=by
 have i:∀(fn:Fn) (first cap:Array r3) (w:p7),(Instr.makeFunc fn first cap).run r6 w=.ok (wP fn first cap) w:=fun _ _ _ _=>rfl
 obtain⟨p,c,rfl⟩:=Rd.b hv;have a:FS w (w.alloc (p8 #[p9 x] 9)):=(EU _ w).alloc (ET _) _;have f:(w.alloc (p8 #[p9 x] 9)).cell? ⟨M,0,V⟩=A (O p types.length c):=(a.cell (p:=⟨M,0,V⟩) (dW hm)).trans hm;obtain⟨j,h⟩:=zz2 (BY types x _ F w.heap.size (w.alloc (p8 #[p9 x] 9)) (Rd.u hv hF a) (fun b k=>EY (hF b k) a.size) (cell_new1 w _ _)) a;clear hv a hm
 go_enter Tryz.func15,Tryz.ntmps15
 go_wp2_with fail
 refine j.o.mono ?_;rintro e w1 ⟨rfl,d⟩;have g:=Hd (h.o.trans (d.mono h.o.size));clear d f;go_wp2_with fail
 go_ret;exact⟨Z,g.o⟩
theorem vK(d:Nat)(rules:List au)(x:ByteArray)(vR:r3)(F:Nat→Prop)(M:Nat)(w:p7)(hv:(dP d).y w F rules vR)(hF:∀b,F b→b<w.heap.size)(hm:w.cell? ⟨M,1,V⟩=A vR) :
  r9 r6 16 #[tv (A ⟨M,0,V⟩),p9 x] w (fun e w'=>e=tF (I Y (eh (idxOf x (rules.map au.a))))∧FS w w'):=by
 have j:∀(fn:Fn) (first cap:Array r3) (w:p7),(Instr.makeFunc fn first cap).run r6 w=.ok (wP fn first cap) w:=fun _ _ _ _=>rfl
 obtain⟨p,c,rfl⟩:=Rd.b hv;have a:FS w (w.alloc (p8 #[p9 x] 9)):=(EU _ w).alloc (ET _) _;have g:(w.alloc (p8 #[p9 x] 9)).cell? ⟨M,1,V⟩=A (O p rules.length c):=(a.cell (p:=⟨M,1,V⟩) (dW hm)).trans hm;obtain⟨k,i⟩:=zz2 (BX d rules x _ F w.heap.size (w.alloc (p8 #[p9 x] 9)) (Rd.u hv hF a) (fun b l=>EY (hF b l) a.size) (cell_new1 w _ _)) a;clear hv a hm
 go_enter Tryz.func16,Tryz.ntmps16
 go_wp2_with fail
 refine k.o.mono ?_;rintro e w1 ⟨rfl,f⟩;have h:=Hd (i.o.trans (f.mono i.o.size));clear f g;go_wp2_with fail
 go_ret;exact⟨Z,h.o⟩
theorem uF:∀(l:List UInt8) (m n:Nat),m≤lK→gq m l=A n→n≤lK
 | [],m,n,hm,h=>by
  simp only[gq]at h;injection h with h;omega
 | c::l,m,n,hm,h=>by
  unfold gq at h
  split at h
  ·rename_i a
   simp only[Fp,oE]at a;exact uF l _ n a.2 h
  ·cases h
theorem si(l:List UInt8):((number l).getD 0:Nat)≤lK:=by
 unfold number
 split
 ·exact Fi _
 ·cases h:gq 0 l with
  | none=>exact Fi _
  | some n=>exact uF l 0 n (Fi _) h
def fH(t:ByteArray):ByteArray:=if fh t.data.toList then t.extract 1 t.size else t
theorem wL(t:ByteArray):(fH t).data.toList=strip t.data.toList:=by
 unfold fH
 split
 ·rename_i h
  rw[ByteArray.data_extract,Array.toList_extract]
  cases a:t.data.toList with
  | nil=>rw[a]at h;cases h
  | cons c r =>
   rw[a]at h;have d:c=45:=by
    unfold fh at h
    split at h
    ·rename_i heq;injection heq
    ·cases h
   subst d;have e:t.size=r.length+1:=by
    have b:t.data.toList.length=t.size:=Fz;rw[a]at b
    simpa using b.symm
   rw[e];simp[strip,List.extract]
 ·rename_i h
  unfold strip
  split
  ·rename_i r heq
   exfalso
   apply h;unfold fh;rw[heq];rfl
  ·rfl
theorem wR(t:ByteArray):(fH t).size≤t.size:=by
 unfold fH
 split
 ·rw[ByteArray.size_extract];omega
 ·omega
theorem rh(l:List UInt8):Lib.hasPrefix l [45]=fh l:=by
 unfold Lib.hasPrefix fh
 cases l with
 | nil=>rfl
 | cons c r =>
  by_cases h:c=45
  ·subst h;rfl
  ·have:(45==c)=false:=by simpa using fun e:(45:UInt8)=c=>h e.symm
   simp only[List.isPrefixOf,this,Bool.false_and]
   split
   ·rename_i heq;injection heq with heq;exact absurd heq h
   ·rfl
theorem qA(s:ByteArray)(w:p7):r9 r6 212 #[p9 s,p9 ⟨#[45]⟩] w fun e w'=>e=tF (ur (fh s.data.toList))∧w=w':=
 (Tryz.stringslite_HasPrefix s ⟨#[45]⟩ w).mono fun e w' ⟨a,b⟩=>⟨by rw[a,←rh],b.symm⟩
theorem wh(t:ByteArray)(w:p7):r9 r6 217 #[p9 t,p9 ⟨#[45]⟩] w fun e w'=>e=tF (wF #[p9 (fH t),ur (fh t.data.toList)])∧w=w':=by
 have d:r9 r6 231 #[p9 t,p9 ⟨#[45]⟩] w fun e w'=>e=tF (wF #[p9 (fH t),ur (fh t.data.toList)])∧w=w':=by
  have j:=Hd (qA t w);have b:Hid (fH t=if fh t.data.toList then t.extract 1 t.size else t):=rfl;have k:fh t.data.toList=r5→1≤t.size:=fun h=>by
   have g:t.data.toList.length=t.size:=Fz
   cases i:t.data.toList with
   | nil=>rw[i]at h;cases h
   | cons c r=>rw[i]at g;simp at g;omega
  go_enter Tryz.func231,Tryz.ntmps231
  go_wp2_with fail
  refine j.o.mono ?_;rintro e w' ⟨rfl,rfl⟩
  cases a:fh t.data.toList with
  | true =>
   rw[a]at b;have d:=k a;have l:∀W,(Instr.slice 9 (p9 t) (A (I Y 1)) V V).run r6 W=.ok (p9 (fH t)) W:=fun W=>by
    rw[b.o];simp only[o4];exact run_slice_string_l W 9 t Tryz.underlying9 Y 1 (by omega) (by omega)
   go_wp2_with fail
   go_ret2
   exact⟨by rw[a];rfl,Z⟩
  | false =>
   rw[a]at b;have f:fH t=t:=b.o;go_wp2_with fail
   go_ret2
   exact⟨by rw[f,a];rfl,Z⟩
 have H1:=Hd d;clear d
 go_enter Tryz.func217,Tryz.ntmps217
 go_wp2_with fail
 refine H1.o.mono ?_;rintro e w' ⟨rfl,rfl⟩;go_wp2_with fail
 go_ret2
 exact⟨Z,Z⟩
theorem rK(W:p7)(e:Ending→p7→Prop)(T:Nat)(a b c:r3)(f:W.heap[T]?=A (p8 #[a,b,c] 47 (0,0)))
  (tmps:Array r3) (g:tmps.getD 2 tT=tv (A ⟨T,0,V⟩)) (h:e (tF (s3 #[a,b,c])) W):bodyPost r6 Tryz.f184 e .ret ⟨tmps,[]⟩ W:=by
 obtain⟨c0,c1,c2,_⟩:=cells3 f;have d:tmps[2]?.getD tT=tv (A ⟨T,0,V⟩):=by simpa using g
 refine bodyPost_ret (v:=s3 #[a,b,c]) ?_ Z h;simp[results,Tryz.results184,go_sem,d,c0,c1,c2]
theorem rI(T:ah)(s:r3)(w:p7)(h:T.b=14∨T.b=15)(p:T.h.size≤72007) :
  r9 r6 184 #[s3 #[I J T.b,p9 T.h,I Y T.q,I Y T.t,s]] w fun e w'=>e=tF (s3 (mY (bu T)).toArray)∧FS w w':=by
 obtain⟨k,t,nm,pl,y⟩:=T;have p:t.size≤72007:=p;have h:k=14∨k=15:=h
 show r9 r6 184 #[s3 #[I J k,p9 t,I Y nm,I Y pl,s]] w _
 rcases h with rfl|rfl
 ·have a:FS w ((w.alloc (p8 #[I J 14,p9 t,I Y nm,I Y pl,s] 64)).alloc (p8 #[I J 0,I Y 0,p9 ⟨#[]⟩] 47)):=((EU _ w).alloc (ET _) _).alloc (by simp) _;obtain⟨_,b,_⟩:=ay w (p8 #[I J 14,p9 t,I Y nm,I Y pl,s] 64) (p8 #[I J 0,I Y 0,p9 ⟨#[]⟩] 47);obtain⟨f,g,q,r⟩:=zz4 a b (lZ (fH t) ((w.alloc (p8 #[I J 14,p9 t,I Y nm,I Y pl,s] 64)).alloc (p8 #[I J 0,I Y 0,p9 ⟨#[]⟩] 47)) (by have:=wR t;omega)) (wh t ((w.alloc (p8 #[I J 14,p9 t,I Y nm,I Y pl,s] 64)).alloc (p8 #[I J 0,I Y 0,p9 ⟨#[]⟩] 47)));have hle:=si (fH t).data.toList;have u:Hid (lX t=if fh t.data.toList then -(((number (fH t).data.toList).getD 0:Nat):Int) else (((number (fH t).data.toList).getD 0:Nat):Int)):=by
   show lX t=_
   unfold lX;rw[wL]
  clear a b
  go_enter Tryz.func184,Tryz.ntmps184
  go_wp2_with fail
  refine r.o.mono ?_;rintro e w' ⟨rfl,rfl⟩;go_wp2_with fail
  refine q.o.mono ?_;rintro e w1 ⟨rfl,c⟩;have i:=Hd (f.o.trans (c.mono f.o.size));have j:=ag c g.o (ES.1 g.o).1;obtain⟨c0,c1,c2,f0,f1,f2⟩:=cells3 j;have l:=Hd j;clear c j q r;generalize (number (fH t).data.toList).getD 0=n at *;have D:(n:Int)≤9223372036854775807:=by unfold lK at hle;omega
  have B:(0:Int)≤n:=by omega
  have fin:∀(z:Int),lX t=z→∀(tmps:Array r3),tmps.getD 2 tT=tv (A ⟨w.heap.size+1,0,V⟩)→bodyPost r6 Tryz.f184 (fun e w'=>e=tF (s3 (mY (bu (.mk 14 t nm pl y))).toArray)∧FS w w') .ret ⟨tmps,[]⟩ (((w1.setCell ⟨w.heap.size+1,0,V⟩ (I J 1)).setCell ⟨w.heap.size+1,1,V⟩ (I Y z)).setCell ⟨w.heap.size+1,2,V⟩ (p9 ⟨#[]⟩)):=fun z d tmps C=>by
   refine rK _ _ (w.heap.size+1) (I J 1) (I Y z) (p9 ⟨#[]⟩) ?_ tmps C ⟨?_,((i.o.setCell (by simp) _).setCell (by simp) _).setCell (by simp) _⟩
   ·rw[heap_set (heap_set (heap_set l.o 0 _) 1 _) 2 _];rfl
   ·rw[←d];rfl
  have v:=Hd fin;clear fin
  cases x:fh t.data.toList with
  | true =>
   have d:lX t=-(n:Int):=by rw[u.o,x];rfl
   have m:=Hd d;clear d hle;go_wp2_with fail
   exact v.o _ m.o _ Z
  | false =>
   have d:lX t=(n:Int):=by rw[u.o,x];rfl
   have m:=Hd d;clear d hle;go_wp2_with fail
   exact v.o _ m.o _ Z
 ·have a:FS w ((w.alloc (p8 #[I J 15,p9 t,I Y nm,I Y pl,s] 64)).alloc (p8 #[I J 2,I Y 0,p9 t] 47)):=((EU _ w).alloc (ET _) _).alloc (by simp) _;obtain⟨_,b,_⟩:=ay w (p8 #[I J 15,p9 t,I Y nm,I Y pl,s] 64) (p8 #[I J 2,I Y 0,p9 t] 47);obtain⟨f,g⟩:=zz2 a b;clear a b
  go_enter Tryz.func184,Tryz.ntmps184
  go_wp2_with fail
  exact rK _ _ (w.heap.size+1) _ _ _ g.o _ Z ⟨Z,f.o⟩
def nQ{α:Type} (r:Except Flt α) (val:α→r3) (w:p7) (e:Ending) (w':p7):Prop:=FS w w'∧match r with
 | .ok x=>e=tF (val x)
 | .error er=>e=aQ er.1 er.2
theorem kZ:Elem 162 215 2 16:=Elem.of (z:=s3 #[ur r7,I Y 0]) Tryz.underlying215 (by kernel_rfl) Z (by decide) (by decide)
theorem cd{a W W':p7}(h:∃x:Wb a,W=x.1)(b:FS W W'):∃x:Wb a,W'=x.1:=by
 obtain⟨x,rfl⟩:=h;exact⟨⟨W',x.2.trans (b.mono x.2.size)⟩,Z⟩
theorem kM(x:ByteArray):∀(l:List ByteArray) (m k:Nat),gl x l m=A k→m≤k∧k<m+l.length
 | [],m,k,h=>by cases h
 | y::l,m,k,h=>by
  unfold gl at h
  split at h
  ·injection h with h;subst h;simp
  ·have:=kM x l (m+1) k h;simp only[FC];omega
theorem oz{x:ByteArray}{l:List ap}{k:Nat}(h:dC x l=A k):k<l.length:=by
 have:=(kM x (l.map ap.a) 0 k h).2
 simpa using this
def lG(k:Nat):Value:=I Y (k:Int)
theorem Ag(types:List ap)(T:ah)(p:Option Addr)(c:Nat)(vT:r3)(F:Nat→Prop)(M:Nat)(w:p7)(hv:cN.y w F types vT)(hF:∀b,F b→b<w.heap.size)(hm:w.cell? ⟨M,0,V⟩=A vT)(_hl:T.u.length≤100000) :
  r9 r6 107 #[tv (A ⟨M,0,V⟩),s3 #[I J T.b,p9 T.h,I Y T.q,I Y T.t,O p T.u.length c]] w (nQ (dI types T) lG w):=by
 obtain⟨pT,cT,rfl⟩:=Rd.b hv;have af:=Rd.ss hv;obtain⟨n,hn⟩:=zzy (T.u.length);have N:Hid (dI types T=match dC T.h types with|none=>wD (211,T.t)|some k=>if ((types[k]?).map ap.b).getD 0==(n:Int) then vb k else wD (212,T.t)):=by show _=_;rw[←hn];rfl
 rw[hn];obtain⟨w1,z⟩:=zzx (w.alloc (p8 #[I J T.b,p9 T.h,I Y T.q,I Y T.t,O p n c] 64));have d:FS w w1:=by rw[z];exact (EU _ w).alloc (ET _) _
 have HX:Hid (w1.heap[w.heap.size]?=A (p8 #[I J T.b,p9 T.h,I Y T.q,I Y T.t,O p n c] 64 (0,0))):=by show _=_;rw[z];exact ot w _
 have hM:=dW hm;have HV:=Hd (fun W (P:FS w1 W)=>Rd.u hv hF (d.trans (P.mono d.size)));have HM:=Hd (fun W (P:FS w1 W)=>((d.trans (P.mono d.size)).cell (p:=⟨M,0,V⟩) hM).trans hm);have HF:=Hd (fun W (P:FS w1 W) b (hf:F b)=>EY (hF b hf) (EZ d.size P.size));have f:=Hd d;clear hn d hv hF hm
 go_enter Tryz.func107,Tryz.ntmps107
 go_upto_region 1 with fail
 change Code.wp _ _ _ _ (w.alloc (p8 #[I J T.b,p9 T.h,I Y T.q,I Y T.t,O p n c] 64));rw[←z];clear z;obtain⟨x0,x1,x2,x3,x4⟩:=cells5 HX.o;have X1:=fun x:Wb w1=>x.b x1
 have HK:=Hd (fun x:Wb w1=>pm types T.h _ F M x.1 (HV.o _ x.2) (HF.o _ x.2) (HM.o _ x.2));refine aj (by kernel_rfl) (by kernel_rfl) ?_
 repeat (go_big_quiet_step ((go_at_call 15;exact Calls.b (HK.o _))))
 refine vk ?_;intro W2 Q;have G:=aE Q;have B:=Hd G;have H:=ag G HX.o (ES.1 HX.o).1;have R:=Hd H;obtain⟨a0,a1,a2,a3,a4⟩:=cells5 H;clear Q G H X1 HK x0 x1 x2 x3 x4
 cases q:dC T.h types with
 | none =>
  rw[q]at N;clear q;have j:FS W2 (W2.alloc (p8 (fo [(r5,211)]).toArray 162)):=(EU _ W2).alloc (ET _) _;obtain⟨r,C⟩:=zz2 (f.o.trans ((B.o.trans (j.mono B.o.size)).mono f.o.size)) (bS [(r5,211)] T.b T.h T.q T.t (O p n c) W2.heap.size 1 1 (W2.alloc (p8 (fo [(r5,211)]).toArray 162)) Z (by omega) (ot W2 _));clear j;go_wp2_with fail
  refine C.o.mono ?_;rintro e a ⟨s,he⟩;have he:e=aQ 211 T.t:=he;subst he;refine⟨Z,r.o.trans (s.mono r.o.size),?_⟩;rw[N.o];rfl
 | some k =>
  rw[q]at N;have ak:=oz q;obtain⟨t,K⟩:∃t,types[k]?=A t:=⟨_,EX ak⟩;have S:Hid (dI types T=if t.b==(n:Int) then vb k else wD (212,T.t)):=by show _=_;rw[N.o];dsimp only;rw[K];rfl
  rw[show eh (A k)=(k:Int) from rfl];have a7:¬((k:Int)<0):=by omega
  have a8:(0:Int)≤k:=by omega
  have ba:(k:Int)<types.length:=by omega
  have bb:(types.length:Int)≤9223372036854775807:=by unfold maxLen at af;omega
  clear q N;obtain⟨wn,D⟩:=zzx (W2.alloc (p8 (fo [(r7,211)]).toArray 162));have j:FS W2 wn:=by rw[D];exact (EU _ W2).alloc (ET _) _
  obtain⟨r,U,C⟩:=zz3 (B.o.trans (j.mono B.o.size)) (ag j R.o (ES.1 R.o).1) (bS [(r7,211)] T.b T.h T.q T.t (O p n c) W2.heap.size 1 1 (W2.alloc (p8 (fo [(r7,211)]).toArray 162)) Z (by omega) (ot W2 _));rw[←D]at C;clear j;go_wp2_with fail
  change r9 r6 47 #[_,_] (W2.alloc (p8 (fo [(r7,211)]).toArray 162)) _;rw[←D];clear D;refine C.o.mono ?_;rintro e a ⟨s,he⟩;have he:e=tF (wF #[]):=he;subst he;have l:=Hd (r.o.trans (s.mono r.o.size));have X:=ag s U.o (ES.1 U.o).1;have aq:=Hd X;clear s a0 a1 a2 a3 a4 X C;obtain⟨a0,a1,a2,a3,a4⟩:=cells5 aq.o;obtain⟨b,off,cap,vs,ar,_,_,_,_,ad,u⟩:=Rd.T (HV.o a l.o) K;obtain⟨rfl,_,_⟩:=fW.1 ad;injection ar with e1 _ e3
  subst e1;subst e3;have c1:a.cell? ⟨b,off+k*2+1,V⟩=A (I Y t.b):=u 1 _ Z;have m0:=HM.o a l.o;have A0:=fun x:Wb a=>x.b a0
  have A1:=fun x:Wb a=>x.b a1
  have A2:=fun x:Wb a=>x.b a2
  have A3:=fun x:Wb a=>x.b a3
  have A4:=fun x:Wb a=>x.b a4
  have B1:=fun x:Wb a=>x.b c1
  have M0:=fun x:Wb a=>x.b m0
  clear ad u K
  cases hq:(t.b==(n:Int)) with
  | true =>
   have av:(t.b != (n:Int))=false:=by simp only[bne,hq];rfl
   have HQ:=Hd hq;go_wp2_with fail
   refine RE.t (by kernel_rfl) 17 [16] [] (fun _ W=>∃x:Wb a,W=x.1) (fun W W'=>FS W W') (fun i ys=>ys.getD 0 tT) (fun i W ys=>if i=16 then One 162 a.heap.size (fo [(r7,212)]) W (ys.getD 0 tT) else True) (by kernel_rfl) (fun _ _ _ _ _ _ h m=>cd h m) (fun i W W' ys h _ m=>by split at h;(rw[oA (by assumption)];exact h.C m);rw[ox (by assumption)];trivial) ⟨⟨a.drew,(EU _ _).drew⟩,Z⟩ ?_;simp only[Fg,Fu,Fh,Ft]
   repeat (refine RE.h (fun W=>∃x:Wb a,W=x.1) (fun _ _ _ h=>h) Z Z Z ⟨⟨a.drew,(EU _ _).drew⟩,Z⟩ ?_;go_big_quiet_step (fail);refine vk ?_)
   refine RE.b Z Z ?_ (fun ys=>?_)
   ·intro W hC _ L;obtain⟨s9,_,x,rfl⟩:=hC;exact eL kZ (vs:=fo [(r7,212)]) _ Z Z Z x.2.size (fun v W' m ho=>⟨[v],Z,m,m,ho⟩)
   simp only[Act.put,EV,Fe,Fc];refine RE.q ?_;intro W hS L;obtain⟨x,rfl⟩:=hS;obtain⟨g,eg,lg,hg⟩:One 162 a.heap.size (fo [(r7,212)]) x.1 (ys.getD 0 tT):=L 16 ys Z;rw[eg];obtain⟨C,y⟩:=zz2 (bS [(r7,212)] T.b T.h T.q T.t (O p n c) g 1 1 x.1 Z (by omega) hg) (f.o.trans ((l.o.trans (x.2.mono l.o.size)).mono f.o.size));clear L eg lg hg A0 A1 A2 A3 A4 B1 M0;go_wp2_with fail
   refine C.o.mono ?_;rintro e w5 ⟨E,he⟩;have he:e=tF (wF #[]):=he;subst he;have a6:=Hd (y.o.trans (E.mono y.o.size));clear E;go_wp2_with fail
   go_ret;refine⟨a6.o,?_⟩;rw[S.o,HQ.o];rfl
  | false =>
   have av:(t.b != (n:Int))=true:=by simp only[bne,hq];rfl
   have HQ:=Hd hq;go_wp2_with fail
   refine RE.t (by kernel_rfl) 17 [16] [] (fun _ W=>∃x:Wb a,W=x.1) (fun W W'=>FS W W') (fun i ys=>ys.getD 0 tT) (fun i W ys=>if i=16 then One 162 a.heap.size (fo [(r5,212)]) W (ys.getD 0 tT) else True) (by kernel_rfl) (fun _ _ _ _ _ _ h m=>cd h m) (fun i W W' ys h _ m=>by split at h;(rw[oA (by assumption)];exact h.C m);rw[ox (by assumption)];trivial) ⟨⟨a.drew,(EU _ _).drew⟩,Z⟩ ?_;simp only[Fg,Fu,Fh,Ft]
   repeat (refine RE.h (fun W=>∃x:Wb a,W=x.1) (fun _ _ _ h=>h) Z Z Z ⟨⟨a.drew,(EU _ _).drew⟩,Z⟩ ?_;go_big_quiet_step (fail);refine vk ?_)
   refine RE.b Z Z ?_ (fun ys=>?_)
   ·intro W hC _ L;obtain⟨s9,_,x,rfl⟩:=hC;exact eL kZ (vs:=fo [(r5,212)]) _ Z Z Z x.2.size (fun v W' m ho=>⟨[v],Z,m,m,ho⟩)
   simp only[Act.put,EV,Fe,Fc];refine RE.q ?_;intro W hS L;obtain⟨x,rfl⟩:=hS;obtain⟨g,eg,lg,hg⟩:One 162 a.heap.size (fo [(r5,212)]) x.1 (ys.getD 0 tT):=L 16 ys Z;rw[eg];obtain⟨C,y⟩:=zz2 (bS [(r5,212)] T.b T.h T.q T.t (O p n c) g 1 1 x.1 Z (by omega) hg) (f.o.trans ((l.o.trans (x.2.mono l.o.size)).mono f.o.size));clear L eg lg hg A0 A1 A2 A3 A4 B1 M0;go_wp2_with fail
   refine C.o.mono ?_;rintro e w5 ⟨E,he⟩;have he:e=aQ 212 T.t:=he;subst he;refine⟨Z,y.o.trans (E.mono y.o.size),?_⟩;rw[S.o,HQ.o];rfl
theorem bY{w:p7}{F:Nat→Prop}{d:Nat}{a:List aw}{s:r3}(h:ey w F d a s):∃p c,s=O p a.length c:=by
 cases d with
 | zero=>obtain⟨rfl,p,c,rfl⟩:=h;exact⟨p,c,Z⟩
 | succ d=>exact Rd.b h
theorem gr(d:Nat):(ec d).n=10:=by cases d<;>rfl
theorem D2(d:Nat):(fG d).n=4:=rfl
theorem BL(d:Nat):(dP d).n=5:=rfl
def DT(w:p7) (n:Nat) (cs:List aK) (f i:r3) (W:p7):Prop:=∃k:Nat,k≤n∧i=I Y (k:Int)∧f=I Y ((eb (cs.take k):Nat):Int)∧FS w W
theorem vP(l:List aK)(k:Nat)(c:aK)(h:l[k]?=A c):eb (l.take (k+1))=eb (l.take k)+(if c.b==1 then 1 else 0):=by
 unfold eb;rw[FI,h,List.filter_append,Fl]
 congr 1
 show (List.filter _ [c]).length=_
 by_cases a:(c.b==1)=r5
 ·rw[oA a];simp[List.filter,a]
 ·rw[ox a];simp only[Bool.not_eq_true]at a;simp[List.filter,a]
theorem zu(d:Nat)(conds:List aK)(vC:r3)(F:Nat→Prop)(M:Nat)(w:p7)(hv:(ec d).y w F conds vC)(hF:∀b,F b→b<w.heap.size)(hm:w.cell? ⟨M,6,V⟩=A vC)(j:conds.length≤10000) :
  r9 r6 111 #[tv (A ⟨M,0,V⟩)] w (fun e w'=>e=tF (I Y (eb conds:Int))∧FS w w'):=by
 obtain⟨p,c,rfl⟩:=Rd.b hv;obtain⟨n,C⟩:=zzy (conds.length);have H:=Hd (fun W (T:FS w W)=>Rd.u hv hF T);rw[C]at H hm j;have K:=Hd C;have U:(n:Int)≤10000:=by omega
 clear hv C
 go_enter Tryz.func111,Tryz.ntmps111
 go_wp2
 go_loopw [3,12] (DT w n conds) (fun _ i _=>n-(intOf i).toNat)
 case atStart=>exact⟨0,Fi _,Z,Z,EU _ _⟩
 case round =>
  obtain⟨k,hk,rfl,rfl,B⟩:=hrel;have X:(0:Int)≤k:=by omega
  have D:=Hd B
  by_cases E:k<n
  ·have ad:(k:Int)<n:=by omega
   obtain⟨x,G⟩:∃x,conds[k]?=A x:=⟨_,EX (by rw[K.o];exact E)⟩;obtain⟨b,off,cap,vs,he,_,_,_,_,l,a⟩:=Rd.T (H.o wr B) G;injection he with e1 _ e3
   subst e1;subst e3;have a:∀(m:Nat) (u:r3),vs[m]?=A u→wr.cell? ⟨b,off+k*10+m,V⟩=A u:=fun m u h=>by rw[←gr d];exact a m u h
   obtain⟨_,_,_,sa,s,rfl,q,r⟩:=gh.1 l;obtain⟨L,N,rfl⟩:=Rd.b q;obtain⟨P,Q,rfl⟩:=bY r;have c0:wr.cell? ⟨b,off+k*10,V⟩=A (I J x.b):=a 0 _ Z;have c1:wr.cell? ⟨b,off+k*10+1,V⟩=A (I Y x.h):=a 1 _ Z;have c2:wr.cell? ⟨b,off+k*10+2,V⟩=A (O L x.c.length N):=a 2 _ Z;have c3:wr.cell? ⟨b,off+k*10+3,V⟩=A (I J x.a.b):=a 3 _ Z;have c4:wr.cell? ⟨b,off+k*10+4,V⟩=A (I J x.a.h.b):=a 4 _ Z;have c5:wr.cell? ⟨b,off+k*10+5,V⟩=A (I Y x.a.h.q):=a 5 _ Z;have c6:wr.cell? ⟨b,off+k*10+6,V⟩=A (p9 x.a.h.h):=a 6 _ Z;have c7:wr.cell? ⟨b,off+k*10+7,V⟩=A (I Y x.a.q):=a 7 _ Z;have c8:wr.cell? ⟨b,off+k*10+8,V⟩=A (I J x.a.op):=a 8 _ Z;have c9:wr.cell? ⟨b,off+k*10+9,V⟩=A (O P x.a.u.length Q):=a 9 _ Z;have t:=Hd (vP conds k x G);have af:eb (conds.take k)≤10000:=by
    have h1:eb (conds.take k)≤(conds.take k).length:=List.length_filter_le _ _;have h2:=List.length_take_le k conds;omega
   have R:((eb (conds.take k):Nat):Int)≤10000:=by omega
   have S:(0:Int)≤((eb (conds.take k):Nat):Int):=by omega
   have v:FS wr (wr.alloc (p8 #[I J x.b,I Y x.h,O L x.c.length N,I J x.a.b,I J x.a.h.b,I Y x.a.h.q,p9 x.a.h.h,I Y x.a.q,I J x.a.op,O P x.a.u.length Q] 53)):=(EU _ wr).alloc (ET _) _;have f:=Hd (D.o.trans (v.mono D.o.size));clear l a q r G B v
   cases g:(x.b==1) with
   | true =>
    have y:Hid (eb (conds.take (k+1))=eb (conds.take k)+1):=by show _=_;rw[t.o,g];rfl
    have z:x.b=1:=by simpa using g
    rw[z]at f;clear g;go_wp2_with fail
    exact⟨⟨k+1,by omega,by go_num,by rw[y.o];go_num,f.o⟩,by simp[intOf];omega⟩
   | false =>
    have y:Hid (eb (conds.take (k+1))=eb (conds.take k)):=by show _=_;rw[t.o,g];rfl
    have z:¬x.b=1:=by simpa using g
    clear g;go_wp2_with fail
    exact⟨⟨k+1,by omega,by go_num,by rw[y.o],f.o⟩,by simp[intOf];omega⟩
  ·have y:Hid (eb (conds.take k)=eb conds):=by show _=_;rw[Fq (by rw[K.o];omega)]
   clear B;go_wp2_with fail
   go_ret;exact⟨by rw[←y.o];rfl,D.o⟩
