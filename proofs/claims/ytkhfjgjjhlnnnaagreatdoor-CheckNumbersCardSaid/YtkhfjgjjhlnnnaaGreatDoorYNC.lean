/- Parts of one proof, joined; conditions stand in each theorem. -/
import Derived.Test.YtkhfjgjjhlnnnaaGreatDoorYNA
import Derived.Test.YtkhfjgjjhlnnnaaGreatDoorYNB
import Derived.Test.YtkhfjgjjhlnnnaaGreatDoorYMD
open Option renaming none→U,some→Y
open Go.Value renaming bool→AJ,int→I,agg→xS,tuple→CA,string→J,slice→A,pointer→xV,func→CF
open Go.IntKind renaming i64→Z,u8→O
open Bool renaming false→xj,true→wP
open Go renaming World→wD,Value→wF,Calls→xL,undef→At,wpQuiet_nil→Bk
open Go.Ending renaming returned→z8
open Go.Obj renaming cells→wq
open Go.Proofs.Tryz renaming prog→xD
open Except renaming error→BT,ok→AF
namespace Go.Proofs.YtkhfjgjjhlnnnaaGreatDoor
set_option maxHeartbeats 2000000
set_option maxRecDepth 100000
open Go.RowKit
def iF:List (Bool×Int)→Option Int
 | []=>U
 | (b,e)::l=>if b then Y e else iF l
def fE(l:List (Bool×Int)):List Value:=(l.map fun x=>[AJ x.1,I Z x.2]).flatten
theorem xk:∀(l:List (Bool×Int)) (k:Nat) (x:Bool×Int),l[k]?=Y x→(fE l)[k*2]?=Y (AJ x.1)∧(fE l)[k*2+1]?=Y (I Z x.2)
 | [],k,x,h=>by simp at h
 | y::l,0,x,h=>by
  simp only[List.getElem?_cons_zero,ss]at h;subst h;exact⟨V,V⟩
 | y::l,k+1,x,h=>by
  rw[FC]at h;have:=xk l k x h;have e:fE (y::l)=AJ y.1::I Z y.2::fE l:=rfl;rw[e,show (k+1)*2=k*2+1+1 by omega]
  simpa using this
theorem kw(l:List (Bool×Int)):∀k,(∀j x,j<k→l[j]?=Y x→x.1=xj)→iF l=iF (l.drop k)
 | 0,_=>rfl
 | k+1,h=>by
  rw[kw l k (fun j x i d=>h j x (by omega) d)]
  cases a:l.drop k with
  | nil =>
   have:l.drop (k+1)=[]:=by rw[←List.drop_drop,a];rfl
   rw[this]
  | cons y r =>
   have f:l.drop (k+1)=r:=by rw[←List.drop_drop,a];rfl
   have g:l[k]?=Y y:=by
    have:=tF (·[0]?) a
    simpa using this
   have c:=h k y (by omega) g;rw[f];obtain⟨b,e⟩:=y;have c:b=false:=c
   show (if b then Y e else iF r)=iF r
   rw[c];rfl
def aU(er place:Int):Ending:=.panicked [{ v:=.iface 35 (xS #[I Z er,I Z place]),recovered:=xj }]
def C6(l:List (Bool×Int)) (place:Int) (w:wD) (e:Ending) (w':wD):Prop:=FK w w'∧match iF l with
 | none=>e=z8 (CA #[])
 | some er=>e=aU er place
def Es(w:wD) (n:Nat) (l:List (Bool×Int)) (cs:Array wF) (i:wF) (W:wD):Prop:=∃k:Nat,k≤n∧i=I Z (k:Int)∧FK w W∧W.heap[w.heap.size]?=Y (wq cs 25 (0,0))∧(∀j x,j<k→l[j]?=Y x→x.1=xj)
theorem bY(l:List (Bool×Int))(k:Nat)(t:ByteArray)(nm pl:Int)(s:wF)(g n c:Nat)(w:wD)(H:l.length=n)(R:n≤100)(E:w.heap[g]?=Y (wq (fE l).toArray 104 (0,0))) :
  xL xD 39 #[xS #[I O k,J t,I Z nm,I Z pl,s],A (Y ⟨g,0,U⟩) n c] w (C6 l pl w):=by
 have F:g<w.heap.size:=(EN.1 E).1;obtain⟨S,K⟩:=zz2 E H;have q:FK w (w.alloc (wq #[I O k,J t,I Z nm,I Z pl,s] 25)):=(EP _ w).alloc (EO _) _;have L:Hid ((w.alloc (wq #[I O k,J t,I Z nm,I Z pl,s] 25)).heap[w.heap.size]?=Y (wq #[I O k,J t,I Z nm,I Z pl,s] 25 (0,0))):=p9 w _;have M:=Hd q;clear E H q
 go_enter Tryz.func39,Tryz.ntmps39
 go_wp2
 go_loopw [8] (Es w n l #[I O k,J t,I Z nm,I Z pl,s]) (fun i _=>n-(intOf i).toNat)
 case atStart=>exact⟨0,Fa _,V,M.o,L.o,fun j x N=>by omega⟩
 case round =>
  clear M L;obtain⟨i,hi,rfl,P,a,u⟩:=hrel;have T:(0:Int)≤i:=by omega
  obtain⟨d,v,e⟩:=zz3 P a u;clear P a u
  by_cases G:i<n
  ·have W:(i:Int)<n:=by omega
   obtain⟨x,f⟩:∃x,l[i]?=Y x:=⟨_,ES (by rw[K.o];exact G)⟩;obtain⟨b,er⟩:=x;have m:=aa d.o S.o F;obtain⟨a0,a1⟩:=xk l i (b,er) f;have c0:wr.cell? ⟨g,i*2,U⟩=Y (AJ b):=by rw[FI _ _ _ _ _ _ m];simpa using a0
   have c1:wr.cell? ⟨g,i*2+1,U⟩=Y (I Z er):=by rw[FI _ _ _ _ _ _ m];simpa using a1
   have z:=Hd f;have p:FK wr (wr.alloc (wq #[AJ b,I Z er] 104)):=(EP _ wr).alloc (EO _) _;obtain⟨B,C⟩:=zz2 (d.o.trans (p.mono d.o.size)) (aa p v.o (EN.1 v.o).1);have d3:(wr.alloc (wq #[AJ b,I Z er] 104)).cell? ⟨w.heap.size,3,U⟩=Y (I Z pl):=by rw[FI _ _ _ _ _ _ C.o];rfl
   clear m a0 a1 f p
   cases b with
   | true =>
    have X:Hid (iF l=Y er):=by
     show _=_
     rw[kw l i e.o];obtain⟨r,hr⟩:∃r,l.drop i=(wP,er)::r:=by
      have:=z.o
      cases Q:l.drop i with
      | nil =>
       have D:=tF (·[0]?) Q;simp[this]at D
      | cons y r =>
       have D:=tF (·[0]?) Q;simp[this]at D;exact⟨r,by rw[D]⟩
     rw[hr];rfl
    go_wp2
    refine⟨V,B.o,?_⟩;rw[X.o];rfl
   | false =>
    go_wp2
    exact⟨⟨i+1,by omega,by go_num,B.o,C.o,fun j x N a=>by
     by_cases h:j=i
     ·subst h;rw[z.o]at a;injection a with a
      rw[←a]
     ·exact e.o j x (by omega) a⟩,by simp[intOf];omega⟩
  ·go_wp2
   go_returns
   refine⟨d.o,?_⟩;have hF:iF l=none:=by
    rw[kw l n (fun j x N a=>e.o j x (by omega) a),List.drop_of_length_le (by rw[K.o];exact EO _)];rfl
   rw[hF]
theorem uH(x:ByteArray):∀(l:List ByteArray) (m k:Nat) (y:ByteArray),l[k]?=Y y→(y.data.toList==x.data.toList)=wP→(∀(j:Nat) (z:ByteArray),j<k→l[j]?=Y z→(z.data.toList==x.data.toList)=xj)→gb x l m=Y (m+k)
 | [],m,k,y,h,_,_=>by simp at h
 | z::l,m,0,y,h,he,_=>by
  simp only[List.getElem?_cons_zero,ss]at h;subst h;unfold gb;rw[rv he];rfl
 | z::l,m,k+1,y,h,he,a=>by
  rw[FC]at h;have b:=a 0 z (by omega) V;unfold gb;rw[b];simp only[Fo,sm];rw[uH x l (m+1) k y h he (fun j c e d=>a (j+1) c (by omega) (by rw[FC];exact d))]
  congr 1;omega
theorem sd(x:ByteArray):∀(l:List ByteArray) (m:Nat),(∀(j:Nat) (z:ByteArray),l[j]?=Y z→(z.data.toList==x.data.toList)=xj)→gb x l m=U
 | [],m,_=>rfl
 | z::l,m,a=>by
  unfold gb;rw[a 0 z V];simp only[Fo,sm];exact sd x l (m+1) (fun j b c=>a (j+1) b (by rw[FC];exact c))
def bP:Option Nat→Int
 | some k=>k
 | none=>-1
theorem idxOf_hit{x y:ByteArray}{l:List ByteArray}{k:Nat}(h:l[k]?=Y y)(he:(y.data.toList==x.data.toList)=wP)(a:∀(j:Nat)(z:ByteArray),j<k→l[j]?=Y z→(z.data.toList==x.data.toList)=xj):bP (idxOf x l)=k:=by
 unfold idxOf;rw[uH x l 0 k y h he a,Nat.zero_add];rfl
theorem idxOf_miss{x:ByteArray}{l:List ByteArray}(a:∀(j:Nat)(z:ByteArray),l[j]?=Y z→(z.data.toList==x.data.toList)=xj):bP (idxOf x l)=-1:=by
 unfold idxOf;rw[sd x l 0 a];rfl
theorem dW{w:wD}{T o:Nat}{v:wF}(h:w.cell? ⟨T,o,U⟩=Y v):T<w.heap.size:=by
 cases a:w.heap[T]? with
 | none=>unfold World.cell? at h;simp[a]at h
 | some o=>exact (EN.1 a).1
theorem zy(a b:ByteArray)(n:Int)(T:Nat)(w:wD)(d:w.cell? ⟨T,0,U⟩=Y (J b)) :
  xL xD 62 #[xS #[J a,I Z n],xV (Y ⟨T,0,U⟩)] w fun e w'=>e=z8 (AJ (a.data.toList==b.data.toList))∧FK w w':=by
 have f:=dW d;have c:FK w (w.alloc (wq #[J a,I Z n] 52)):=(EP _ w).alloc (EO _) _;have g:(w.alloc (wq #[J a,I Z n] 52)).cell? ⟨T,0,U⟩=Y (J b):=(c.cell (p:=⟨T,0,U⟩) f).trans d;have h:=Hd c;clear c
 go_enter Tryz.func62,Tryz.ntmps62
 go_wp2
 go_ret;exact⟨by rw[Fb,Fb];rfl,h.o⟩
def oD(w:wD) (n:Nat) (l:List ByteArray) (x:ByteArray) (i:wF) (W:wD):Prop:=∃k:Nat,k≤n∧i=I Z (k:Int)∧FK w W∧(∀(j:Nat) (z:ByteArray),j<k→l[j]?=Y z→(z.data.toList==x.data.toList)=xj)
theorem BP(types:List ae)(x:ByteArray)(v:wF)(F:Nat→Prop)(T:Nat)(w:wD)(D:bV.K w F types v)(hF:∀b,F b→b<w.heap.size)(G:w.cell? ⟨T,0,U⟩=Y (J x)) :
  xL xD 61 #[v,CF (.func 62) #[] #[xV (Y ⟨T,0,U⟩)]] w (fun e w'=>e=z8 (I Z (bP (a8 x types)))∧FK w w'):=by
 obtain⟨p,c,rfl⟩:=Rd.b D;have d:=Rd.tT D;obtain⟨n,H⟩:=zzy (types.length);have R:=Hd (fun W (K:FK w W)=>Rd.X D hF K);have L:=Hd (fun W (K:FK w W)=>(K.cell (p:=⟨T,0,U⟩) (dW G)).trans G);rw[H]at d R ⊢;have M:=Hd H;have S:(n:Int)≤9223372036854775807:=by unfold maxLen at d;omega
 clear D G H d
 go_enter Tryz.func61,Tryz.ntmps61
 go_wp2
 go_loopw [8] (oD w n (types.map ae.a) x) (fun i _=>n-(intOf i).toNat)
 case atStart=>exact⟨0,Fa _,V,EP _ _,fun j z X=>by omega⟩
 case round =>
  obtain⟨k,hk,rfl,q,r⟩:=hrel;have ad:(0:Int)≤k:=by omega
  obtain⟨N,l⟩:=zz2 q r;clear r
  by_cases P:k<n
  ·have af:(k:Int)<n:=by omega
   obtain⟨t,m⟩:∃t,types[k]?=Y t:=⟨_,ES (by rw[M.o];exact P)⟩;have f:=R.o wr q;have s:=Rd.tS f m;rw[M.o]at s;obtain⟨b,off,cap,vs,he,_,_,_,_,u,a⟩:=s;injection he with e1 _ e3
   subst e1;subst e3;obtain⟨rfl,_,_⟩:=gp.1 u;have c0:wr.cell? ⟨b,off+k*2,U⟩=Y (J t.a):=a 0 _ V;have c1:wr.cell? ⟨b,off+k*2+1,U⟩=Y (I Z t.b):=a 1 _ V;have HK:=Hd (zy t.a x t.b T wr (L.o wr q));have y:Hid ((types.map ae.a)[k]?=Y t.a):=by show _=_;rw[List.getElem?_map,m];rfl
   clear f u a m q;go_wp2_with fail
   refine HK.o.mono ?_;rintro e w1 ⟨rfl,B⟩;have C:=Hd (N.o.trans (B.mono N.o.size));clear B c0 c1
   cases E:(t.a.data.toList==x.data.toList) with
   | true =>
    have Q:=Hd (idxOf_hit y.o E l.o);clear E;go_wp2_with fail
    go_ret;exact⟨by rw[show a8 x types=idxOf x (types.map ae.a) from rfl,Q.o];rfl,C.o⟩
   | false =>
    have HQ:=Hd E;clear E;go_wp2_with fail
    exact⟨⟨k+1,by omega,by go_num,C.o,fun j z X g=>by
     by_cases h:j=k
     ·subst h;rw[y.o]at g;injection g with g
      rw[←g];exact HQ.o
     ·exact l.o j z (by omega) g⟩,by simp[intOf];omega⟩
  ·have Q:Hid (bP (a8 x types)=-1):=idxOf_miss (fun j z g=>l.o j z (by
    have:=(Fe.1 g).1;rw[List.length_map,M.o]at this
    omega) g)
   clear q;go_wp2_with fail
   go_ret;exact⟨by rw[Q.o];rfl,N.o⟩
theorem zv(a b:ByteArray)(n m:Int)(c d:wF)(T:Nat)(w:wD)(g:w.cell? ⟨T,0,U⟩=Y (J b)) :
  xL xD 64 #[xS #[J a,I Z n,I Z m,c,d],xV (Y ⟨T,0,U⟩)] w fun e w'=>e=z8 (AJ (a.data.toList==b.data.toList))∧FK w w':=by
 have h:=dW g;have f:FK w (w.alloc (wq #[J a,I Z n,I Z m,c,d] 50)):=(EP _ w).alloc (EO _) _;have i:(w.alloc (wq #[J a,I Z n,I Z m,c,d] 50)).cell? ⟨T,0,U⟩=Y (J b):=(f.cell (p:=⟨T,0,U⟩) h).trans g;have j:=Hd f;clear f
 go_enter Tryz.func64,Tryz.ntmps64
 go_wp2
 go_ret;exact⟨by rw[Fb,Fb];rfl,j.o⟩
theorem BO(d:Nat)(types:List an)(x:ByteArray)(v:wF)(F:Nat→Prop)(T:Nat)(w:wD)(H:(bX d).K w F types v)(hF:∀b,F b→b<w.heap.size)(L:w.cell? ⟨T,0,U⟩=Y (J x)) :
  xL xD 63 #[v,CF (.func 64) #[] #[xV (Y ⟨T,0,U⟩)]] w (fun e w'=>e=z8 (I Z (bP (idxOf x (types.map an.a))))∧FK w w'):=by
 obtain⟨p,c,rfl⟩:=Rd.b H;have f:=Rd.tT H;obtain⟨n,M⟩:=zzy (types.length);have HV:=Hd (fun W (N:FK w W)=>Rd.X H hF N);have P:=Hd (fun W (N:FK w W)=>(N.cell (p:=⟨T,0,U⟩) (dW L)).trans L);rw[M]at f HV ⊢;have Q:=Hd M;have ad:(n:Int)≤9223372036854775807:=by unfold maxLen at f;omega
 clear H L M f
 go_enter Tryz.func63,Tryz.ntmps63
 go_wp2
 go_loopw [8] (oD w n (types.map an.a) x) (fun i _=>n-(intOf i).toNat)
 case atStart=>exact⟨0,Fa _,V,EP _ _,fun j z hj=>by omega⟩
 case round =>
  obtain⟨k,hk,rfl,r,s⟩:=hrel;have af:(0:Int)≤k:=by omega
  obtain⟨R,m⟩:=zz2 r s;clear s
  by_cases S:k<n
  ·have ak:(k:Int)<n:=by omega
   obtain⟨t,q⟩:∃t,types[k]?=Y t:=⟨_,ES (by rw[Q.o];exact S)⟩;have g:=HV.o wr r;have u:=Rd.tS g q;rw[Q.o]at u;obtain⟨b,off,cap,vs,he,_,_,_,_,y,a⟩:=u;injection he with e1 _ e3
   subst e1;subst e3;obtain⟨_,_,_,sc,sa,rfl,B,C⟩:=gY.1 y;obtain⟨pc,cc,rfl⟩:=Rd.b B;obtain⟨pa,ca,rfl⟩:=Rd.b C;have c0:wr.cell? ⟨b,off+k*5,U⟩=Y (J t.a):=a 0 _ V;have c1:wr.cell? ⟨b,off+k*5+1,U⟩=Y (I Z t.e):=a 1 _ V;have c2:wr.cell? ⟨b,off+k*5+2,U⟩=Y (I Z t.b):=a 2 _ V;have c3:wr.cell? ⟨b,off+k*5+3,U⟩=Y (A pc t.c.length cc):=a 3 _ V;have c4:wr.cell? ⟨b,off+k*5+4,U⟩=Y (A pa t.d.length ca):=a 4 _ V;have HK:=Hd (zv t.a x t.e t.b (A pc t.c.length cc) (A pa t.d.length ca) T wr (P.o wr r));clear B C;have D:Hid ((types.map an.a)[k]?=Y t.a):=by show _=_;rw[List.getElem?_map,q];rfl
   clear g y a q r;go_wp2_with fail
   refine HK.o.mono ?_;rintro e w1 ⟨rfl,E⟩;have G:=Hd (R.o.trans (E.mono R.o.size));clear E c0 c1 c2 c3 c4
   cases K:(t.a.data.toList==x.data.toList) with
   | true =>
    have X:=Hd (idxOf_hit D.o K m.o);clear K;go_wp2_with fail
    go_ret;exact⟨by rw[X.o];rfl,G.o⟩
   | false =>
    have HQ:=Hd K;clear K;go_wp2_with fail
    exact⟨⟨k+1,by omega,by go_num,G.o,fun j z hj l=>by
     by_cases h:j=k
     ·subst h;rw[D.o]at l;injection l with l
      rw[←l];exact HQ.o
     ·exact m.o j z (by omega) l⟩,by simp[intOf];omega⟩
  ·have X:Hid (bP (idxOf x (types.map an.a))=-1):=idxOf_miss (fun j z l=>m.o j z (by
    have:=(Fe.1 l).1;rw[List.length_map,Q.o]at this
    omega) l)
   clear r;go_wp2_with fail
   go_ret;exact⟨by rw[X.o];rfl,R.o⟩
theorem pQ(types:List ae)(x:ByteArray)(vT:wF)(F:Nat→Prop)(M:Nat)(w:wD)(f:bV.K w F types vT)(hF:∀b,F b→b<w.heap.size)(hm:w.cell? ⟨M,0,U⟩=Y vT) :
  xL xD 34 #[xV (Y ⟨M,0,U⟩),J x] w (fun e w'=>e=z8 (I Z (bP (a8 x types)))∧FK w w'):=by
 have j:∀(fn:Fn) (first cap:Array wF) (w:wD),(Instr.makeFunc fn first cap).run xD w=.ok (CF fn first cap) w:=fun _ _ _ _=>rfl
 obtain⟨p,c,rfl⟩:=Rd.b f;have a:FK w (w.alloc (wq #[J x] 9)):=(EP _ w).alloc (EO _) _;have g:(w.alloc (wq #[J x] 9)).cell? ⟨M,0,U⟩=Y (A p types.length c):=(a.cell (p:=⟨M,0,U⟩) (dW hm)).trans hm;obtain⟨k,i⟩:=zz2 (BP types x _ F w.heap.size (w.alloc (wq #[J x] 9)) (Rd.X f hF a) (fun b l=>ET (hF b l) a.size) (cell_new1 w _ _)) a;clear f a hm
 go_enter Tryz.func34,Tryz.ntmps34
 go_wp2_with fail
 refine k.o.mono ?_;rintro e w1 ⟨rfl,d⟩;have h:=Hd (i.o.trans (d.mono i.o.size));clear d g;go_wp2_with fail
 go_ret;exact⟨V,h.o⟩
theorem vo(d:Nat)(rules:List an)(x:ByteArray)(vR:wF)(F:Nat→Prop)(M:Nat)(w:wD)(g:(bX d).K w F rules vR)(hF:∀b,F b→b<w.heap.size)(hm:w.cell? ⟨M,1,U⟩=Y vR) :
  xL xD 35 #[xV (Y ⟨M,0,U⟩),J x] w (fun e w'=>e=z8 (I Z (bP (idxOf x (rules.map an.a))))∧FK w w'):=by
 have k:∀(fn:Fn) (first cap:Array wF) (w:wD),(Instr.makeFunc fn first cap).run xD w=.ok (CF fn first cap) w:=fun _ _ _ _=>rfl
 obtain⟨p,c,rfl⟩:=Rd.b g;have a:FK w (w.alloc (wq #[J x] 9)):=(EP _ w).alloc (EO _) _;have h:(w.alloc (wq #[J x] 9)).cell? ⟨M,1,U⟩=Y (A p rules.length c):=(a.cell (p:=⟨M,1,U⟩) (dW hm)).trans hm;obtain⟨l,j⟩:=zz2 (BO d rules x _ F w.heap.size (w.alloc (wq #[J x] 9)) (Rd.X g hF a) (fun b m=>ET (hF b m) a.size) (cell_new1 w _ _)) a;clear g a hm
 go_enter Tryz.func35,Tryz.ntmps35
 go_wp2_with fail
 refine l.o.mono ?_;rintro e w1 ⟨rfl,f⟩;have i:=Hd (j.o.trans (f.mono j.o.size));clear f h;go_wp2_with fail
 go_ret;exact⟨V,i.o⟩
theorem uq:∀(l:List UInt8) (m n:Nat),m≤kR→fG m l=Y n→n≤kR
 | [],m,n,hm,h=>by
  simp only[fG]at h;injection h with h;omega
 | c::l,m,n,hm,h=>by
  unfold fG at h
  split at h
  ·rename_i a
   simp only[Ff,r7]at a;exact uq l _ n a.2 h
  ·cases h
theorem nL(l:List UInt8):((number l).getD 0:Nat)≤kR:=by
 unfold number
 split
 ·exact Fa _
 ·cases h:fG 0 l with
  | none=>exact Fa _
  | some n=>exact uq l 0 n (Fa _) h
def dr(t:ByteArray):ByteArray:=if dN t.data.toList then t.extract 1 t.size else t
theorem pf(t:ByteArray):(dr t).data.toList=strip t.data.toList:=by
 unfold dr
 split
 ·rename_i h
  rw[ByteArray.data_extract,Array.toList_extract]
  cases a:t.data.toList with
  | nil=>rw[a]at h;cases h
  | cons c r =>
   rw[a]at h;have d:c=45:=by
    unfold dN at h
    split at h
    ·rename_i heq;injection heq
    ·cases h
   subst d;have e:t.size=r.length+1:=by
    have b:t.data.toList.length=t.size:=Fq;rw[a]at b
    simpa using b.symm
   rw[e];simp[strip,List.extract]
 ·rename_i h
  unfold strip
  split
  ·rename_i r heq
   exfalso
   apply h;unfold dN;rw[heq];rfl
  ·rfl
theorem pm(t:ByteArray):(dr t).size≤t.size:=by
 unfold dr
 split
 ·rw[ByteArray.size_extract];omega
 ·omega
theorem rA(l:List UInt8):Lib.hasPrefix l [45]=dN l:=by
 unfold Lib.hasPrefix dN
 cases l with
 | nil=>rfl
 | cons c r =>
  by_cases h:c=45
  ·subst h;rfl
  ·have:(45==c)=false:=by simpa using fun e:(45:UInt8)=c=>h e.symm
   simp only[List.isPrefixOf,this,Bool.false_and]
   split
   ·rename_i heq;injection heq with heq;exact absurd heq h
   ·rfl
theorem qQ(s:ByteArray)(w:wD):xL xD 252 #[J s,J ⟨#[45]⟩] w fun e w'=>e=z8 (AJ (dN s.data.toList))∧w=w':=
 (Tryz.stringslite_HasPrefix s ⟨#[45]⟩ w).mono fun e w' ⟨a,b⟩=>⟨by rw[a,←rA],b.symm⟩
theorem vN(t:ByteArray)(w:wD):xL xD 216 #[J t,J ⟨#[45]⟩] w fun e w'=>e=z8 (CA #[J (dr t),AJ (dN t.data.toList)])∧w=w':=by
 have d:xL xD 253 #[J t,J ⟨#[45]⟩] w fun e w'=>e=z8 (CA #[J (dr t),AJ (dN t.data.toList)])∧w=w':=by
  have j:=Hd (qQ t w);have b:Hid (dr t=if dN t.data.toList then t.extract 1 t.size else t):=rfl;have k:dN t.data.toList=wP→1≤t.size:=fun h=>by
   have g:t.data.toList.length=t.size:=Fq
   cases i:t.data.toList with
   | nil=>rw[i]at h;cases h
   | cons c r=>rw[i]at g;simp at g;omega
  go_enter Tryz.func253,Tryz.ntmps253
  go_wp2_with fail
  refine j.o.mono ?_;rintro e w' ⟨rfl,rfl⟩
  cases a:dN t.data.toList with
  | true =>
   rw[a]at b;have d:=k a;have l:∀W,(Instr.slice 9 (J t) (Y (I Z 1)) U U).run xD W=.ok (J (dr t)) W:=fun W=>by
    rw[b.o];simp only[sx];exact run_slice_string_l W 9 t Tryz.underlying9 Z 1 (by omega) (by omega)
   go_wp2_with fail
   go_ret2
   exact⟨by rw[a];rfl,V⟩
  | false =>
   rw[a]at b;have f:dr t=t:=b.o;go_wp2_with fail
   go_ret2
   exact⟨by rw[f,a];rfl,V⟩
 have H1:=Hd d;clear d
 go_enter Tryz.func216,Tryz.ntmps216
 go_wp2_with fail
 refine H1.o.mono ?_;rintro e w' ⟨rfl,rfl⟩;go_wp2_with fail
 go_ret2
 exact⟨V,V⟩
theorem rT(W:wD)(e:Ending→wD→Prop)(T:Nat)(a b c:wF)(f:W.heap[T]?=Y (wq #[a,b,c] 58 (0,0)))
  (tmps:Array wF) (g:tmps.getD 2 At=xV (Y ⟨T,0,U⟩)) (h:e (z8 (xS #[a,b,c])) W):bodyPost xD Tryz.f141 e .ret ⟨tmps,[]⟩ W:=by
 obtain⟨i,j,c2,_⟩:=cells3 f;have d:tmps[2]?.getD At=xV (Y ⟨T,0,U⟩):=by simpa using g
 refine bodyPost_ret (v:=xS #[a,b,c]) ?_ V h;simp[results,Tryz.results141,go_sem,d,i,j,c2]
theorem rQ(T:ab)(s:wF)(w:wD)(h:T.b=14∨T.b=15)(p:T.f.size≤72007) :
  xL xD 141 #[xS #[I O T.b,J T.f,I Z T.h,I Z T.y,s]] w fun e w'=>e=z8 (xS (nK (aF T)).toArray)∧FK w w':=by
 obtain⟨k,t,nm,pl,y⟩:=T;have p:t.size≤72007:=p;have h:k=14∨k=15:=h
 show xL xD 141 #[xS #[I O k,J t,I Z nm,I Z pl,s]] w _
 rcases h with rfl|rfl
 ·have a:FK w ((w.alloc (wq #[I O 14,J t,I Z nm,I Z pl,s] 25)).alloc (wq #[I O 0,I Z 0,J ⟨#[]⟩] 58)):=((EP _ w).alloc (EO _) _).alloc (by simp) _;obtain⟨_,b,_⟩:=ap w (wq #[I O 14,J t,I Z nm,I Z pl,s] 25) (wq #[I O 0,I Z 0,J ⟨#[]⟩] 58);obtain⟨f,g,q,r⟩:=zz4 a b (mm (dr t) ((w.alloc (wq #[I O 14,J t,I Z nm,I Z pl,s] 25)).alloc (wq #[I O 0,I Z 0,J ⟨#[]⟩] 58)) (by have:=pm t;omega)) (vN t ((w.alloc (wq #[I O 14,J t,I Z nm,I Z pl,s] 25)).alloc (wq #[I O 0,I Z 0,J ⟨#[]⟩] 58)));have hle:=nL (dr t).data.toList;have u:Hid (ja t=if dN t.data.toList then -(((number (dr t).data.toList).getD 0:Nat):Int) else (((number (dr t).data.toList).getD 0:Nat):Int)):=by
   show ja t=_
   unfold ja;rw[pf]
  clear a b
  go_enter Tryz.func141,Tryz.ntmps141
  go_wp2_with fail
  refine r.o.mono ?_;rintro e w' ⟨rfl,rfl⟩;go_wp2_with fail
  refine q.o.mono ?_;rintro e w1 ⟨rfl,c⟩;have i:=Hd (f.o.trans (c.mono f.o.size));have j:=aa c g.o (EN.1 g.o).1;obtain⟨D,E,c2,f0,f1,f2⟩:=cells3 j;have l:=Hd j;clear c j q r;generalize (number (dr t).data.toList).getD 0=n at *;have F:(n:Int)≤9223372036854775807:=by unfold kR at hle;omega
  have B:(0:Int)≤n:=by omega
  have fin:∀(z:Int),ja t=z→∀(tmps:Array wF),tmps.getD 2 At=xV (Y ⟨w.heap.size+1,0,U⟩)→bodyPost xD Tryz.f141 (fun e w'=>e=z8 (xS (nK (aF (.mk 14 t nm pl y))).toArray)∧FK w w') .ret ⟨tmps,[]⟩ (((w1.setCell ⟨w.heap.size+1,0,U⟩ (I O 1)).setCell ⟨w.heap.size+1,1,U⟩ (I Z z)).setCell ⟨w.heap.size+1,2,U⟩ (J ⟨#[]⟩)):=fun z d tmps C=>by
   refine rT _ _ (w.heap.size+1) (I O 1) (I Z z) (J ⟨#[]⟩) ?_ tmps C ⟨?_,((i.o.setCell (by simp) _).setCell (by simp) _).setCell (by simp) _⟩
   ·rw[heap_set (heap_set (heap_set l.o 0 _) 1 _) 2 _];rfl
   ·rw[←d];rfl
  have v:=Hd fin;clear fin
  cases x:dN t.data.toList with
  | true =>
   have d:ja t=-(n:Int):=by rw[u.o,x];rfl
   have m:=Hd d;clear d hle;go_wp2_with fail
   exact v.o _ m.o _ V
  | false =>
   have d:ja t=(n:Int):=by rw[u.o,x];rfl
   have m:=Hd d;clear d hle;go_wp2_with fail
   exact v.o _ m.o _ V
 ·have a:FK w ((w.alloc (wq #[I O 15,J t,I Z nm,I Z pl,s] 25)).alloc (wq #[I O 2,I Z 0,J t] 58)):=((EP _ w).alloc (EO _) _).alloc (by simp) _;obtain⟨_,b,_⟩:=ap w (wq #[I O 15,J t,I Z nm,I Z pl,s] 25) (wq #[I O 2,I Z 0,J t] 58);obtain⟨f,g⟩:=zz2 a b;clear a b
  go_enter Tryz.func141,Tryz.ntmps141
  go_wp2_with fail
  exact rT _ _ (w.heap.size+1) _ _ _ g.o _ V ⟨V,f.o⟩
def oH{α:Type} (r:Except Flt α) (val:α→wF) (w:wD) (e:Ending) (w':wD):Prop:=FK w w'∧match r with
 | .ok x=>e=z8 (val x)
 | .error er=>e=aU er.1 er.2
theorem lD:Elem 104 173 2 16:=Elem.of (z:=xS #[AJ xj,I Z 0]) Tryz.underlying173 (by kernel_rfl) V (by decide) (by decide)
theorem bC{a W W':wD}(h:∃x:Wb a,W=x.1)(b:FK W W'):∃x:Wb a,W'=x.1:=by
 obtain⟨x,rfl⟩:=h;exact⟨⟨W',x.2.trans (b.mono x.2.size)⟩,V⟩
theorem jg(x:ByteArray):∀(l:List ByteArray) (m k:Nat),gb x l m=Y k→m≤k∧k<m+l.length
 | [],m,k,h=>by cases h
 | y::l,m,k,h=>by
  unfold gb at h
  split at h
  ·injection h with h;subst h;simp
  ·have:=jg x l (m+1) k h;simp only[Fv];omega
theorem oY{x:ByteArray}{l:List ae}{k:Nat}(h:a8 x l=Y k):k<l.length:=by
 have:=(jg x (l.map ae.a) 0 k h).2
 simpa using this
def lZ(k:Nat):Value:=I Z (k:Int)
theorem zY(types:List ae)(T:ab)(p:Option Addr)(c:Nat)(vT:wF)(F:Nat→Prop)(M:Nat)(w:wD)(hv:bV.K w F types vT)(hF:∀b,F b→b<w.heap.size)(hm:w.cell? ⟨M,0,U⟩=Y vT)(_hl:T.u.length≤100000) :
  xL xD 74 #[xV (Y ⟨M,0,U⟩),xS #[I O T.b,J T.f,I Z T.h,I Z T.y,A p T.u.length c]] w (oH (bI types T) lZ w):=by
 obtain⟨pT,cT,rfl⟩:=Rd.b hv;have ak:=Rd.tT hv;obtain⟨n,hn⟩:=zzy (T.u.length);have N:Hid (bI types T=match a8 T.f types with|none=>BT (211,T.y)|some k=>if ((types[k]?).map ae.b).getD 0==(n:Int) then AF k else BT (212,T.y)):=by show _=_;rw[←hn];rfl
 rw[hn];obtain⟨w1,z⟩:=zzx (w.alloc (wq #[I O T.b,J T.f,I Z T.h,I Z T.y,A p n c] 25));have d:FK w w1:=by rw[z];exact (EP _ w).alloc (EO _) _
 have HX:Hid (w1.heap[w.heap.size]?=Y (wq #[I O T.b,J T.f,I Z T.h,I Z T.y,A p n c] 25 (0,0))):=by show _=_;rw[z];exact p9 w _
 have hM:=dW hm;have HV:=Hd (fun W (P:FK w1 W)=>Rd.X hv hF (d.trans (P.mono d.size)));have HM:=Hd (fun W (P:FK w1 W)=>((d.trans (P.mono d.size)).cell (p:=⟨M,0,U⟩) hM).trans hm);have HF:=Hd (fun W (P:FK w1 W) b (hf:F b)=>ET (hF b hf) (EU d.size P.size));have f:=Hd d;clear hn d hv hF hm
 go_enter Tryz.func74,Tryz.ntmps74
 go_upto_region 1 with fail
 change Code.wp _ _ _ _ (w.alloc (wq #[I O T.b,J T.f,I Z T.h,I Z T.y,A p n c] 25));rw[←z];clear z;obtain⟨x0,x1,x2,x3,x4⟩:=cells5 HX.o;have X1:=fun x:Wb w1=>x.b x1
 have HK:=Hd (fun x:Wb w1=>pQ types T.f _ F M x.1 (HV.o _ x.2) (HF.o _ x.2) (HM.o _ x.2));refine au (by kernel_rfl) (by kernel_rfl) ?_
 repeat (go_big_quiet_step ((go_at_call 34;exact Calls.b (HK.o _))))
 refine Bk ?_;intro W2 Q;have G:=a7 Q;have B:=Hd G;have H:=aa G HX.o (EN.1 HX.o).1;have R:=Hd H;obtain⟨a0,a1,a2,a3,a4⟩:=cells5 H;clear Q G H X1 HK x0 x1 x2 x3 x4
 cases q:a8 T.f types with
 | none =>
  rw[q]at N;clear q;have j:FK W2 (W2.alloc (wq (fE [(wP,211)]).toArray 104)):=(EP _ W2).alloc (EO _) _;obtain⟨r,C⟩:=zz2 (f.o.trans ((B.o.trans (j.mono B.o.size)).mono f.o.size)) (bY [(wP,211)] T.b T.f T.h T.y (A p n c) W2.heap.size 1 1 (W2.alloc (wq (fE [(wP,211)]).toArray 104)) V (by omega) (p9 W2 _));clear j;go_wp2_with fail
  refine C.o.mono ?_;rintro e a ⟨s,he⟩;have he:e=aU 211 T.y:=he;subst he;refine⟨V,r.o.trans (s.mono r.o.size),?_⟩;rw[N.o];rfl
 | some k =>
  rw[q]at N;have al:=oY q;obtain⟨t,K⟩:∃t,types[k]?=Y t:=⟨_,ES al⟩;have S:Hid (bI types T=if t.b==(n:Int) then AF k else BT (212,T.y)):=by show _=_;rw[N.o];dsimp only;rw[K];rfl
  rw[show bP (Y k)=(k:Int) from rfl];have ba:¬((k:Int)<0):=by omega
  have bb:(0:Int)≤k:=by omega
  have bc:(k:Int)<types.length:=by omega
  have bd:(types.length:Int)≤9223372036854775807:=by unfold maxLen at ak;omega
  clear q N;obtain⟨wn,D⟩:=zzx (W2.alloc (wq (fE [(xj,211)]).toArray 104));have j:FK W2 wn:=by rw[D];exact (EP _ W2).alloc (EO _) _
  obtain⟨r,X,C⟩:=zz3 (B.o.trans (j.mono B.o.size)) (aa j R.o (EN.1 R.o).1) (bY [(xj,211)] T.b T.f T.h T.y (A p n c) W2.heap.size 1 1 (W2.alloc (wq (fE [(xj,211)]).toArray 104)) V (by omega) (p9 W2 _));rw[←D]at C;clear j;go_wp2_with fail
  change xL xD 39 #[_,_] (W2.alloc (wq (fE [(xj,211)]).toArray 104)) _;rw[←D];clear D;refine C.o.mono ?_;rintro e a ⟨s,he⟩;have he:e=z8 (CA #[]):=he;subst he;have l:=Hd (r.o.trans (s.mono r.o.size));have ad:=aa s X.o (EN.1 X.o).1;have aq:=Hd ad;clear s a0 a1 a2 a3 a4 ad C;obtain⟨a0,a1,a2,a3,a4⟩:=cells5 aq.o;obtain⟨b,off,cap,vs,ar,_,_,_,_,af,u⟩:=Rd.tS (HV.o a l.o) K;obtain⟨rfl,_,_⟩:=gp.1 af;injection ar with e1 _ e3
  subst e1;subst e3;have c1:a.cell? ⟨b,off+k*2+1,U⟩=Y (I Z t.b):=u 1 _ V;have m0:=HM.o a l.o;have A0:=fun x:Wb a=>x.b a0
  have A1:=fun x:Wb a=>x.b a1
  have A2:=fun x:Wb a=>x.b a2
  have A3:=fun x:Wb a=>x.b a3
  have A4:=fun x:Wb a=>x.b a4
  have B1:=fun x:Wb a=>x.b c1
  have M0:=fun x:Wb a=>x.b m0
  clear af u K
  cases hq:(t.b==(n:Int)) with
  | true =>
   have av:(t.b != (n:Int))=false:=by simp only[bne,hq];rfl
   have HQ:=Hd hq;go_wp2_with fail
   refine RE.u (by kernel_rfl) 17 [16] [] (fun _ W=>∃x:Wb a,W=x.1) (fun W W'=>FK W W') (fun i ys=>ys.getD 0 At) (fun i W ys=>if i=16 then One 104 a.heap.size (fE [(xj,212)]) W (ys.getD 0 At) else True) (by kernel_rfl) (fun _ _ _ _ _ _ h m=>bC h m) (fun i W W' ys h _ m=>by split at h;(rw[rv (by assumption)];exact h.z m);rw[qv (by assumption)];trivial) ⟨⟨a.drew,(EP _ _).drew⟩,V⟩ ?_;simp only[EY,Fi,EZ,Fh]
   repeat (refine RE.b (fun W=>∃x:Wb a,W=x.1) (fun _ _ _ h=>h) V V V ⟨⟨a.drew,(EP _ _).drew⟩,V⟩ ?_;go_big_quiet_step (fail);refine Bk ?_)
   refine RE.f V V ?_ (fun ys=>?_)
   ·intro W hC _ L;obtain⟨s9,_,x,rfl⟩:=hC;exact cB lD (vs:=fE [(xj,212)]) _ V V V x.2.size (fun v W' m ho=>⟨[v],V,m,m,ho⟩)
   simp only[Act.put,EQ,EW,EV];refine RE.h ?_;intro W hS L;obtain⟨x,rfl⟩:=hS;obtain⟨g,eg,lg,hg⟩:One 104 a.heap.size (fE [(xj,212)]) x.1 (ys.getD 0 At):=L 16 ys V;rw[eg];obtain⟨C,y⟩:=zz2 (bY [(xj,212)] T.b T.f T.h T.y (A p n c) g 1 1 x.1 V (by omega) hg) (f.o.trans ((l.o.trans (x.2.mono l.o.size)).mono f.o.size));clear L eg lg hg A0 A1 A2 A3 A4 B1 M0;go_wp2_with fail
   refine C.o.mono ?_;rintro e w5 ⟨E,he⟩;have he:e=z8 (CA #[]):=he;subst he;have a6:=Hd (y.o.trans (E.mono y.o.size));clear E;go_wp2_with fail
   go_ret;refine⟨a6.o,?_⟩;rw[S.o,HQ.o];rfl
  | false =>
   have av:(t.b != (n:Int))=true:=by simp only[bne,hq];rfl
   have HQ:=Hd hq;go_wp2_with fail
   refine RE.u (by kernel_rfl) 17 [16] [] (fun _ W=>∃x:Wb a,W=x.1) (fun W W'=>FK W W') (fun i ys=>ys.getD 0 At) (fun i W ys=>if i=16 then One 104 a.heap.size (fE [(wP,212)]) W (ys.getD 0 At) else True) (by kernel_rfl) (fun _ _ _ _ _ _ h m=>bC h m) (fun i W W' ys h _ m=>by split at h;(rw[rv (by assumption)];exact h.z m);rw[qv (by assumption)];trivial) ⟨⟨a.drew,(EP _ _).drew⟩,V⟩ ?_;simp only[EY,Fi,EZ,Fh]
   repeat (refine RE.b (fun W=>∃x:Wb a,W=x.1) (fun _ _ _ h=>h) V V V ⟨⟨a.drew,(EP _ _).drew⟩,V⟩ ?_;go_big_quiet_step (fail);refine Bk ?_)
   refine RE.f V V ?_ (fun ys=>?_)
   ·intro W hC _ L;obtain⟨s9,_,x,rfl⟩:=hC;exact cB lD (vs:=fE [(wP,212)]) _ V V V x.2.size (fun v W' m ho=>⟨[v],V,m,m,ho⟩)
   simp only[Act.put,EQ,EW,EV];refine RE.h ?_;intro W hS L;obtain⟨x,rfl⟩:=hS;obtain⟨g,eg,lg,hg⟩:One 104 a.heap.size (fE [(wP,212)]) x.1 (ys.getD 0 At):=L 16 ys V;rw[eg];obtain⟨C,y⟩:=zz2 (bY [(wP,212)] T.b T.f T.h T.y (A p n c) g 1 1 x.1 V (by omega) hg) (f.o.trans ((l.o.trans (x.2.mono l.o.size)).mono f.o.size));clear L eg lg hg A0 A1 A2 A3 A4 B1 M0;go_wp2_with fail
   refine C.o.mono ?_;rintro e w5 ⟨E,he⟩;have he:e=aU 212 T.y:=he;subst he;refine⟨V,y.o.trans (E.mono y.o.size),?_⟩;rw[S.o,HQ.o];rfl
theorem bg{w:wD}{F:Nat→Prop}{d:Nat}{a:List aw}{s:wF}(h:cZ w F d a s):∃p c,s=A p a.length c:=by
 cases d with
 | zero=>obtain⟨rfl,p,c,rfl⟩:=h;exact⟨p,c,V⟩
 | succ d=>exact Rd.b h
theorem dP(d:Nat):(bf d).n=10:=by cases d<;>rfl
theorem iO(d:Nat):(bA d).n=4:=rfl
theorem BE(d:Nat):(bX d).n=5:=rfl
def DR(w:wD) (n:Nat) (cs:List aW) (f i:wF) (W:wD):Prop:=∃k:Nat,k≤n∧i=I Z (k:Int)∧f=I Z ((bE (cs.take k):Nat):Int)∧FK w W
theorem vy(l:List aW)(k:Nat)(c:aW)(h:l[k]?=Y c):bE (l.take (k+1))=bE (l.take k)+(if c.b==1 then 1 else 0):=by
 unfold bE;rw[Fz,h,List.filter_append,Fc]
 congr 1
 show (List.filter _ [c]).length=_
 by_cases a:(c.b==1)=wP
 ·rw[rv a];simp[List.filter,a]
 ·rw[qv a];simp only[Bool.not_eq_true]at a;simp[List.filter,a]
theorem zb(d:Nat)(conds:List aW)(vC:wF)(F:Nat→Prop)(M:Nat)(w:wD)(C:(bf d).K w F conds vC)(hF:∀b,F b→b<w.heap.size)(hm:w.cell? ⟨M,6,U⟩=Y vC)(j:conds.length≤10000) :
  xL xD 78 #[xV (Y ⟨M,0,U⟩)] w (fun e w'=>e=z8 (I Z (bE conds:Int))∧FK w w'):=by
 obtain⟨p,c,rfl⟩:=Rd.b C;obtain⟨n,D⟩:=zzy (conds.length);have K:=Hd (fun W (X:FK w W)=>Rd.X C hF X);rw[D]at K hm j;have L:=Hd D;have ad:(n:Int)≤10000:=by omega
 clear C D
 go_enter Tryz.func78,Tryz.ntmps78
 go_wp2
 go_loopw [3,12] (DR w n conds) (fun _ i _=>n-(intOf i).toNat)
 case atStart=>exact⟨0,Fa _,V,V,EP _ _⟩
 case round =>
  obtain⟨k,hk,rfl,rfl,B⟩:=hrel;have af:(0:Int)≤k:=by omega
  have E:=Hd B
  by_cases G:k<n
  ·have ak:(k:Int)<n:=by omega
   obtain⟨x,H⟩:∃x,conds[k]?=Y x:=⟨_,ES (by rw[L.o];exact G)⟩;obtain⟨b,off,cap,vs,he,_,_,_,_,l,a⟩:=Rd.tS (K.o wr B) H;injection he with e1 _ e3
   subst e1;subst e3;have a:∀(m:Nat) (u:wF),vs[m]?=Y u→wr.cell? ⟨b,off+k*10+m,U⟩=Y u:=fun m u h=>by rw[←dP d];exact a m u h
   obtain⟨_,_,_,sa,s,rfl,q,r⟩:=fw.1 l;obtain⟨N,P,rfl⟩:=Rd.b q;obtain⟨Q,R,rfl⟩:=bg r;have c0:wr.cell? ⟨b,off+k*10,U⟩=Y (I O x.b):=a 0 _ V;have c1:wr.cell? ⟨b,off+k*10+1,U⟩=Y (I Z x.f):=a 1 _ V;have c2:wr.cell? ⟨b,off+k*10+2,U⟩=Y (A N x.N.length P):=a 2 _ V;have c3:wr.cell? ⟨b,off+k*10+3,U⟩=Y (I O x.a.b):=a 3 _ V;have c4:wr.cell? ⟨b,off+k*10+4,U⟩=Y (I O x.a.f.b):=a 4 _ V;have c5:wr.cell? ⟨b,off+k*10+5,U⟩=Y (I Z x.a.f.h):=a 5 _ V;have c6:wr.cell? ⟨b,off+k*10+6,U⟩=Y (J x.a.f.f):=a 6 _ V;have c7:wr.cell? ⟨b,off+k*10+7,U⟩=Y (I Z x.a.h):=a 7 _ V;have c8:wr.cell? ⟨b,off+k*10+8,U⟩=Y (I O x.a.op):=a 8 _ V;have c9:wr.cell? ⟨b,off+k*10+9,U⟩=Y (A Q x.a.u.length R):=a 9 _ V;have t:=Hd (vy conds k x H);have al:bE (conds.take k)≤10000:=by
    have h1:bE (conds.take k)≤(conds.take k).length:=List.length_filter_le _ _;have h2:=List.length_take_le k conds;omega
   have S:((bE (conds.take k):Nat):Int)≤10000:=by omega
   have T:(0:Int)≤((bE (conds.take k):Nat):Int):=by omega
   have v:FK wr (wr.alloc (wq #[I O x.b,I Z x.f,A N x.N.length P,I O x.a.b,I O x.a.f.b,I Z x.a.f.h,J x.a.f.f,I Z x.a.h,I O x.a.op,A Q x.a.u.length R] 64)):=(EP _ wr).alloc (EO _) _;have f:=Hd (E.o.trans (v.mono E.o.size));clear l a q r H B v
   cases g:(x.b==1) with
   | true =>
    have y:Hid (bE (conds.take (k+1))=bE (conds.take k)+1):=by show _=_;rw[t.o,g];rfl
    have z:x.b=1:=by simpa using g
    rw[z]at f;clear g;go_wp2_with fail
    exact⟨⟨k+1,by omega,by go_num,by rw[y.o];go_num,f.o⟩,by simp[intOf];omega⟩
   | false =>
    have y:Hid (bE (conds.take (k+1))=bE (conds.take k)):=by show _=_;rw[t.o,g];rfl
    have z:¬x.b=1:=by simpa using g
    clear g;go_wp2_with fail
    exact⟨⟨k+1,by omega,by go_num,by rw[y.o],f.o⟩,by simp[intOf];omega⟩
  ·have y:Hid (bE (conds.take k)=bE conds):=by show _=_;rw[Fg (by rw[L.o];omega)]
   clear B;go_wp2_with fail
   go_ret;exact⟨by rw[←y.o];rfl,E.o⟩
