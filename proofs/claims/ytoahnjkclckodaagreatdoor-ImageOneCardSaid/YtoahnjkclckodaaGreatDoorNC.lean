/- Parts of one proof, joined; conditions stand in each theorem. -/
import Derived.Test.YtoahnjkclckodaaGreatDoorNA
import Derived.Test.YtoahnjkclckodaaGreatDoorNB
import Derived.Test.YtoahnjkclckodaaGreatDoorMD
open Option renaming none→Y,some→A
open Go.Value renaming bool→xv,int→I,agg→xk,tuple→y9,string→tS,slice→O,pointer→vv,func→z7
open Go.IntKind renaming i64→U,u8→tF
open Bool renaming false→va,true→ur
open Go renaming World→J,Value→tT,Calls→wg,undef→wF,wpQuiet_nil→xL
open Go.Ending renaming returned→wj
open Go.Obj renaming cells→r9
open Go.Proofs.Tryz renaming prog→vo
open Except renaming error→z6,ok→xt
namespace Go.Proofs.YtoahnjkclckodaaGreatDoor
set_option maxHeartbeats 2000000
set_option maxRecDepth 100000
open Go.RowKit
def ip:List (Bool×Int)→Option Int
 | []=>Y
 | (b,e)::l=>if b then A e else ip l
def fk(l:List (Bool×Int)):List Value:=(l.map fun x=>[xv x.1,I U x.2]).flatten
theorem xN:∀(l:List (Bool×Int)) (k:Nat) (x:Bool×Int),l[k]?=A x→(fk l)[k*2]?=A (xv x.1)∧(fk l)[k*2+1]?=A (I U x.2)
 | [],k,x,h=>by simp at h
 | y::l,0,x,h=>by
  simp only[List.getElem?_cons_zero,o7]at h;subst h;exact⟨Z,Z⟩
 | y::l,k+1,x,h=>by
  rw[Gg]at h;have:=xN l k x h;have e:fk (y::l)=xv y.1::I U y.2::fk l:=rfl;rw[e,show (k+1)*2=k*2+1+1 by omega]
  simpa using this
theorem kl(l:List (Bool×Int)):∀k,(∀j x,j<k→l[j]?=A x→x.1=va)→ip l=ip (l.drop k)
 | 0,_=>rfl
 | k+1,h=>by
  rw[kl l k (fun j x i d=>h j x (by omega) d)]
  cases a:l.drop k with
  | nil =>
   have:l.drop (k+1)=[]:=by rw[←List.drop_drop,a];rfl
   rw[this]
  | cons y r =>
   have f:l.drop (k+1)=r:=by rw[←List.drop_drop,a];rfl
   have g:l[k]?=A y:=by
    have:=o8 (·[0]?) a
    simpa using this
   have c:=h k y (by omega) g;rw[f];obtain⟨b,e⟩:=y;have c:b=false:=c
   show (if b then A e else ip r)=ip r
   rw[c];rfl
def aJ(er place:Int):Ending:=.panicked [{ v:=.iface 109 (xk #[I U er,I U place]),recovered:=va }]
def Dt(l:List (Bool×Int)) (place:Int) (w:J) (e:Ending) (w':J):Prop:=Gl w w'∧match ip l with
 | none=>e=wj (y9 #[])
 | some er=>e=aJ er place
def EL(w:J) (n:Nat) (l:List (Bool×Int)) (cs:Array tT) (i:tT) (W:J):Prop:=∃k:Nat,k≤n∧i=I U (k:Int)∧Gl w W∧W.heap[w.heap.size]?=A (r9 cs 145 (0,0))∧(∀j x,j<k→l[j]?=A x→x.1=va)
theorem bO(l:List (Bool×Int))(k:Nat)(t:ByteArray)(nm pl:Int)(s:tT)(g n c:Nat)(w:J)(H:l.length=n)(R:n≤100)(E:w.heap[g]?=A (r9 (fk l).toArray 238 (0,0))) :
  wg vo 124 #[xk #[I tF k,tS t,I U nm,I U pl,s],O (A ⟨g,0,Y⟩) n c] w (Dt l pl w):=by
 have F:g<w.heap.size:=(Fx.1 E).1;obtain⟨S,K⟩:=zz2 E H;have q:Gl w (w.alloc (r9 #[I tF k,tS t,I U nm,I U pl,s] 145)):=(Fz _ w).alloc (Fy _) _;have L:Hid ((w.alloc (r9 #[I tF k,tS t,I U nm,I U pl,s] 145)).heap[w.heap.size]?=A (r9 #[I tF k,tS t,I U nm,I U pl,s] 145 (0,0))):=oA w _;have M:=Hd q;clear E H q
 go_enter Tryz.func124,Tryz.ntmps124
 go_wp2
 go_loopw [8] (EL w n l #[I tF k,tS t,I U nm,I U pl,s]) (fun i _=>n-(intOf i).toNat)
 case atStart=>exact⟨0,FR _,Z,M.o,L.o,fun j x N=>by omega⟩
 case round =>
  clear M L;obtain⟨i,hi,rfl,P,a,u⟩:=hrel;have T:(0:Int)≤i:=by omega
  obtain⟨d,v,e⟩:=zz3 P a u;clear P a u
  by_cases G:i<n
  ·have V:(i:Int)<n:=by omega
   obtain⟨x,f⟩:∃x,l[i]?=A x:=⟨_,FD (by rw[K.o];exact G)⟩;obtain⟨b,er⟩:=x;have m:=aa d.o S.o F;obtain⟨a0,a1⟩:=xN l i (b,er) f;have c0:wr.cell? ⟨g,i*2,Y⟩=A (xv b):=by rw[Gk _ _ _ _ _ _ m];simpa using a0
   have c1:wr.cell? ⟨g,i*2+1,Y⟩=A (I U er):=by rw[Gk _ _ _ _ _ _ m];simpa using a1
   have z:=Hd f;have p:Gl wr (wr.alloc (r9 #[xv b,I U er] 238)):=(Fz _ wr).alloc (Fy _) _;obtain⟨B,C⟩:=zz2 (d.o.trans (p.mono d.o.size)) (aa p v.o (Fx.1 v.o).1);have d3:(wr.alloc (r9 #[xv b,I U er] 238)).cell? ⟨w.heap.size,3,Y⟩=A (I U pl):=by rw[Gk _ _ _ _ _ _ C.o];rfl
   clear m a0 a1 f p
   cases b with
   | true =>
    have W:Hid (ip l=A er):=by
     show _=_
     rw[kl l i e.o];obtain⟨r,X⟩:∃r,l.drop i=(ur,er)::r:=by
      have:=z.o
      cases Q:l.drop i with
      | nil =>
       have D:=o8 (·[0]?) Q;simp[this]at D
      | cons y r =>
       have D:=o8 (·[0]?) Q;simp[this]at D;exact⟨r,by rw[D]⟩
     rw[X];rfl
    go_wp2
    refine⟨Z,B.o,?_⟩;rw[W.o];rfl
   | false =>
    go_wp2
    exact⟨⟨i+1,by omega,by go_num,B.o,C.o,fun j x N a=>by
     by_cases h:j=i
     ·subst h;rw[z.o]at a;injection a with a
      rw[←a]
     ·exact e.o j x (by omega) a⟩,by simp[intOf];omega⟩
  ·go_wp2
   go_returns
   refine⟨d.o,?_⟩;have hF:ip l=none:=by
    rw[kl l n (fun j x N a=>e.o j x (by omega) a),List.drop_of_length_le (by rw[K.o];exact Fy _)];rfl
   rw[hF]
theorem uV(x:ByteArray):∀(l:List ByteArray) (m k:Nat) (y:ByteArray),l[k]?=A y→(y.data.toList==x.data.toList)=ur→(∀(j:Nat) (z:ByteArray),j<k→l[j]?=A z→(z.data.toList==x.data.toList)=va)→jD x l m=A (m+k)
 | [],m,k,y,h,_,_=>by simp at h
 | z::l,m,0,y,h,he,_=>by
  simp only[List.getElem?_cons_zero,o7]at h;subst h;unfold jD;rw[oE he];rfl
 | z::l,m,k+1,y,h,he,a=>by
  rw[Gg]at h;have b:=a 0 z (by omega) Z;unfold jD;rw[b];simp only[F4,o1];rw[uV x l (m+1) k y h he (fun j c e d=>a (j+1) c (by omega) (by rw[Gg];exact d))]
  congr 1;omega
theorem sH(x:ByteArray):∀(l:List ByteArray) (m:Nat),(∀(j:Nat) (z:ByteArray),l[j]?=A z→(z.data.toList==x.data.toList)=va)→jD x l m=Y
 | [],m,_=>rfl
 | z::l,m,a=>by
  unfold jD;rw[a 0 z Z];simp only[F4,o1];exact sH x l (m+1) (fun j b c=>a (j+1) b (by rw[Gg];exact c))
def ek:Option Nat→Int
 | some k=>k
 | none=>-1
theorem idxOf_hit{x y:ByteArray}{l:List ByteArray}{k:Nat}(h:l[k]?=A y)(he:(y.data.toList==x.data.toList)=ur)(a:∀(j:Nat)(z:ByteArray),j<k→l[j]?=A z→(z.data.toList==x.data.toList)=va):ek (idxOf x l)=k:=by
 unfold idxOf;rw[uV x l 0 k y h he a,Nat.zero_add];rfl
theorem idxOf_miss{x:ByteArray}{l:List ByteArray}(a:∀(j:Nat)(z:ByteArray),l[j]?=A z→(z.data.toList==x.data.toList)=va):ek (idxOf x l)=-1:=by
 unfold idxOf;rw[sH x l 0 a];rfl
theorem fx{w:J}{T o:Nat}{v:tT}(h:w.cell? ⟨T,o,Y⟩=A v):T<w.heap.size:=by
 cases a:w.heap[T]? with
 | none=>unfold World.cell? at h;simp[a]at h
 | some o=>exact (Fx.1 a).1
theorem zX(a b:ByteArray)(n:Int)(T:Nat)(w:J)(d:w.cell? ⟨T,0,Y⟩=A (tS b)) :
  wg vo 151 #[xk #[tS a,I U n],vv (A ⟨T,0,Y⟩)] w fun e w'=>e=wj (xv (a.data.toList==b.data.toList))∧Gl w w':=by
 have f:=fx d;have c:Gl w (w.alloc (r9 #[tS a,I U n] 118)):=(Fz _ w).alloc (Fy _) _;have g:(w.alloc (r9 #[tS a,I U n] 118)).cell? ⟨T,0,Y⟩=A (tS b):=(c.cell (p:=⟨T,0,Y⟩) f).trans d;have h:=Hd c;clear c
 go_enter Tryz.func151,Tryz.ntmps151
 go_wp2
 go_ret;exact⟨by rw[FS,FS];rfl,h.o⟩
def xx(w:J) (n:Nat) (l:List ByteArray) (x:ByteArray) (i:tT) (W:J):Prop:=∃k:Nat,k≤n∧i=I U (k:Int)∧Gl w W∧(∀(j:Nat) (z:ByteArray),j<k→l[j]?=A z→(z.data.toList==x.data.toList)=va)
theorem Ck(types:List ay)(x:ByteArray)(v:tT)(F:Nat→Prop)(T:Nat)(w:J)(D:eD.h w F types v)(hF:∀b,F b→b<w.heap.size)(G:w.cell? ⟨T,0,Y⟩=A (tS x)) :
  wg vo 150 #[v,z7 (.func 151) #[] #[vv (A ⟨T,0,Y⟩)]] w (fun e w'=>e=wj (I U (ek (dM x types)))∧Gl w w'):=by
 obtain⟨p,c,rfl⟩:=Rd.q D;have d:=Rd.N D;obtain⟨n,H⟩:=zzy (types.length);have R:=Hd (fun W (K:Gl w W)=>Rd.sm D hF K);have L:=Hd (fun W (K:Gl w W)=>(K.cell (p:=⟨T,0,Y⟩) (fx G)).trans G);rw[H]at d R ⊢;have M:=Hd H;have S:(n:Int)≤9223372036854775807:=by unfold maxLen at d;omega
 clear D G H d
 go_enter Tryz.func150,Tryz.ntmps150
 go_wp2
 go_loopw [8] (xx w n (types.map ay.c) x) (fun i _=>n-(intOf i).toNat)
 case atStart=>exact⟨0,FR _,Z,Fz _ _,fun j z V=>by omega⟩
 case round =>
  obtain⟨k,hk,rfl,q,r⟩:=hrel;have X:(0:Int)≤k:=by omega
  obtain⟨N,l⟩:=zz2 q r;clear r
  by_cases P:k<n
  ·have ad:(k:Int)<n:=by omega
   obtain⟨t,m⟩:∃t,types[k]?=A t:=⟨_,FD (by rw[M.o];exact P)⟩;have f:=R.o wr q;have s:=Rd.K f m;rw[M.o]at s;obtain⟨b,off,cap,vs,he,_,_,_,_,u,a⟩:=s;injection he with e1 _ e3
   subst e1;subst e3;obtain⟨rfl,_,_⟩:=oO.1 u;have c0:wr.cell? ⟨b,off+k*2,Y⟩=A (tS t.c):=a 0 _ Z;have c1:wr.cell? ⟨b,off+k*2+1,Y⟩=A (I U t.a):=a 1 _ Z;have HK:=Hd (zX t.c x t.a T wr (L.o wr q));have y:Hid ((types.map ay.c)[k]?=A t.c):=by show _=_;rw[List.getElem?_map,m];rfl
   clear f u a m q;go_wp2_with fail
   refine HK.o.mono ?_;rintro e w1 ⟨rfl,B⟩;have C:=Hd (N.o.trans (B.mono N.o.size));clear B c0 c1
   cases E:(t.c.data.toList==x.data.toList) with
   | true =>
    have Q:=Hd (idxOf_hit y.o E l.o);clear E;go_wp2_with fail
    go_ret;exact⟨by rw[show dM x types=idxOf x (types.map ay.c) from rfl,Q.o];rfl,C.o⟩
   | false =>
    have HQ:=Hd E;clear E;go_wp2_with fail
    exact⟨⟨k+1,by omega,by go_num,C.o,fun j z V g=>by
     by_cases h:j=k
     ·subst h;rw[y.o]at g;injection g with g
      rw[←g];exact HQ.o
     ·exact l.o j z (by omega) g⟩,by simp[intOf];omega⟩
  ·have Q:Hid (ek (dM x types)=-1):=idxOf_miss (fun j z g=>l.o j z (by
    have:=(FU.1 g).1;rw[List.length_map,M.o]at this
    omega) g)
   clear q;go_wp2_with fail
   go_ret;exact⟨by rw[Q.o];rfl,N.o⟩
theorem zW(a b:ByteArray)(n m:Int)(c d:tT)(T:Nat)(w:J)(g:w.cell? ⟨T,0,Y⟩=A (tS b)) :
  wg vo 155 #[xk #[tS a,I U n,I U m,c,d],vv (A ⟨T,0,Y⟩)] w fun e w'=>e=wj (xv (a.data.toList==b.data.toList))∧Gl w w':=by
 have h:=fx g;have f:Gl w (w.alloc (r9 #[tS a,I U n,I U m,c,d] 159)):=(Fz _ w).alloc (Fy _) _;have i:(w.alloc (r9 #[tS a,I U n,I U m,c,d] 159)).cell? ⟨T,0,Y⟩=A (tS b):=(f.cell (p:=⟨T,0,Y⟩) h).trans g;have j:=Hd f;clear f
 go_enter Tryz.func155,Tryz.ntmps155
 go_wp2
 go_ret;exact⟨by rw[FS,FS];rfl,j.o⟩
theorem Cj(d:Nat)(types:List aK)(x:ByteArray)(v:tT)(F:Nat→Prop)(T:Nat)(w:J)(H:(fh d).h w F types v)(hF:∀b,F b→b<w.heap.size)(L:w.cell? ⟨T,0,Y⟩=A (tS x)) :
  wg vo 154 #[v,z7 (.func 155) #[] #[vv (A ⟨T,0,Y⟩)]] w (fun e w'=>e=wj (I U (ek (idxOf x (types.map aK.c))))∧Gl w w'):=by
 obtain⟨p,c,rfl⟩:=Rd.q H;have f:=Rd.N H;obtain⟨n,M⟩:=zzy (types.length);have X:=Hd (fun W (N:Gl w W)=>Rd.sm H hF N);have P:=Hd (fun W (N:Gl w W)=>(N.cell (p:=⟨T,0,Y⟩) (fx L)).trans L);rw[M]at f X ⊢;have Q:=Hd M;have ad:(n:Int)≤9223372036854775807:=by unfold maxLen at f;omega
 clear H L M f
 go_enter Tryz.func154,Tryz.ntmps154
 go_wp2
 go_loopw [8] (xx w n (types.map aK.c) x) (fun i _=>n-(intOf i).toNat)
 case atStart=>exact⟨0,FR _,Z,Fz _ _,fun j z hj=>by omega⟩
 case round =>
  obtain⟨k,hk,rfl,r,s⟩:=hrel;have af:(0:Int)≤k:=by omega
  obtain⟨R,m⟩:=zz2 r s;clear s
  by_cases S:k<n
  ·have aq:(k:Int)<n:=by omega
   obtain⟨t,q⟩:∃t,types[k]?=A t:=⟨_,FD (by rw[Q.o];exact S)⟩;have g:=X.o wr r;have u:=Rd.K g q;rw[Q.o]at u;obtain⟨b,off,cap,vs,he,_,_,_,_,y,a⟩:=u;injection he with e1 _ e3
   subst e1;subst e3;obtain⟨_,_,_,sc,sa,rfl,B,C⟩:=rX.1 y;obtain⟨pc,cc,rfl⟩:=Rd.q B;obtain⟨pa,ca,rfl⟩:=Rd.q C;have c0:wr.cell? ⟨b,off+k*5,Y⟩=A (tS t.c):=a 0 _ Z;have c1:wr.cell? ⟨b,off+k*5+1,Y⟩=A (I U t.sal):=a 1 _ Z;have c2:wr.cell? ⟨b,off+k*5+2,Y⟩=A (I U t.a):=a 2 _ Z;have c3:wr.cell? ⟨b,off+k*5+3,Y⟩=A (O pc t.b.length cc):=a 3 _ Z;have c4:wr.cell? ⟨b,off+k*5+4,Y⟩=A (O pa t.d.length ca):=a 4 _ Z;have HK:=Hd (zW t.c x t.sal t.a (O pc t.b.length cc) (O pa t.d.length ca) T wr (P.o wr r));clear B C;have D:Hid ((types.map aK.c)[k]?=A t.c):=by show _=_;rw[List.getElem?_map,q];rfl
   clear g y a q r;go_wp2_with fail
   refine HK.o.mono ?_;rintro e w1 ⟨rfl,E⟩;have G:=Hd (R.o.trans (E.mono R.o.size));clear E c0 c1 c2 c3 c4
   cases K:(t.c.data.toList==x.data.toList) with
   | true =>
    have V:=Hd (idxOf_hit D.o K m.o);clear K;go_wp2_with fail
    go_ret;exact⟨by rw[V.o];rfl,G.o⟩
   | false =>
    have HQ:=Hd K;clear K;go_wp2_with fail
    exact⟨⟨k+1,by omega,by go_num,G.o,fun j z hj l=>by
     by_cases h:j=k
     ·subst h;rw[D.o]at l;injection l with l
      rw[←l];exact HQ.o
     ·exact m.o j z (by omega) l⟩,by simp[intOf];omega⟩
  ·have V:Hid (ek (idxOf x (types.map aK.c))=-1):=idxOf_miss (fun j z l=>m.o j z (by
    have:=(FU.1 l).1;rw[List.length_map,Q.o]at this
    omega) l)
   clear r;go_wp2_with fail
   go_ret;exact⟨by rw[V.o];rfl,R.o⟩
theorem uD(types:List ay)(x:ByteArray)(vT:tT)(F:Nat→Prop)(M:Nat)(w:J)(f:eD.h w F types vT)(hF:∀b,F b→b<w.heap.size)(hm:w.cell? ⟨M,0,Y⟩=A vT) :
  wg vo 125 #[vv (A ⟨M,0,Y⟩),tS x] w (fun e w'=>e=wj (I U (ek (dM x types)))∧Gl w w'):=by
 have j:∀(fn:Fn) (first cap:Array tT) (w:J),(Instr.makeFunc fn first cap).run vo w=.ok (z7 fn first cap) w:=fun _ _ _ _=>rfl
 obtain⟨p,c,rfl⟩:=Rd.q f;have a:Gl w (w.alloc (r9 #[tS x] 9)):=(Fz _ w).alloc (Fy _) _;have g:(w.alloc (r9 #[tS x] 9)).cell? ⟨M,0,Y⟩=A (O p types.length c):=(a.cell (p:=⟨M,0,Y⟩) (fx hm)).trans hm;obtain⟨k,i⟩:=zz2 (Ck types x _ F w.heap.size (w.alloc (r9 #[tS x] 9)) (Rd.sm f hF a) (fun b l=>FG (hF b l) a.size) (cell_new1 w _ _)) a;clear f a hm
 go_enter Tryz.func125,Tryz.ntmps125
 go_wp2_with fail
 refine k.o.mono ?_;rintro e w1 ⟨rfl,d⟩;have h:=Hd (i.o.trans (d.mono i.o.size));clear d g;go_wp2_with fail
 go_ret;exact⟨Z,h.o⟩
theorem DD(d:Nat)(rules:List aK)(x:ByteArray)(vR:tT)(F:Nat→Prop)(M:Nat)(w:J)(g:(fh d).h w F rules vR)(hF:∀b,F b→b<w.heap.size)(hm:w.cell? ⟨M,1,Y⟩=A vR) :
  wg vo 129 #[vv (A ⟨M,0,Y⟩),tS x] w (fun e w'=>e=wj (I U (ek (idxOf x (rules.map aK.c))))∧Gl w w'):=by
 have k:∀(fn:Fn) (first cap:Array tT) (w:J),(Instr.makeFunc fn first cap).run vo w=.ok (z7 fn first cap) w:=fun _ _ _ _=>rfl
 obtain⟨p,c,rfl⟩:=Rd.q g;have a:Gl w (w.alloc (r9 #[tS x] 9)):=(Fz _ w).alloc (Fy _) _;have h:(w.alloc (r9 #[tS x] 9)).cell? ⟨M,1,Y⟩=A (O p rules.length c):=(a.cell (p:=⟨M,1,Y⟩) (fx hm)).trans hm;obtain⟨l,j⟩:=zz2 (Cj d rules x _ F w.heap.size (w.alloc (r9 #[tS x] 9)) (Rd.sm g hF a) (fun b m=>FG (hF b m) a.size) (cell_new1 w _ _)) a;clear g a hm
 go_enter Tryz.func129,Tryz.ntmps129
 go_wp2_with fail
 refine l.o.mono ?_;rintro e w1 ⟨rfl,f⟩;have i:=Hd (j.o.trans (f.mono j.o.size));clear f h;go_wp2_with fail
 go_ret;exact⟨Z,i.o⟩
theorem uL:∀(l:List UInt8) (m n:Nat),m≤mp→gh m l=A n→n≤mp
 | [],m,n,hm,h=>by
  simp only[gh]at h;injection h with h;omega
 | c::l,m,n,hm,h=>by
  unfold gh at h
  split at h
  ·rename_i a
   simp only[FV,oX]at a;exact uL l _ n a.2 h
  ·cases h
theorem sX(l:List UInt8):((number l).getD 0:Nat)≤mp:=by
 unfold number
 split
 ·exact FR _
 ·cases h:gh 0 l with
  | none=>exact FR _
  | some n=>exact uL l 0 n (FR _) h
def fJ(t:ByteArray):ByteArray:=if fe t.data.toList then t.extract 1 t.size else t
theorem wC(t:ByteArray):(fJ t).data.toList=strip t.data.toList:=by
 unfold fJ
 split
 ·rename_i h
  rw[ByteArray.data_extract,Array.toList_extract]
  cases a:t.data.toList with
  | nil=>rw[a]at h;cases h
  | cons c r =>
   rw[a]at h;have d:c=45:=by
    unfold fe at h
    split at h
    ·rename_i heq;injection heq
    ·cases h
   subst d;have e:t.size=r.length+1:=by
    have b:t.data.toList.length=t.size:=F6;rw[a]at b
    simpa using b.symm
   rw[e];simp[strip,List.extract]
 ·rename_i h
  unfold strip
  split
  ·rename_i r heq
   exfalso
   apply h;unfold fe;rw[heq];rfl
  ·rfl
theorem wL(t:ByteArray):(fJ t).size≤t.size:=by
 unfold fJ
 split
 ·rw[ByteArray.size_extract];omega
 ·omega
theorem rS(l:List UInt8):Lib.hasPrefix l [45]=fe l:=by
 unfold Lib.hasPrefix fe
 cases l with
 | nil=>rfl
 | cons c r =>
  by_cases h:c=45
  ·subst h;rfl
  ·have:(45==c)=false:=by simpa using fun e:(45:UInt8)=c=>h e.symm
   simp only[List.isPrefixOf,this,Bool.false_and]
   split
   ·rename_i heq;injection heq with heq;exact absurd heq h
   ·rfl
theorem rb(s:ByteArray)(w:J):wg vo 203 #[tS s,tS ⟨#[45]⟩] w fun e w'=>e=wj (xv (fe s.data.toList))∧w=w':=
 (Tryz.stringslite_HasPrefix s ⟨#[45]⟩ w).mono fun e w' ⟨a,b⟩=>⟨by rw[a,←rS],b.symm⟩
theorem v6(t:ByteArray)(w:J):wg vo 208 #[tS t,tS ⟨#[45]⟩] w fun e w'=>e=wj (y9 #[tS (fJ t),xv (fe t.data.toList)])∧w=w':=by
 have d:wg vo 220 #[tS t,tS ⟨#[45]⟩] w fun e w'=>e=wj (y9 #[tS (fJ t),xv (fe t.data.toList)])∧w=w':=by
  have j:=Hd (rb t w);have b:Hid (fJ t=if fe t.data.toList then t.extract 1 t.size else t):=rfl;have k:fe t.data.toList=ur→1≤t.size:=fun h=>by
   have g:t.data.toList.length=t.size:=F6
   cases i:t.data.toList with
   | nil=>rw[i]at h;cases h
   | cons c r=>rw[i]at g;simp at g;omega
  go_enter Tryz.func220,Tryz.ntmps220
  go_wp2_with fail
  refine j.o.mono ?_;rintro e w' ⟨rfl,rfl⟩
  cases a:fe t.data.toList with
  | true =>
   rw[a]at b;have d:=k a;have l:∀W,(Instr.slice 9 (tS t) (A (I U 1)) Y Y).run vo W=.ok (tS (fJ t)) W:=fun W=>by
    rw[b.o];simp only[o4];exact run_slice_string_l W 9 t Tryz.underlying9 U 1 (by omega) (by omega)
   go_wp2_with fail
   go_ret2
   exact⟨by rw[a];rfl,Z⟩
  | false =>
   rw[a]at b;have f:fJ t=t:=b.o;go_wp2_with fail
   go_ret2
   exact⟨by rw[f,a];rfl,Z⟩
 have H1:=Hd d;clear d
 go_enter Tryz.func208,Tryz.ntmps208
 go_wp2_with fail
 refine H1.o.mono ?_;rintro e w' ⟨rfl,rfl⟩;go_wp2_with fail
 go_ret2
 exact⟨Z,Z⟩
theorem sC(W:J)(e:Ending→J→Prop)(T:Nat)(a b c:tT)(f:W.heap[T]?=A (r9 #[a,b,c] 88 (0,0)))
  (tmps:Array tT) (g:tmps.getD 2 wF=vv (A ⟨T,0,Y⟩)) (h:e (wj (xk #[a,b,c])) W):bodyPost vo Tryz.f187 e .ret ⟨tmps,[]⟩ W:=by
 obtain⟨i,j,c2,_⟩:=cells3 f;have d:tmps[2]?.getD wF=vv (A ⟨T,0,Y⟩):=by simpa using g
 refine bodyPost_ret (v:=xk #[a,b,c]) ?_ Z h;simp[results,Tryz.results187,go_sem,d,i,j,c2]
theorem sx(T:ac)(s:tT)(w:J)(h:T.q=14∨T.q=15)(p:T.h.size≤72007) :
  wg vo 187 #[xk #[I tF T.q,tS T.h,I U T.u,I U T.t,s]] w fun e w'=>e=wj (xk (rU (bs T)).toArray)∧Gl w w':=by
 obtain⟨k,t,nm,pl,ks⟩:=T;have p:t.size≤72007:=p;have h:k=14∨k=15:=h
 show wg vo 187 #[xk #[I tF k,tS t,I U nm,I U pl,s]] w _
 rcases h with rfl|rfl
 ·have a:Gl w ((w.alloc (r9 #[I tF 14,tS t,I U nm,I U pl,s] 145)).alloc (r9 #[I tF 0,I U 0,tS ⟨#[]⟩] 88)):=((Fz _ w).alloc (Fy _) _).alloc (by simp) _;obtain⟨_,b,_⟩:=aW w (r9 #[I tF 14,tS t,I U nm,I U pl,s] 145) (r9 #[I tF 0,I U 0,tS ⟨#[]⟩] 88);obtain⟨f,g,q,r⟩:=zz4 a b (mH (fJ t) ((w.alloc (r9 #[I tF 14,tS t,I U nm,I U pl,s] 145)).alloc (r9 #[I tF 0,I U 0,tS ⟨#[]⟩] 88)) (by have:=wL t;omega)) (v6 t ((w.alloc (r9 #[I tF 14,tS t,I U nm,I U pl,s] 145)).alloc (r9 #[I tF 0,I U 0,tS ⟨#[]⟩] 88)));have hle:=sX (fJ t).data.toList;have u:Hid (mG t=if fe t.data.toList then -(((number (fJ t).data.toList).getD 0:Nat):Int) else (((number (fJ t).data.toList).getD 0:Nat):Int)):=by
   show mG t=_
   unfold mG;rw[wC]
  clear a b
  go_enter Tryz.func187,Tryz.ntmps187
  go_wp2_with fail
  refine r.o.mono ?_;rintro e w' ⟨rfl,rfl⟩;go_wp2_with fail
  refine q.o.mono ?_;rintro e w1 ⟨rfl,c⟩;have i:=Hd (f.o.trans (c.mono f.o.size));have j:=aa c g.o (Fx.1 g.o).1;obtain⟨C,D,c2,f0,f1,f2⟩:=cells3 j;have l:=Hd j;clear c j q r;generalize (number (fJ t).data.toList).getD 0=n at *;have E:(n:Int)≤9223372036854775807:=by unfold mp at hle;omega
  have y:(0:Int)≤n:=by omega
  have fin:∀(z:Int),mG t=z→∀(tmps:Array tT),tmps.getD 2 wF=vv (A ⟨w.heap.size+1,0,Y⟩)→bodyPost vo Tryz.f187 (fun e w'=>e=wj (xk (rU (bs (.mk 14 t nm pl ks))).toArray)∧Gl w w') .ret ⟨tmps,[]⟩ (((w1.setCell ⟨w.heap.size+1,0,Y⟩ (I tF 1)).setCell ⟨w.heap.size+1,1,Y⟩ (I U z)).setCell ⟨w.heap.size+1,2,Y⟩ (tS ⟨#[]⟩)):=fun z d tmps B=>by
   refine sC _ _ (w.heap.size+1) (I tF 1) (I U z) (tS ⟨#[]⟩) ?_ tmps B ⟨?_,((i.o.setCell (by simp) _).setCell (by simp) _).setCell (by simp) _⟩
   ·rw[heap_set (heap_set (heap_set l.o 0 _) 1 _) 2 _];rfl
   ·rw[←d];rfl
  have v:=Hd fin;clear fin
  cases x:fe t.data.toList with
  | true =>
   have d:mG t=-(n:Int):=by rw[u.o,x];rfl
   have m:=Hd d;clear d hle;go_wp2_with fail
   exact v.o _ m.o _ Z
  | false =>
   have d:mG t=(n:Int):=by rw[u.o,x];rfl
   have m:=Hd d;clear d hle;go_wp2_with fail
   exact v.o _ m.o _ Z
 ·have a:Gl w ((w.alloc (r9 #[I tF 15,tS t,I U nm,I U pl,s] 145)).alloc (r9 #[I tF 2,I U 0,tS t] 88)):=((Fz _ w).alloc (Fy _) _).alloc (by simp) _;obtain⟨_,b,_⟩:=aW w (r9 #[I tF 15,tS t,I U nm,I U pl,s] 145) (r9 #[I tF 2,I U 0,tS t] 88);obtain⟨f,g⟩:=zz2 a b;clear a b
  go_enter Tryz.func187,Tryz.ntmps187
  go_wp2_with fail
  exact sC _ _ (w.heap.size+1) _ _ _ g.o _ Z ⟨Z,f.o⟩
def oS{α:Type} (r:Except Flt α) (val:α→tT) (w:J) (e:Ending) (w':J):Prop:=Gl w w'∧match r with
 | .ok x=>e=wj (val x)
 | .error er=>e=aJ er.1 er.2
theorem lH:Elem 238 257 2 16:=Elem.of (z:=xk #[xv va,I U 0]) Tryz.underlying257 (by kernel_rfl) Z (by decide) (by decide)
theorem cY{a W W':J}(h:∃x:Wb a,W=x.1)(b:Gl W W'):∃x:Wb a,W'=x.1:=by
 obtain⟨x,rfl⟩:=h;exact⟨⟨W',x.2.trans (b.mono x.2.size)⟩,Z⟩
theorem mV(x:ByteArray):∀(l:List ByteArray) (m k:Nat),jD x l m=A k→m≤k∧k<m+l.length
 | [],m,k,h=>by cases h
 | y::l,m,k,h=>by
  unfold jD at h
  split at h
  ·injection h with h;subst h;simp
  ·have:=mV x l (m+1) k h;simp only[F9];omega
theorem pw{x:ByteArray}{l:List ay}{k:Nat}(h:dM x l=A k):k<l.length:=by
 have:=(mV x (l.map ay.c) 0 k h).2
 simpa using this
def mh(k:Nat):Value:=I U (k:Int)
theorem Av(types:List ay)(T:ac)(p:Option Addr)(c:Nat)(vT:tT)(F:Nat→Prop)(M:Nat)(w:J)(hv:eD.h w F types vT)(hF:∀b,F b→b<w.heap.size)(hm:w.cell? ⟨M,0,Y⟩=A vT)(_hl:T.z.length≤100000) :
  wg vo 156 #[vv (A ⟨M,0,Y⟩),xk #[I tF T.q,tS T.h,I U T.u,I U T.t,O p T.z.length c]] w (oS (cJ types T) mh w):=by
 obtain⟨pT,cT,rfl⟩:=Rd.q hv;have aq:=Rd.N hv;obtain⟨n,hn⟩:=zzy (T.z.length);have P:Hid (cJ types T=match dM T.h types with|none=>z6 (211,T.t)|some k=>if ((types[k]?).map ay.a).getD 0==(n:Int) then xt k else z6 (212,T.t)):=by show _=_;rw[←hn];rfl
 rw[hn];obtain⟨w1,B⟩:=zzx (w.alloc (r9 #[I tF T.q,tS T.h,I U T.u,I U T.t,O p n c] 145));have d:Gl w w1:=by rw[B];exact (Fz _ w).alloc (Fy _) _
 have HX:Hid (w1.heap[w.heap.size]?=A (r9 #[I tF T.q,tS T.h,I U T.u,I U T.t,O p n c] 145 (0,0))):=by show _=_;rw[B];exact oA w _
 have hM:=fx hm;have HV:=Hd (fun W (Q:Gl w1 W)=>Rd.sm hv hF (d.trans (Q.mono d.size)));have HM:=Hd (fun W (Q:Gl w1 W)=>((d.trans (Q.mono d.size)).cell (p:=⟨M,0,Y⟩) hM).trans hm);have HF:=Hd (fun W (Q:Gl w1 W) b (hf:F b)=>FG (hF b hf) (FH d.size Q.size));have j:=Hd d;clear hn d hv hF hm
 go_enter Tryz.func156,Tryz.ntmps156
 go_upto_region 1 with fail
 change Code.wp _ _ _ _ (w.alloc (r9 #[I tF T.q,tS T.h,I U T.u,I U T.t,O p n c] 145));rw[←B];clear B;obtain⟨x0,x1,x2,x3,x4⟩:=cells5 HX.o;have X1:=fun x:Wb w1=>x.h x1
 have HK:=Hd (fun x:Wb w1=>uD types T.h _ F M x.1 (HV.o _ x.2) (HF.o _ x.2) (HM.o _ x.2));refine al (by kernel_rfl) (by kernel_rfl) ?_
 repeat (go_big_quiet_step ((go_at_call 125;exact Calls.h (HK.o _))))
 refine xL ?_;intro W2 R;have H:=bw R;have C:=Hd H;have K:=aa H HX.o (Fx.1 HX.o).1;have S:=Hd K;obtain⟨a0,a1,a2,a3,a4⟩:=cells5 K;clear R H K X1 HK x0 x1 x2 x3 x4
 cases r:dM T.h types with
 | none =>
  rw[r]at P;clear r;have l:Gl W2 (W2.alloc (r9 (fk [(ur,211)]).toArray 238)):=(Fz _ W2).alloc (Fy _) _;obtain⟨s,D⟩:=zz2 (j.o.trans ((C.o.trans (l.mono C.o.size)).mono j.o.size)) (bO [(ur,211)] T.q T.h T.u T.t (O p n c) W2.heap.size 1 1 (W2.alloc (r9 (fk [(ur,211)]).toArray 238)) Z (by omega) (oA W2 _));clear l;go_wp2_with fail
  refine D.o.mono ?_;rintro e a ⟨u,he⟩;have he:e=aJ 211 T.t:=he;subst he;refine⟨Z,s.o.trans (u.mono s.o.size),?_⟩;rw[P.o];rfl
 | some k =>
  rw[r]at P;have ar:=pw r;obtain⟨t,L⟩:∃t,types[k]?=A t:=⟨_,FD ar⟩;have V:Hid (cJ types T=if t.a==(n:Int) then xt k else z6 (212,T.t)):=by show _=_;rw[P.o];dsimp only;rw[L];rfl
  rw[show ek (A k)=(k:Int) from rfl];have bk:¬((k:Int)<0):=by omega
  have bl:(0:Int)≤k:=by omega
  have bm:(k:Int)<types.length:=by omega
  have bn:(types.length:Int)≤9223372036854775807:=by unfold maxLen at aq;omega
  clear r P;obtain⟨wn,E⟩:=zzx (W2.alloc (r9 (fk [(va,211)]).toArray 238));have l:Gl W2 wn:=by rw[E];exact (Fz _ W2).alloc (Fy _) _
  obtain⟨s,X,D⟩:=zz3 (C.o.trans (l.mono C.o.size)) (aa l S.o (Fx.1 S.o).1) (bO [(va,211)] T.q T.h T.u T.t (O p n c) W2.heap.size 1 1 (W2.alloc (r9 (fk [(va,211)]).toArray 238)) Z (by omega) (oA W2 _));rw[←E]at D;clear l;go_wp2_with fail
  change wg vo 124 #[_,_] (W2.alloc (r9 (fk [(va,211)]).toArray 238)) _;rw[←E];clear E;refine D.o.mono ?_;rintro e a ⟨u,he⟩;have he:e=wj (y9 #[]):=he;subst he;have m:=Hd (s.o.trans (u.mono s.o.size));have ad:=aa u X.o (Fx.1 X.o).1;have a6:=Hd ad;clear u a0 a1 a2 a3 a4 ad D;obtain⟨a0,a1,a2,a3,a4⟩:=cells5 a6.o;obtain⟨b,off,cap,vs,ba,_,_,_,_,af,y⟩:=Rd.K (HV.o a m.o) L;obtain⟨rfl,_,_⟩:=oO.1 af;injection ba with e1 _ e3
  subst e1;subst e3;have c1:a.cell? ⟨b,off+k*2+1,Y⟩=A (I U t.a):=y 1 _ Z;have m0:=HM.o a m.o;have A0:=fun x:Wb a=>x.h a0
  have A1:=fun x:Wb a=>x.h a1
  have A2:=fun x:Wb a=>x.h a2
  have A3:=fun x:Wb a=>x.h a3
  have A4:=fun x:Wb a=>x.h a4
  have B1:=fun x:Wb a=>x.h c1
  have M0:=fun x:Wb a=>x.h m0
  clear af y L
  cases hq:(t.a==(n:Int)) with
  | true =>
   have bb:(t.a != (n:Int))=false:=by simp only[bne,hq];rfl
   have HQ:=Hd hq;go_wp2_with fail
   refine RE.u (by kernel_rfl) 17 [16] [] (fun _ W=>∃x:Wb a,W=x.1) (fun W W'=>Gl W W') (fun i f=>f.getD 0 wF) (fun i W f=>if i=16 then One 238 a.heap.size (fk [(va,212)]) W (f.getD 0 wF) else True) (by kernel_rfl) (fun _ _ _ _ _ _ h q=>cY h q) (fun i W W' f h _ q=>by split at h;(rw[oE (by assumption)];exact h.C q);rw[oB (by assumption)];trivial) ⟨⟨a.drew,(Fz _ _).drew⟩,Z⟩ ?_;simp only[FO,FY,FQ,FX]
   repeat (refine RE.q (fun W=>∃x:Wb a,W=x.1) (fun _ _ _ h=>h) Z Z Z ⟨⟨a.drew,(Fz _ _).drew⟩,Z⟩ ?_;go_big_quiet_step (fail);refine xL ?_)
   refine RE.h Z Z ?_ (fun f=>?_)
   ·intro W hC _ N;obtain⟨s9,_,x,rfl⟩:=hC;exact dU lH (vs:=fk [(va,212)]) _ Z Z Z x.2.size (fun v W' q ho=>⟨[v],Z,q,q,ho⟩)
   simp only[Act.put,FA,FM,FK];refine RE.t ?_;intro W hS N;obtain⟨x,rfl⟩:=hS;obtain⟨g,eg,lg,hg⟩:One 238 a.heap.size (fk [(va,212)]) x.1 (f.getD 0 wF):=N 16 f Z;rw[eg];obtain⟨D,z⟩:=zz2 (bO [(va,212)] T.q T.h T.u T.t (O p n c) g 1 1 x.1 Z (by omega) hg) (j.o.trans ((m.o.trans (x.2.mono m.o.size)).mono j.o.size));clear N eg lg hg A0 A1 A2 A3 A4 B1 M0;go_wp2_with fail
   refine D.o.mono ?_;rintro e w5 ⟨G,he⟩;have he:e=wj (y9 #[]):=he;subst he;have bd:=Hd (z.o.trans (G.mono z.o.size));clear G;go_wp2_with fail
   go_ret;refine⟨bd.o,?_⟩;rw[V.o,HQ.o];rfl
  | false =>
   have bb:(t.a != (n:Int))=true:=by simp only[bne,hq];rfl
   have HQ:=Hd hq;go_wp2_with fail
   refine RE.u (by kernel_rfl) 17 [16] [] (fun _ W=>∃x:Wb a,W=x.1) (fun W W'=>Gl W W') (fun i f=>f.getD 0 wF) (fun i W f=>if i=16 then One 238 a.heap.size (fk [(ur,212)]) W (f.getD 0 wF) else True) (by kernel_rfl) (fun _ _ _ _ _ _ h q=>cY h q) (fun i W W' f h _ q=>by split at h;(rw[oE (by assumption)];exact h.C q);rw[oB (by assumption)];trivial) ⟨⟨a.drew,(Fz _ _).drew⟩,Z⟩ ?_;simp only[FO,FY,FQ,FX]
   repeat (refine RE.q (fun W=>∃x:Wb a,W=x.1) (fun _ _ _ h=>h) Z Z Z ⟨⟨a.drew,(Fz _ _).drew⟩,Z⟩ ?_;go_big_quiet_step (fail);refine xL ?_)
   refine RE.h Z Z ?_ (fun f=>?_)
   ·intro W hC _ N;obtain⟨s9,_,x,rfl⟩:=hC;exact dU lH (vs:=fk [(ur,212)]) _ Z Z Z x.2.size (fun v W' q ho=>⟨[v],Z,q,q,ho⟩)
   simp only[Act.put,FA,FM,FK];refine RE.t ?_;intro W hS N;obtain⟨x,rfl⟩:=hS;obtain⟨g,eg,lg,hg⟩:One 238 a.heap.size (fk [(ur,212)]) x.1 (f.getD 0 wF):=N 16 f Z;rw[eg];obtain⟨D,z⟩:=zz2 (bO [(ur,212)] T.q T.h T.u T.t (O p n c) g 1 1 x.1 Z (by omega) hg) (j.o.trans ((m.o.trans (x.2.mono m.o.size)).mono j.o.size));clear N eg lg hg A0 A1 A2 A3 A4 B1 M0;go_wp2_with fail
   refine D.o.mono ?_;rintro e w5 ⟨G,he⟩;have he:e=aJ 212 T.t:=he;subst he;refine⟨Z,z.o.trans (G.mono z.o.size),?_⟩;rw[V.o,HQ.o];rfl
theorem fM{w:J}{F:Nat→Prop}{d:Nat}{ks:List a8}{s:tT}(h:fu w F d ks s):∃p c,s=O p ks.length c:=by
 cases d with
 | zero=>obtain⟨rfl,p,c,rfl⟩:=h;exact⟨p,c,Z⟩
 | succ d=>exact Rd.q h
theorem lh(d:Nat):(gu d).n=10:=by cases d<;>rfl
def Ef(w:J) (n:Nat) (cs:List br) (f i:tT) (W:J):Prop:=∃k:Nat,k≤n∧i=I U (k:Int)∧f=I U ((bD (cs.take k):Nat):Int)∧Gl w W
theorem vN(l:List br)(k:Nat)(c:br)(h:l[k]?=A c):bD (l.take (k+1))=bD (l.take k)+(if c.q==1 then 1 else 0):=by
 unfold bD;rw[Gd,h,List.filter_append,FT]
 congr 1
 show (List.filter _ [c]).length=_
 by_cases a:(c.q==1)=ur
 ·rw[oE a];simp[List.filter,a]
 ·rw[oB a];simp only[Bool.not_eq_true]at a;simp[List.filter,a]
theorem zI(d:Nat)(conds:List br)(vC:tT)(F:Nat→Prop)(M:Nat)(w:J)(C:(gu d).h w F conds vC)(hF:∀b,F b→b<w.heap.size)(hm:w.cell? ⟨M,6,Y⟩=A vC)(j:conds.length≤10000) :
  wg vo 160 #[vv (A ⟨M,0,Y⟩)] w (fun e w'=>e=wj (I U (bD conds:Int))∧Gl w w'):=by
 obtain⟨p,c,rfl⟩:=Rd.q C;obtain⟨n,D⟩:=zzy (conds.length);have K:=Hd (fun W (V:Gl w W)=>Rd.sm C hF V);rw[D]at K hm j;have L:=Hd D;have X:(n:Int)≤10000:=by omega
 clear C D
 go_enter Tryz.func160,Tryz.ntmps160
 go_wp2
 go_loopw [3,12] (Ef w n conds) (fun _ i _=>n-(intOf i).toNat)
 case atStart=>exact⟨0,FR _,Z,Z,Fz _ _⟩
 case round =>
  obtain⟨k,hk,rfl,rfl,B⟩:=hrel;have ad:(0:Int)≤k:=by omega
  have E:=Hd B
  by_cases G:k<n
  ·have af:(k:Int)<n:=by omega
   obtain⟨x,H⟩:∃x,conds[k]?=A x:=⟨_,FD (by rw[L.o];exact G)⟩;obtain⟨b,off,cap,vs,he,_,_,_,_,l,a⟩:=Rd.K (K.o wr B) H;injection he with e1 _ e3
   subst e1;subst e3;have a:∀(m:Nat) (u:tT),vs[m]?=A u→wr.cell? ⟨b,off+k*10+m,Y⟩=A u:=fun m u h=>by rw[←lh d];exact a m u h
   obtain⟨_,_,_,sa,s,rfl,q,r⟩:=pd.1 l;obtain⟨N,P,rfl⟩:=Rd.q q;obtain⟨Q,R,rfl⟩:=fM r;have c0:wr.cell? ⟨b,off+k*10,Y⟩=A (I tF x.q):=a 0 _ Z;have c1:wr.cell? ⟨b,off+k*10+1,Y⟩=A (I U x.u):=a 1 _ Z;have c2:wr.cell? ⟨b,off+k*10+2,Y⟩=A (O N x.a.length P):=a 2 _ Z;have c3:wr.cell? ⟨b,off+k*10+3,Y⟩=A (I tF x.b.q):=a 3 _ Z;have c4:wr.cell? ⟨b,off+k*10+4,Y⟩=A (I tF x.b.h.q):=a 4 _ Z;have c5:wr.cell? ⟨b,off+k*10+5,Y⟩=A (I U x.b.h.u):=a 5 _ Z;have c6:wr.cell? ⟨b,off+k*10+6,Y⟩=A (tS x.b.h.h):=a 6 _ Z;have c7:wr.cell? ⟨b,off+k*10+7,Y⟩=A (I U x.b.t):=a 7 _ Z;have c8:wr.cell? ⟨b,off+k*10+8,Y⟩=A (I tF x.b.op):=a 8 _ Z;have c9:wr.cell? ⟨b,off+k*10+9,Y⟩=A (O Q x.b.z.length R):=a 9 _ Z;have t:=Hd (vN conds k x H);have aq:bD (conds.take k)≤10000:=by
    have h1:bD (conds.take k)≤(conds.take k).length:=List.length_filter_le _ _;have h2:=List.length_take_le k conds;omega
   have S:((bD (conds.take k):Nat):Int)≤10000:=by omega
   have T:(0:Int)≤((bD (conds.take k):Nat):Int):=by omega
   have v:Gl wr (wr.alloc (r9 #[I tF x.q,I U x.u,O N x.a.length P,I tF x.b.q,I tF x.b.h.q,I U x.b.h.u,tS x.b.h.h,I U x.b.t,I tF x.b.op,O Q x.b.z.length R] 168)):=(Fz _ wr).alloc (Fy _) _;have f:=Hd (E.o.trans (v.mono E.o.size));clear l a q r H B v
   cases g:(x.q==1) with
   | true =>
    have y:Hid (bD (conds.take (k+1))=bD (conds.take k)+1):=by show _=_;rw[t.o,g];rfl
    have z:x.q=1:=by simpa using g
    rw[z]at f;clear g;go_wp2_with fail
    exact⟨⟨k+1,by omega,by go_num,by rw[y.o];go_num,f.o⟩,by simp[intOf];omega⟩
   | false =>
    have y:Hid (bD (conds.take (k+1))=bD (conds.take k)):=by show _=_;rw[t.o,g];rfl
    have z:¬x.q=1:=by simpa using g
    clear g;go_wp2_with fail
    exact⟨⟨k+1,by omega,by go_num,by rw[y.o],f.o⟩,by simp[intOf];omega⟩
  ·have y:Hid (bD (conds.take k)=bD conds):=by show _=_;rw[FW (by rw[L.o];omega)]
   clear B;go_wp2_with fail
   go_ret;exact⟨by rw[←y.o];rfl,E.o⟩
