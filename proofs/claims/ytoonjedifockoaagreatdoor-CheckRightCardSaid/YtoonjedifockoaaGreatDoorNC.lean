/- Parts of one proof, joined; conditions stand in each theorem. -/
import Derived.Test.YtoonjedifockoaaGreatDoorNA
import Derived.Test.YtoonjedifockoaaGreatDoorNB
import Derived.Test.YtoonjedifockoaaGreatDoorMD
namespace Go.Proofs.YtoonjedifockoaaGreatDoor
open Go.IntKind(i64)
open Go.Value(int string slice)
set_option maxHeartbeats 2000000
set_option maxRecDepth 100000
open Go.RowKit
def gB:List (Bool×Int)→Option Int
 | []=>none
 | (b,e)::l=>if b then some e else gB l
def eR(l:List (Bool×Int)):List Value:=(l.map fun x=>[Value.bool x.1,int i64 x.2]).flatten
theorem xf:∀(l:List (Bool×Int)) (k:Nat) (x:Bool×Int),l[k]?=some x→(eR l)[k*2]?=some (.bool x.1)∧(eR l)[k*2+1]?=some (int i64 x.2)
 | [],k,x,h=>by simp at h
 | y::l,0,x,h=>by
  simp only[List.getElem?_cons_zero,ox]at h;subst h;exact⟨rfl,rfl⟩
 | y::l,k+1,x,h=>by
  rw[Fj]at h;have:=xf l k x h;have e:eR (y::l)=Value.bool y.1::int i64 y.2::eR l:=rfl;rw[e,show (k+1)*2=k*2+1+1 by omega]
  simpa using this
theorem jH(l:List (Bool×Int)):∀k,(∀j x,j<k→l[j]?=some x→x.1=false)→gB l=gB (l.drop k)
 | 0,_=>rfl
 | k+1,h=>by
  rw[jH l k (fun j x i d=>h j x (by omega) d)]
  cases a:l.drop k with
  | nil =>
   have:l.drop (k+1)=[]:=by rw[←List.drop_drop,a];rfl
   rw[this]
  | cons y r =>
   have f:l.drop (k+1)=r:=by rw[←List.drop_drop,a];rfl
   have g:l[k]?=some y:=by
    have:=oT (·[0]?) a
    simpa using this
   have c:=h k y (by omega) g;rw[f];obtain⟨b,e⟩:=y;have c:b=false:=c
   show (if b then some e else gB r)=gB r
   rw[c];rfl
def aJ(er place:Int):Ending:=.panicked [{ v:=.iface 32 (.agg #[int i64 er,int i64 place]),recovered:=false }]
def Cz(l:List (Bool×Int)) (place:Int) (w:World) (e:Ending) (w':World):Prop:=Ft w w'∧match gB l with
 | none=>e=.returned (.tuple #[])
 | some er=>e=aJ er place
def Eb(w:World) (n:Nat) (l:List (Bool×Int)) (cs:Array Value) (i:Value) (W:World):Prop:=∃k:Nat,k≤n∧i=int i64 (k:Int)∧Ft w W∧W.heap[w.heap.size]?=some (.cells cs 76 (0,0))∧(∀j x,j<k→l[j]?=some x→x.1=false)
theorem bV(l:List (Bool×Int))(k:Nat)(t:ByteArray)(nm pl:Int)(s:Value)(g n c:Nat)(w:World)(G:l.length=n)(N:n≤100)(D:w.heap[g]?=some (.cells (eR l).toArray 149 (0,0))) :
  Calls Tryz.prog 78 #[.agg #[int .u8 k,.string t,int i64 nm,int i64 pl,s],slice (some ⟨g,0,none⟩) n c] w (Cz l pl w):=by
 have E:g<w.heap.size:=(Ez.1 D).1;have O:=Hd D;have H:=Hd G;have q:Ft w (w.alloc (.cells #[int .u8 k,.string t,int i64 nm,int i64 pl,s] 76)):=(EB _ w).alloc (EA _) _;have I:Hid ((w.alloc (.cells #[int .u8 k,.string t,int i64 nm,int i64 pl,s] 76)).heap[w.heap.size]?=some (.cells #[int .u8 k,.string t,int i64 nm,int i64 pl,s] 76 (0,0))):=n7 w _;have J:=Hd q;clear D G q
 go_enter Tryz.func78,Tryz.ntmps78
 go_wp2
 go_loopw [8] (Eb w n l #[int .u8 k,.string t,int i64 nm,int i64 pl,s]) (fun i _=>n-(intOf i).toNat)
 case atStart=>exact⟨0,EM _,rfl,J.o,I.o,fun j x K=>by omega⟩
 case round =>
  clear J I;obtain⟨i,T,rfl,L,a,u⟩:=hrel;have P:(0:Int)≤i:=by omega
  have d:=Hd L;have v:=Hd a;have e:=Hd u;clear L a u
  by_cases F:i<n
  ·have Q:(i:Int)<n:=by omega
   obtain⟨x,f⟩:∃x,l[i]?=some x:=⟨_,EE (by rw[H.o];exact F)⟩;obtain⟨b,er⟩:=x;have m:=aa d.o O.o E;obtain⟨a0,a1⟩:=xf l i (b,er) f;have U:wr.cell? ⟨g,i*2,none⟩=some (.bool b):=by rw[Fq _ _ _ _ _ _ m];simpa using a0
   have V:wr.cell? ⟨g,i*2+1,none⟩=some (int i64 er):=by rw[Fq _ _ _ _ _ _ m];simpa using a1
   have z:=Hd f;have p:Ft wr (wr.alloc (.cells #[.bool b,int i64 er] 149)):=(EB _ wr).alloc (EA _) _;have A:=Hd (d.o.trans (p.mono d.o.size));have B:=Hd (aa p v.o (Ez.1 v.o).1);have d3:(wr.alloc (.cells #[.bool b,int i64 er] 149)).cell? ⟨w.heap.size,3,none⟩=some (int i64 pl):=by rw[Fq _ _ _ _ _ _ B.o];rfl
   clear m a0 a1 f p
   cases b with
   | true =>
    have R:Hid (gB l=some er):=by
     show _=_
     rw[jH l i e.o];obtain⟨r,S⟩:∃r,l.drop i=(true,er)::r:=by
      have:=z.o
      cases M:l.drop i with
      | nil =>
       have C:=oT (·[0]?) M;simp[this]at C
      | cons y r =>
       have C:=oT (·[0]?) M;simp[this]at C;exact⟨r,by rw[C]⟩
     rw[S];rfl
    go_wp2
    refine⟨rfl,A.o,?_⟩;rw[R.o];rfl
   | false =>
    go_wp2
    exact⟨⟨i+1,by omega,by go_num,A.o,B.o,fun j x K a=>by
     by_cases h:j=i
     ·subst h;rw[z.o]at a;injection a with a
      rw[←a]
     ·exact e.o j x (by omega) a⟩,by simp[intOf];omega⟩
  ·go_wp2
   go_returns
   refine⟨d.o,?_⟩;have hF:gB l=none:=by
    rw[jH l n (fun j x K a=>e.o j x (by omega) a),List.drop_of_length_le (by rw[H.o];exact EA _)];rfl
   rw[hF]
theorem um(x:ByteArray):∀(l:List ByteArray) (m k:Nat) (y:ByteArray),l[k]?=some y→(y.data.toList==x.data.toList)=true→(∀(j:Nat) (z:ByteArray),j<k→l[j]?=some z→(z.data.toList==x.data.toList)=false)→fi x l m=some (m+k)
 | [],m,k,y,h,_,_=>by simp at h
 | z::l,m,0,y,h,he,_=>by
  simp only[List.getElem?_cons_zero,ox]at h;subst h;unfold fi;rw[n9 he];rfl
 | z::l,m,k+1,y,h,he,a=>by
  rw[Fj]at h;have b:=a 0 z (by omega) rfl;unfold fi;rw[b];simp only[EW,oi];rw[um x l (m+1) k y h he (fun j c e d=>a (j+1) c (by omega) (by rw[Fj];exact d))]
  congr 1;omega
theorem rq(x:ByteArray):∀(l:List ByteArray) (m:Nat),(∀(j:Nat) (z:ByteArray),l[j]?=some z→(z.data.toList==x.data.toList)=false)→fi x l m=none
 | [],m,_=>rfl
 | z::l,m,a=>by
  unfold fi;rw[a 0 z rfl];simp only[EW,oi];exact rq x l (m+1) (fun j b c=>a (j+1) b (by rw[Fj];exact c))
def dR:Option Nat→Int
 | some k=>k
 | none=>-1
theorem idxOf_hit{x y:ByteArray}{l:List ByteArray}{k:Nat}(h:l[k]?=some y)(he:(y.data.toList==x.data.toList)=true)(a:∀(j:Nat)(z:ByteArray),j<k→l[j]?=some z→(z.data.toList==x.data.toList)=false):dR (idxOf x l)=k:=by
 unfold idxOf;rw[um x l 0 k y h he a,Nat.zero_add];rfl
theorem idxOf_miss{x:ByteArray}{l:List ByteArray}(a:∀(j:Nat)(z:ByteArray),l[j]?=some z→(z.data.toList==x.data.toList)=false):dR (idxOf x l)=-1:=by
 unfold idxOf;rw[rq x l 0 a];rfl
theorem dG{w:World}{T o:Nat}{v:Value}(h:w.cell? ⟨T,o,none⟩=some v):T<w.heap.size:=by
 cases a:w.heap[T]? with
 | none=>unfold World.cell? at h;simp[a]at h
 | some o=>exact (Ez.1 a).1
theorem zu(a b:ByteArray)(n:Int)(T:Nat)(w:World)(d:w.cell? ⟨T,0,none⟩=some (.string b)) :
  Calls Tryz.prog 30 #[.agg #[.string a,int i64 n],.pointer (some ⟨T,0,none⟩)] w fun e w'=>e=.returned (.bool (a.data.toList==b.data.toList))∧Ft w w':=by
 have f:=dG d;have c:Ft w (w.alloc (.cells #[.string a,int i64 n] 40)):=(EB _ w).alloc (EA _) _;have g:(w.alloc (.cells #[.string a,int i64 n] 40)).cell? ⟨T,0,none⟩=some (.string b):=(c.cell (p:=⟨T,0,none⟩) f).trans d;have h:=Hd c;clear c
 go_enter Tryz.func30,Tryz.ntmps30
 go_wp2
 go_ret;exact⟨by rw[EN,EN];rfl,h.o⟩
def wQ(w:World) (n:Nat) (l:List ByteArray) (x:ByteArray) (i:Value) (W:World):Prop:=∃k:Nat,k≤n∧i=int i64 (k:Int)∧Ft w W∧(∀(j:Nat) (z:ByteArray),j<k→l[j]?=some z→(z.data.toList==x.data.toList)=false)
theorem BF(types:List ai)(x:ByteArray)(v:Value)(F:Nat→Prop)(T:Nat)(w:World)(C:bo.row w F types v)(hF:∀b,F b→b<w.heap.size)(E:w.cell? ⟨T,0,none⟩=some (.string x)) :
  Calls Tryz.prog 29 #[v,.func (.func 30) #[] #[.pointer (some ⟨T,0,none⟩)]] w (fun e w'=>e=.returned (int i64 (dR (dn x types)))∧Ft w w'):=by
 obtain⟨p,c,rfl⟩:=Rd.row_shape C;have d:=Rd.row_len C;obtain⟨n,G⟩:=zzy (types.length);have N:=Hd (fun W (H:Ft w W)=>Rd.row_below C hF H);have I:=Hd (fun W (H:Ft w W)=>(H.cell (p:=⟨T,0,none⟩) (dG E)).trans E);rw[G]at d N ⊢;have J:=Hd G;have O:(n:Int)≤9223372036854775807:=by unfold maxLen at d;omega
 clear C E G d
 go_enter Tryz.func29,Tryz.ntmps29
 go_wp2
 go_loopw [8] (wQ w n (types.map ai.name) x) (fun i _=>n-(intOf i).toNat)
 case atStart=>exact⟨0,EM _,rfl,EB _ _,fun j z P=>by omega⟩
 case round =>
  obtain⟨k,hk,rfl,q,r⟩:=hrel;have Q:(0:Int)≤k:=by omega
  have K:=Hd q;have l:=Hd r;clear r
  by_cases L:k<n
  ·have R:(k:Int)<n:=by omega
   obtain⟨t,m⟩:∃t,types[k]?=some t:=⟨_,EE (by rw[J.o];exact L)⟩;have f:=N.o wr q;have s:=Rd.row_at f m;rw[J.o]at s;obtain⟨b,off,cap,vs,he,_,_,_,_,u,a⟩:=s;injection he with S _ U
   subst S;subst U;obtain⟨rfl,_,_⟩:=dN.1 u;have V:wr.cell? ⟨b,off+k*2,none⟩=some (.string t.name):=a 0 _ rfl;have X:wr.cell? ⟨b,off+k*2+1,none⟩=some (int i64 t.fields):=a 1 _ rfl;have Y:=Hd (zu t.name x t.fields T wr (I.o wr q));have y:Hid ((types.map ai.name)[k]?=some t.name):=by show _=_;rw[List.getElem?_map,m];rfl
   clear f u a m q;go_wp2_with fail
   refine Y.o.mono ?_;rintro e w1 ⟨rfl,A⟩;have B:=Hd (K.o.trans (A.mono K.o.size));clear A V X
   cases D:(t.name.data.toList==x.data.toList) with
   | true =>
    have M:=Hd (idxOf_hit y.o D l.o);clear D;go_wp2_with fail
    go_ret;exact⟨by rw[show dn x types=idxOf x (types.map ai.name) from rfl,M.o];rfl,B.o⟩
   | false =>
    have Z:=Hd D;clear D;go_wp2_with fail
    exact⟨⟨k+1,by omega,by go_num,B.o,fun j z P g=>by
     by_cases h:j=k
     ·subst h;rw[y.o]at g;injection g with g
      rw[←g];exact Z.o
     ·exact l.o j z (by omega) g⟩,by simp[intOf];omega⟩
  ·have M:Hid (dR (dn x types)=-1):=idxOf_miss (fun j z g=>l.o j z (by
    have:=(EP.1 g).1;rw[List.length_map,J.o]at this
    omega) g)
   clear q;go_wp2_with fail
   go_ret;exact⟨by rw[M.o];rfl,K.o⟩
theorem zr(a b:ByteArray)(n m:Int)(c d:Value)(T:Nat)(w:World)(g:w.cell? ⟨T,0,none⟩=some (.string b)) :
  Calls Tryz.prog 32 #[.agg #[.string a,int i64 n,int i64 m,c,d],.pointer (some ⟨T,0,none⟩)] w fun e w'=>e=.returned (.bool (a.data.toList==b.data.toList))∧Ft w w':=by
 have h:=dG g;have f:Ft w (w.alloc (.cells #[.string a,int i64 n,int i64 m,c,d] 38)):=(EB _ w).alloc (EA _) _;have i:(w.alloc (.cells #[.string a,int i64 n,int i64 m,c,d] 38)).cell? ⟨T,0,none⟩=some (.string b):=(f.cell (p:=⟨T,0,none⟩) h).trans g;have j:=Hd f;clear f
 go_enter Tryz.func32,Tryz.ntmps32
 go_wp2
 go_ret;exact⟨by rw[EN,EN];rfl,j.o⟩
theorem BE(d:Nat)(types:List aj)(x:ByteArray)(v:Value)(F:Nat→Prop)(T:Nat)(w:World)(G:(bh d).row w F types v)(hF:∀b,F b→b<w.heap.size)(I:w.cell? ⟨T,0,none⟩=some (.string x)) :
  Calls Tryz.prog 31 #[v,.func (.func 32) #[] #[.pointer (some ⟨T,0,none⟩)]] w (fun e w'=>e=.returned (int i64 (dR (idxOf x (types.map aj.name))))∧Ft w w'):=by
 obtain⟨p,c,rfl⟩:=Rd.row_shape G;have f:=Rd.row_len G;obtain⟨n,J⟩:=zzy (types.length);have Q:=Hd (fun W (K:Ft w W)=>Rd.row_below G hF K);have L:=Hd (fun W (K:Ft w W)=>(K.cell (p:=⟨T,0,none⟩) (dG I)).trans I);rw[J]at f Q ⊢;have M:=Hd J;have X:(n:Int)≤9223372036854775807:=by unfold maxLen at f;omega
 clear G I J f
 go_enter Tryz.func31,Tryz.ntmps31
 go_wp2
 go_loopw [8] (wQ w n (types.map aj.name) x) (fun i _=>n-(intOf i).toNat)
 case atStart=>exact⟨0,EM _,rfl,EB _ _,fun j z Y=>by omega⟩
 case round =>
  obtain⟨k,hk,rfl,r,s⟩:=hrel;have Z:(0:Int)≤k:=by omega
  have N:=Hd r;have m:=Hd s;clear s
  by_cases O:k<n
  ·have ad:(k:Int)<n:=by omega
   obtain⟨t,q⟩:∃t,types[k]?=some t:=⟨_,EE (by rw[M.o];exact O)⟩;have g:=Q.o wr r;have u:=Rd.row_at g q;rw[M.o]at u;obtain⟨b,off,cap,vs,he,_,_,_,_,y,a⟩:=u;injection he with e1 _ e3
   subst e1;subst e3;obtain⟨_,_,_,sc,sa,rfl,A,B⟩:=dY.1 y;obtain⟨R,S,rfl⟩:=Rd.row_shape A;obtain⟨U,V,rfl⟩:=Rd.row_shape B;have c0:wr.cell? ⟨b,off+k*5,none⟩=some (.string t.name):=a 0 _ rfl;have c1:wr.cell? ⟨b,off+k*5+1,none⟩=some (int i64 t.sal):=a 1 _ rfl;have c2:wr.cell? ⟨b,off+k*5+2,none⟩=some (int i64 t.vars):=a 2 _ rfl;have c3:wr.cell? ⟨b,off+k*5+3,none⟩=some (.slice R t.conds.length S):=a 3 _ rfl;have c4:wr.cell? ⟨b,off+k*5+4,none⟩=some (.slice U t.acts.length V):=a 4 _ rfl;have HK:=Hd (zr t.name x t.sal t.vars (.slice R t.conds.length S) (.slice U t.acts.length V) T wr (L.o wr r));clear A B;have C:Hid ((types.map aj.name)[k]?=some t.name):=by show _=_;rw[List.getElem?_map,q];rfl
   clear g y a q r;go_wp2_with fail
   refine HK.o.mono ?_;rintro e w1 ⟨rfl,D⟩;have E:=Hd (N.o.trans (D.mono N.o.size));clear D c0 c1 c2 c3 c4
   cases H:(t.name.data.toList==x.data.toList) with
   | true =>
    have P:=Hd (idxOf_hit C.o H m.o);clear H;go_wp2_with fail
    go_ret;exact⟨by rw[P.o];rfl,E.o⟩
   | false =>
    have HQ:=Hd H;clear H;go_wp2_with fail
    exact⟨⟨k+1,by omega,by go_num,E.o,fun j z Y l=>by
     by_cases h:j=k
     ·subst h;rw[C.o]at l;injection l with l
      rw[←l];exact HQ.o
     ·exact m.o j z (by omega) l⟩,by simp[intOf];omega⟩
  ·have P:Hid (dR (idxOf x (types.map aj.name))=-1):=idxOf_miss (fun j z l=>m.o j z (by
    have:=(EP.1 l).1;rw[List.length_map,M.o]at this
    omega) l)
   clear r;go_wp2_with fail
   go_ret;exact⟨by rw[P.o];rfl,N.o⟩
theorem oQ(types:List ai)(x:ByteArray)(vT:Value)(F:Nat→Prop)(M:Nat)(w:World)(f:bo.row w F types vT)(hF:∀b,F b→b<w.heap.size)(hm:w.cell? ⟨M,0,none⟩=some vT) :
  Calls Tryz.prog 15 #[.pointer (some ⟨M,0,none⟩),.string x] w (fun e w'=>e=.returned (int i64 (dR (dn x types)))∧Ft w w'):=by
 have j:∀(fn:Fn) (first cap:Array Value) (w:World),(Instr.makeFunc fn first cap).run Tryz.prog w=.ok (.func fn first cap) w:=fun _ _ _ _=>rfl
 obtain⟨p,c,rfl⟩:=Rd.row_shape f;have a:Ft w (w.alloc (.cells #[.string x] 9)):=(EB _ w).alloc (EA _) _;have g:(w.alloc (.cells #[.string x] 9)).cell? ⟨M,0,none⟩=some (.slice p types.length c):=(a.cell (p:=⟨M,0,none⟩) (dG hm)).trans hm;have k:=Hd (BF types x _ F w.heap.size (w.alloc (.cells #[.string x] 9)) (Rd.row_below f hF a) (fun b l=>EF (hF b l) a.size) (cell_new1 w _ _));have i:=Hd a;clear f a hm
 go_enter Tryz.func15,Tryz.ntmps15
 go_wp2_with fail
 refine k.o.mono ?_;rintro e w1 ⟨rfl,d⟩;have h:=Hd (i.o.trans (d.mono i.o.size));clear d g;go_wp2_with fail
 go_ret;exact⟨rfl,h.o⟩
theorem uW(d:Nat)(rules:List aj)(x:ByteArray)(vR:Value)(F:Nat→Prop)(M:Nat)(w:World)(g:(bh d).row w F rules vR)(hF:∀b,F b→b<w.heap.size)(hm:w.cell? ⟨M,1,none⟩=some vR) :
  Calls Tryz.prog 16 #[.pointer (some ⟨M,0,none⟩),.string x] w (fun e w'=>e=.returned (int i64 (dR (idxOf x (rules.map aj.name))))∧Ft w w'):=by
 have k:∀(fn:Fn) (first cap:Array Value) (w:World),(Instr.makeFunc fn first cap).run Tryz.prog w=.ok (.func fn first cap) w:=fun _ _ _ _=>rfl
 obtain⟨p,c,rfl⟩:=Rd.row_shape g;have a:Ft w (w.alloc (.cells #[.string x] 9)):=(EB _ w).alloc (EA _) _;have h:(w.alloc (.cells #[.string x] 9)).cell? ⟨M,1,none⟩=some (.slice p rules.length c):=(a.cell (p:=⟨M,1,none⟩) (dG hm)).trans hm;have l:=Hd (BE d rules x _ F w.heap.size (w.alloc (.cells #[.string x] 9)) (Rd.row_below g hF a) (fun b m=>EF (hF b m) a.size) (cell_new1 w _ _));have j:=Hd a;clear g a hm
 go_enter Tryz.func16,Tryz.ntmps16
 go_wp2_with fail
 refine l.o.mono ?_;rintro e w1 ⟨rfl,f⟩;have i:=Hd (j.o.trans (f.mono j.o.size));clear f h;go_wp2_with fail
 go_ret;exact⟨rfl,i.o⟩
theorem tQ:∀(l:List UInt8) (m n:Nat),m≤lr→fQ m l=some n→n≤lr
 | [],m,n,hm,h=>by
  simp only[fQ]at h;injection h with h;omega
 | c::l,m,n,hm,h=>by
  unfold fQ at h
  split at h
  ·rename_i a
   simp only[EQ,oe]at a;exact tQ l _ n a.2 h
  ·cases h
theorem rI(l:List UInt8):((number l).getD 0:Nat)≤lr:=by
 unfold number
 split
 ·exact EM _
 ·cases h:fQ 0 l with
  | none=>exact EM _
  | some n=>exact tQ l 0 n (EM _) h
def ff(t:ByteArray):ByteArray:=if eL t.data.toList then t.extract 1 t.size else t
theorem vS(t:ByteArray):(ff t).data.toList=strip t.data.toList:=by
 unfold ff
 split
 ·rename_i h
  rw[ByteArray.data_extract,Array.toList_extract]
  cases a:t.data.toList with
  | nil=>rw[a]at h;cases h
  | cons c r =>
   rw[a]at h;have d:c=45:=by
    unfold eL at h
    split at h
    ·rename_i heq;injection heq
    ·cases h
   subst d;have e:t.size=r.length+1:=by
    have b:t.data.toList.length=t.size:=EY;rw[a]at b
    simpa using b.symm
   rw[e];simp[strip,List.extract]
 ·rename_i h
  unfold strip
  split
  ·rename_i r heq
   exfalso
   apply h;unfold eL;rw[heq];rfl
  ·rfl
theorem v8(t:ByteArray):(ff t).size≤t.size:=by
 unfold ff
 split
 ·rw[ByteArray.size_extract];omega
 ·omega
theorem qK(l:List UInt8):Lib.hasPrefix l [45]=eL l:=by
 unfold Lib.hasPrefix eL
 cases l with
 | nil=>rfl
 | cons c r =>
  by_cases h:c=45
  ·subst h;rfl
  ·have:(45==c)=false:=by simpa using fun e:(45:UInt8)=c=>h e.symm
   simp only[List.isPrefixOf,this,Bool.false_and]
   split
   ·rename_i heq;injection heq with heq;exact absurd heq h
   ·rfl
theorem pX(s:ByteArray)(w:World):Calls Tryz.prog 172 #[.string s,string ⟨#[45]⟩] w fun e w'=>e=.returned (.bool (eL s.data.toList))∧w=w':=
 (Tryz.stringslite_HasPrefix s ⟨#[45]⟩ w).mono fun e w' ⟨a,b⟩=>⟨by rw[a,←qK],b.symm⟩
theorem vy(t:ByteArray)(w:World):Calls Tryz.prog 177 #[.string t,string ⟨#[45]⟩] w fun e w'=>e=.returned (.tuple #[.string (ff t),.bool (eL t.data.toList)])∧w=w':=by
 have d:Calls Tryz.prog 187 #[.string t,string ⟨#[45]⟩] w fun e w'=>e=.returned (.tuple #[.string (ff t),.bool (eL t.data.toList)])∧w=w':=by
  have j:=Hd (pX t w);have b:Hid (ff t=if eL t.data.toList then t.extract 1 t.size else t):=rfl;have k:eL t.data.toList=true→1≤t.size:=fun h=>by
   have g:t.data.toList.length=t.size:=EY
   cases i:t.data.toList with
   | nil=>rw[i]at h;cases h
   | cons c r=>rw[i]at g;simp at g;omega
  go_enter Tryz.func187,Tryz.ntmps187
  go_wp2_with fail
  refine j.o.mono ?_;rintro e w' ⟨rfl,rfl⟩
  cases a:eL t.data.toList with
  | true =>
   rw[a]at b;have d:=k a;have l:∀W,(Instr.slice 9 (.string t) (some (int i64 1)) none none).run Tryz.prog W=.ok (.string (ff t)) W:=fun W=>by
    rw[b.o];simp only[oA];exact run_slice_string_l W 9 t Tryz.underlying9 i64 1 (by omega) (by omega)
   go_wp2_with fail
   go_ret2
   exact⟨by rw[a];rfl,rfl⟩
  | false =>
   rw[a]at b;have f:ff t=t:=b.o;go_wp2_with fail
   go_ret2
   exact⟨by rw[f,a];rfl,rfl⟩
 have H1:=Hd d;clear d
 go_enter Tryz.func177,Tryz.ntmps177
 go_wp2_with fail
 refine H1.o.mono ?_;rintro e w' ⟨rfl,rfl⟩;go_wp2_with fail
 go_ret2
 exact⟨rfl,rfl⟩
theorem rb(W:World)(e:Ending→World→Prop)(T:Nat)(a b c:Value)(f:W.heap[T]?=some (.cells #[a,b,c] 46 (0,0)))
  (tmps:Array Value) (g:tmps.getD 2 undef=.pointer (some ⟨T,0,none⟩)) (h:e (.returned (.agg #[a,b,c])) W):bodyPost Tryz.prog Tryz.f157 e .ret ⟨tmps,[]⟩ W:=by
 obtain⟨i,j,c2,_⟩:=cells3 f;have d:tmps[2]?.getD undef=.pointer (some ⟨T,0,none⟩):=by simpa using g
 refine bodyPost_ret (v:=.agg #[a,b,c]) ?_ rfl h;simp[results,Tryz.results157,go_sem,d,i,j,c2]
theorem qY(T:ac)(s:Value)(w:World)(h:T.kind=14∨T.kind=15)(p:T.text.size≤72007) :
  Calls Tryz.prog 157 #[.agg #[int .u8 T.kind,.string T.text,int i64 T.num,int i64 T.place,s]] w fun e w'=>e=.returned (.agg (qM (bC T)).toArray)∧Ft w w':=by
 obtain⟨k,t,nm,pl,y⟩:=T;have p:t.size≤72007:=p;have h:k=14∨k=15:=h
 show Calls Tryz.prog 157 #[.agg #[int .u8 k,.string t,int i64 nm,int i64 pl,s]] w _
 rcases h with rfl|rfl
 ·have a:Ft w ((w.alloc (.cells #[int .u8 14,.string t,int i64 nm,int i64 pl,s] 76)).alloc (.cells #[int .u8 0,int i64 0,string ⟨#[]⟩] 46)):=((EB _ w).alloc (EA _) _).alloc (by simp) _;obtain⟨_,b,_⟩:=am w (.cells #[int .u8 14,.string t,int i64 nm,int i64 pl,s] 76) (.cells #[int .u8 0,int i64 0,string ⟨#[]⟩] 46);have f:=Hd a;have g:=Hd b;have q:=Hd (lE (ff t) ((w.alloc (.cells #[int .u8 14,.string t,int i64 nm,int i64 pl,s] 76)).alloc (.cells #[int .u8 0,int i64 0,string ⟨#[]⟩] 46)) (by have:=v8 t;omega));have r:=Hd (vy t ((w.alloc (.cells #[int .u8 14,.string t,int i64 nm,int i64 pl,s] 76)).alloc (.cells #[int .u8 0,int i64 0,string ⟨#[]⟩] 46)));have hle:=rI (ff t).data.toList;have u:Hid (lC t=if eL t.data.toList then -(((number (ff t).data.toList).getD 0:Nat):Int) else (((number (ff t).data.toList).getD 0:Nat):Int)):=by
   show lC t=_
   unfold lC;rw[vS]
  clear a b
  go_enter Tryz.func157,Tryz.ntmps157
  go_wp2_with fail
  refine r.o.mono ?_;rintro e w' ⟨rfl,rfl⟩;go_wp2_with fail
  refine q.o.mono ?_;rintro e w1 ⟨rfl,c⟩;have i:=Hd (f.o.trans (c.mono f.o.size));have j:=aa c g.o (Ez.1 g.o).1;obtain⟨C,D,c2,f0,f1,f2⟩:=cells3 j;have l:=Hd j;clear c j q r;generalize (number (ff t).data.toList).getD 0=n at *;have E:(n:Int)≤9223372036854775807:=by unfold lr at hle;omega
  have A:(0:Int)≤n:=by omega
  have fin:∀(z:Int),lC t=z→∀(tmps:Array Value),tmps.getD 2 undef=.pointer (some ⟨w.heap.size+1,0,none⟩)→bodyPost Tryz.prog Tryz.f157 (fun e w'=>e=.returned (.agg (qM (bC (.mk 14 t nm pl y))).toArray)∧Ft w w') .ret ⟨tmps,[]⟩ (((w1.setCell ⟨w.heap.size+1,0,none⟩ (int .u8 1)).setCell ⟨w.heap.size+1,1,none⟩ (int i64 z)).setCell ⟨w.heap.size+1,2,none⟩ (string ⟨#[]⟩)):=fun z d tmps B=>by
   refine rb _ _ (w.heap.size+1) (int .u8 1) (int i64 z) (string ⟨#[]⟩) ?_ tmps B ⟨?_,((i.o.setCell (by simp) _).setCell (by simp) _).setCell (by simp) _⟩
   ·rw[heap_set (heap_set (heap_set l.o 0 _) 1 _) 2 _];rfl
   ·rw[←d];rfl
  have v:=Hd fin;clear fin
  cases x:eL t.data.toList with
  | true =>
   have d:lC t=-(n:Int):=by rw[u.o,x];rfl
   have m:=Hd d;clear d hle;go_wp2_with fail
   exact v.o _ m.o _ rfl
  | false =>
   have d:lC t=(n:Int):=by rw[u.o,x];rfl
   have m:=Hd d;clear d hle;go_wp2_with fail
   exact v.o _ m.o _ rfl
 ·have a:Ft w ((w.alloc (.cells #[int .u8 15,.string t,int i64 nm,int i64 pl,s] 76)).alloc (.cells #[int .u8 2,int i64 0,.string t] 46)):=((EB _ w).alloc (EA _) _).alloc (by simp) _;obtain⟨_,b,_⟩:=am w (.cells #[int .u8 15,.string t,int i64 nm,int i64 pl,s] 76) (.cells #[int .u8 2,int i64 0,.string t] 46);have f:=Hd a;have g:=Hd b;clear a b
  go_enter Tryz.func157,Tryz.ntmps157
  go_wp2_with fail
  exact rb _ _ (w.heap.size+1) _ _ _ g.o _ rfl ⟨rfl,f.o⟩
def kY{α:Type} (r:Except Flt α) (val:α→Value) (w:World) (e:Ending) (w':World):Prop:=Ft w w'∧match r with
 | .ok x=>e=.returned (val x)
 | .error er=>e=aJ er.1 er.2
theorem kF:Elem 149 174 2 16:=Elem.of (z:=.agg #[.bool false,int i64 0]) Tryz.underlying174 (by kernel_rfl) rfl (by decide) (by decide)
theorem ci{a W W':World}(h:∃x:Wb a,W=x.1)(b:Ft W W'):∃x:Wb a,W'=x.1:=by
 obtain⟨x,rfl⟩:=h;exact⟨⟨W',x.2.trans (b.mono x.2.size)⟩,rfl⟩
theorem kl(x:ByteArray):∀(l:List ByteArray) (m k:Nat),fi x l m=some k→m≤k∧k<m+l.length
 | [],m,k,h=>by cases h
 | y::l,m,k,h=>by
  unfold fi at h
  split at h
  ·injection h with h;subst h;simp
  ·have:=kl x l (m+1) k h;simp only[Fb];omega
theorem nV{x:ByteArray}{l:List ai}{k:Nat}(h:dn x l=some k):k<l.length:=by
 have:=(kl x (l.map ai.name) 0 k h).2
 simpa using this
def kG(k:Nat):Value:=int i64 (k:Int)
theorem zR(types:List ai)(T:ac)(p:Option Addr)(c:Nat)(vT:Value)(F:Nat→Prop)(M:Nat)(w:World)(X:bo.row w F types vT)(hF:∀b,F b→b<w.heap.size)(hm:w.cell? ⟨M,0,none⟩=some vT)(_hl:T.kids.length≤100000) :
  Calls Tryz.prog 111 #[.pointer (some ⟨M,0,none⟩),.agg #[int .u8 T.kind,.string T.text,int i64 T.num,int i64 T.place,.slice p T.kids.length c]] w (kY (dw types T) kG w):=by
 obtain⟨pT,cT,rfl⟩:=Rd.row_shape X;have Z:=Rd.row_len X;obtain⟨n,hn⟩:=zzy (T.kids.length);have K:Hid (dw types T=match dn T.text types with|none=>.error (211,T.place)|some k=>if ((types[k]?).map ai.fields).getD 0==(n:Int) then .ok k else .error (212,T.place)):=by show _=_;rw[←hn];rfl
 rw[hn];obtain⟨w1,A⟩:=zzx (w.alloc (.cells #[int .u8 T.kind,.string T.text,int i64 T.num,int i64 T.place,.slice p n c] 76));have d:Ft w w1:=by rw[A];exact (EB _ w).alloc (EA _) _
 have HX:Hid (w1.heap[w.heap.size]?=some (.cells #[int .u8 T.kind,.string T.text,int i64 T.num,int i64 T.place,.slice p n c] 76 (0,0))):=by show _=_;rw[A];exact n7 w _
 have hM:=dG hm;have HV:=Hd (fun W (L:Ft w1 W)=>Rd.row_below X hF (d.trans (L.mono d.size)));have HM:=Hd (fun W (L:Ft w1 W)=>((d.trans (L.mono d.size)).cell (p:=⟨M,0,none⟩) hM).trans hm);have HF:=Hd (fun W (L:Ft w1 W) b (hf:F b)=>EF (hF b hf) (EG d.size L.size));have j:=Hd d;clear hn d X hF hm
 go_enter Tryz.func111,Tryz.ntmps111
 go_upto_region 1 with fail
 change Code.wp _ _ _ _ (w.alloc (.cells #[int .u8 T.kind,.string T.text,int i64 T.num,int i64 T.place,.slice p n c] 76));rw[←A];clear A;obtain⟨x0,x1,x2,x3,x4⟩:=cells5 HX.o;have X1:=fun x:Wb w1=>x.cell x1
 have HK:=Hd (fun x:Wb w1=>oQ types T.text _ F M x.1 (HV.o _ x.2) (HF.o _ x.2) (HM.o _ x.2));refine ae (by kernel_rfl) (by kernel_rfl) ?_
 repeat (go_big_quiet_step ((go_at_call 15;exact Calls.below_of (HK.o _))))
 refine wpQuiet_nil ?_;intro W2 N;have G:=az N;have B:=Hd G;have H:=aa G HX.o (Ez.1 HX.o).1;have O:=Hd H;obtain⟨a0,a1,a2,a3,a4⟩:=cells5 H;clear N G H X1 HK x0 x1 x2 x3 x4
 cases r:dn T.text types with
 | none =>
  rw[r]at K;clear r;have l:Ft W2 (W2.alloc (.cells (eR [(true,211)]).toArray 149)):=(EB _ W2).alloc (EA _) _;have s:=Hd (j.o.trans ((B.o.trans (l.mono B.o.size)).mono j.o.size));have C:=Hd (bV [(true,211)] T.kind T.text T.num T.place (.slice p n c) W2.heap.size 1 1 (W2.alloc (.cells (eR [(true,211)]).toArray 149)) rfl (by omega) (n7 W2 _));clear l;go_wp2_with fail
  refine C.o.mono ?_;rintro e a ⟨u,he⟩;have he:e=aJ 211 T.place:=he;subst he;refine⟨rfl,s.o.trans (u.mono s.o.size),?_⟩;rw[K.o];rfl
 | some k =>
  rw[r]at K;have ad:=nV r;obtain⟨t,I⟩:∃t,types[k]?=some t:=⟨_,EE ad⟩;have P:Hid (dw types T=if t.fields==(n:Int) then .ok k else .error (212,T.place)):=by show _=_;rw[K.o];dsimp only;rw[I];rfl
  rw[show dR (some k)=(k:Int) from rfl];have ar:¬((k:Int)<0):=by omega
  have av:(0:Int)≤k:=by omega
  have a6:(k:Int)<types.length:=by omega
  have a7:(types.length:Int)≤9223372036854775807:=by unfold maxLen at Z;omega
  clear r K;obtain⟨wn,D⟩:=zzx (W2.alloc (.cells (eR [(false,211)]).toArray 149));have l:Ft W2 wn:=by rw[D];exact (EB _ W2).alloc (EA _) _
  have s:=Hd (B.o.trans (l.mono B.o.size));have Q:=Hd (aa l O.o (Ez.1 O.o).1);have C:=Hd (bV [(false,211)] T.kind T.text T.num T.place (.slice p n c) W2.heap.size 1 1 (W2.alloc (.cells (eR [(false,211)]).toArray 149)) rfl (by omega) (n7 W2 _));rw[←D]at C;clear l;go_wp2_with fail
  change Calls Tryz.prog 78 #[_,_] (W2.alloc (.cells (eR [(false,211)]).toArray 149)) _;rw[←D];clear D;refine C.o.mono ?_;rintro e a ⟨u,he⟩;have he:e=.returned (.tuple #[]):=he;subst he;have m:=Hd (s.o.trans (u.mono s.o.size));have R:=aa u Q.o (Ez.1 Q.o).1;have af:=Hd R;clear u a0 a1 a2 a3 a4 R C;obtain⟨a0,a1,a2,a3,a4⟩:=cells5 af.o;obtain⟨b,off,cap,vs,ak,_,_,_,_,S,y⟩:=Rd.row_at (HV.o a m.o) I;obtain⟨rfl,_,_⟩:=dN.1 S;injection ak with e1 _ e3
  subst e1;subst e3;have c1:a.cell? ⟨b,off+k*2+1,none⟩=some (int i64 t.fields):=y 1 _ rfl;have m0:=HM.o a m.o;have A0:=fun x:Wb a=>x.cell a0
  have A1:=fun x:Wb a=>x.cell a1
  have A2:=fun x:Wb a=>x.cell a2
  have A3:=fun x:Wb a=>x.cell a3
  have A4:=fun x:Wb a=>x.cell a4
  have B1:=fun x:Wb a=>x.cell c1
  have M0:=fun x:Wb a=>x.cell m0
  clear S y I
  cases Y:(t.fields==(n:Int)) with
  | true =>
   have an:(t.fields != (n:Int))=false:=by simp only[bne,Y];rfl
   have HQ:=Hd Y;go_wp2_with fail
   refine RE.wp_region_eff (by kernel_rfl) 17 [16] [] (fun _ W=>∃x:Wb a,W=x.1) (fun W W'=>Ft W W') (fun i f=>f.getD 0 undef) (fun i W f=>if i=16 then One 149 a.heap.size (eR [(false,212)]) W (f.getD 0 undef) else True) (by kernel_rfl) (fun _ _ _ _ _ _ h q=>ci h q) (fun i W W' f h _ q=>by split at h;(rw[n9 (by assumption)];exact h.below q);rw[n8 (by assumption)];trivial) ⟨⟨a.drew,(EB _ _).drew⟩,rfl⟩ ?_;simp only[EK,ET,EL,ES]
   repeat (refine RE.wpE_read (fun W=>∃x:Wb a,W=x.1) (fun _ _ _ h=>h) rfl rfl rfl ⟨⟨a.drew,(EB _ _).drew⟩,rfl⟩ ?_;go_big_quiet_step (fail);refine wpQuiet_nil ?_)
   refine RE.wpE_turn rfl rfl ?_ (fun f=>?_)
   ·intro W hC _ J;obtain⟨s9,_,x,rfl⟩:=hC;exact dB kF (vs:=eR [(false,212)]) _ rfl rfl rfl x.2.size (fun v W' q ho=>⟨[v],rfl,q,q,ho⟩)
   simp only[Act.put,EC,EI,EH];refine RE.wpE_nil ?_;intro W hS J;obtain⟨x,rfl⟩:=hS;obtain⟨g,U,lg,V⟩:One 149 a.heap.size (eR [(false,212)]) x.1 (f.getD 0 undef):=J 16 f rfl;rw[U];have C:=Hd (bV [(false,212)] T.kind T.text T.num T.place (.slice p n c) g 1 1 x.1 rfl (by omega) V);have z:=Hd (j.o.trans ((m.o.trans (x.2.mono m.o.size)).mono j.o.size));clear J U lg V A0 A1 A2 A3 A4 B1 M0;go_wp2_with fail
   refine C.o.mono ?_;rintro e w5 ⟨E,he⟩;have he:e=.returned (.tuple #[]):=he;subst he;have aq:=Hd (z.o.trans (E.mono z.o.size));clear E;go_wp2_with fail
   go_ret;refine⟨aq.o,?_⟩;rw[P.o,HQ.o];rfl
  | false =>
   have an:(t.fields != (n:Int))=true:=by simp only[bne,Y];rfl
   have HQ:=Hd Y;go_wp2_with fail
   refine RE.wp_region_eff (by kernel_rfl) 17 [16] [] (fun _ W=>∃x:Wb a,W=x.1) (fun W W'=>Ft W W') (fun i f=>f.getD 0 undef) (fun i W f=>if i=16 then One 149 a.heap.size (eR [(true,212)]) W (f.getD 0 undef) else True) (by kernel_rfl) (fun _ _ _ _ _ _ h q=>ci h q) (fun i W W' f h _ q=>by split at h;(rw[n9 (by assumption)];exact h.below q);rw[n8 (by assumption)];trivial) ⟨⟨a.drew,(EB _ _).drew⟩,rfl⟩ ?_;simp only[EK,ET,EL,ES]
   repeat (refine RE.wpE_read (fun W=>∃x:Wb a,W=x.1) (fun _ _ _ h=>h) rfl rfl rfl ⟨⟨a.drew,(EB _ _).drew⟩,rfl⟩ ?_;go_big_quiet_step (fail);refine wpQuiet_nil ?_)
   refine RE.wpE_turn rfl rfl ?_ (fun f=>?_)
   ·intro W hC _ J;obtain⟨s9,_,x,rfl⟩:=hC;exact dB kF (vs:=eR [(true,212)]) _ rfl rfl rfl x.2.size (fun v W' q ho=>⟨[v],rfl,q,q,ho⟩)
   simp only[Act.put,EC,EI,EH];refine RE.wpE_nil ?_;intro W hS J;obtain⟨x,rfl⟩:=hS;obtain⟨g,U,lg,V⟩:One 149 a.heap.size (eR [(true,212)]) x.1 (f.getD 0 undef):=J 16 f rfl;rw[U];have C:=Hd (bV [(true,212)] T.kind T.text T.num T.place (.slice p n c) g 1 1 x.1 rfl (by omega) V);have z:=Hd (j.o.trans ((m.o.trans (x.2.mono m.o.size)).mono j.o.size));clear J U lg V A0 A1 A2 A3 A4 B1 M0;go_wp2_with fail
   refine C.o.mono ?_;rintro e w5 ⟨E,he⟩;have he:e=aJ 212 T.place:=he;subst he;refine⟨rfl,z.o.trans (E.mono z.o.size),?_⟩;rw[P.o,HQ.o];rfl
theorem aI{w:World}{F:Nat→Prop}{d:Nat}{a:List ag}{s:Value}(h:cu w F d a s):∃p c,s=.slice p a.length c:=by
 cases d with
 | zero=>obtain⟨rfl,p,c,rfl⟩:=h;exact⟨p,c,rfl⟩
 | succ d=>exact Rd.row_shape h
theorem dL(d:Nat):(bp d).n=10:=by cases d<;>rfl
theorem qO(d:Nat):(bS d).n=4:=rfl
theorem Bq(d:Nat):(bh d).n=5:=rfl
def Dn(w:World) (n:Nat) (cs:List aC) (f i:Value) (W:World):Prop:=∃k:Nat,k≤n∧i=int i64 (k:Int)∧f=int i64 ((dK (cs.take k):Nat):Int)∧Ft w W
theorem u9(l:List aC)(k:Nat)(c:aC)(h:l[k]?=some c):dK (l.take (k+1))=dK (l.take k)+(if c.kind==1 then 1 else 0):=by
 unfold dK;rw[Fg,h,List.filter_append,EO]
 congr 1
 show (List.filter _ [c]).length=_
 by_cases a:(c.kind==1)=true
 ·rw[n9 a];simp[List.filter,a]
 ·rw[n8 a];simp only[Bool.not_eq_true]at a;simp[List.filter,a]
theorem yZ(d:Nat)(conds:List aC)(vC:Value)(F:Nat→Prop)(M:Nat)(w:World)(B:(bp d).row w F conds vC)(hF:∀b,F b→b<w.heap.size)(hm:w.cell? ⟨M,6,none⟩=some vC)(j:conds.length≤10000) :
  Calls Tryz.prog 115 #[.pointer (some ⟨M,0,none⟩)] w (fun e w'=>e=.returned (int i64 (dK conds:Int))∧Ft w w'):=by
 obtain⟨p,c,rfl⟩:=Rd.row_shape B;obtain⟨n,C⟩:=zzy (conds.length);have H:=Hd (fun W (Q:Ft w W)=>Rd.row_below B hF Q);rw[C]at H hm j;have I:=Hd C;have R:(n:Int)≤10000:=by omega
 clear B C
 go_enter Tryz.func115,Tryz.ntmps115
 go_wp2
 go_loopw [3,12] (Dn w n conds) (fun _ i _=>n-(intOf i).toNat)
 case atStart=>exact⟨0,EM _,rfl,rfl,EB _ _⟩
 case round =>
  obtain⟨k,Y,rfl,rfl,A⟩:=hrel;have S:(0:Int)≤k:=by omega
  have D:=Hd A
  by_cases E:k<n
  ·have T:(k:Int)<n:=by omega
   obtain⟨x,G⟩:∃x,conds[k]?=some x:=⟨_,EE (by rw[I.o];exact E)⟩;obtain⟨b,off,cap,vs,he,_,_,_,_,l,a⟩:=Rd.row_at (H.o wr A) G;injection he with U _ V
   subst U;subst V;have a:∀(m:Nat) (u:Value),vs[m]?=some u→wr.cell? ⟨b,off+k*10+m,none⟩=some u:=fun m u h=>by rw[←dL d];exact a m u h
   obtain⟨_,_,_,Z,s,rfl,q,r⟩:=dq.1 l;obtain⟨J,K,rfl⟩:=Rd.row_shape q;obtain⟨L,N,rfl⟩:=aI r;have c0:wr.cell? ⟨b,off+k*10,none⟩=some (int .u8 x.kind):=a 0 _ rfl;have c1:wr.cell? ⟨b,off+k*10+1,none⟩=some (int i64 x.type):=a 1 _ rfl;have c2:wr.cell? ⟨b,off+k*10+2,none⟩=some (.slice J x.args.length K):=a 2 _ rfl;have c3:wr.cell? ⟨b,off+k*10+3,none⟩=some (int .u8 x.test.kind):=a 3 _ rfl;have c4:wr.cell? ⟨b,off+k*10+4,none⟩=some (int .u8 x.test.val.kind):=a 4 _ rfl;have c5:wr.cell? ⟨b,off+k*10+5,none⟩=some (int i64 x.test.val.num):=a 5 _ rfl;have c6:wr.cell? ⟨b,off+k*10+6,none⟩=some (.string x.test.val.text):=a 6 _ rfl;have c7:wr.cell? ⟨b,off+k*10+7,none⟩=some (int i64 x.test.var):=a 7 _ rfl;have c8:wr.cell? ⟨b,off+k*10+8,none⟩=some (int .u8 x.test.op):=a 8 _ rfl;have c9:wr.cell? ⟨b,off+k*10+9,none⟩=some (.slice L x.test.kids.length N):=a 9 _ rfl;have t:=Hd (u9 conds k x G);have X:dK (conds.take k)≤10000:=by
    have h1:dK (conds.take k)≤(conds.take k).length:=List.length_filter_le _ _;have h2:=List.length_take_le k conds;omega
   have O:((dK (conds.take k):Nat):Int)≤10000:=by omega
   have P:(0:Int)≤((dK (conds.take k):Nat):Int):=by omega
   have v:Ft wr (wr.alloc (.cells #[int .u8 x.kind,int i64 x.type,.slice J x.args.length K,int .u8 x.test.kind,int .u8 x.test.val.kind,int i64 x.test.val.num,.string x.test.val.text,int i64 x.test.var,int .u8 x.test.op,.slice L x.test.kids.length N] 52)):=(EB _ wr).alloc (EA _) _;have f:=Hd (D.o.trans (v.mono D.o.size));clear l a q r G A v
   cases g:(x.kind==1) with
   | true =>
    have y:Hid (dK (conds.take (k+1))=dK (conds.take k)+1):=by show _=_;rw[t.o,g];rfl
    have z:x.kind=1:=by simpa using g
    rw[z]at f;clear g;go_wp2_with fail
    exact⟨⟨k+1,by omega,by go_num,by rw[y.o];go_num,f.o⟩,by simp[intOf];omega⟩
   | false =>
    have y:Hid (dK (conds.take (k+1))=dK (conds.take k)):=by show _=_;rw[t.o,g];rfl
    have z:¬x.kind=1:=by simpa using g
    clear g;go_wp2_with fail
    exact⟨⟨k+1,by omega,by go_num,by rw[y.o],f.o⟩,by simp[intOf];omega⟩
  ·have y:Hid (dK (conds.take k)=dK conds):=by show _=_;rw[ER (by rw[I.o];omega)]
   clear A;go_wp2_with fail
   go_ret;exact⟨by rw[←y.o];rfl,D.o⟩
