/- Parts of one proof, joined; conditions stand in each theorem. -/
import Derived.Test.YtkhfjgjjhlnnnaaGreatDoorYNF
import Derived.Test.YtkhfjgjjhlnnnaaGreatDoorYNC
import Derived.Test.YtkhfjgjjhlnnnaaGreatDoorYMD
import Derived.Test.YtkhfjgjjhlnnnaaGreatDoorYNA
import Derived.StillTailTactics
open Go renaming Value→wF,World→wD,Calls→xL
open Option renaming some→Y,none→U
open Go.Obj renaming cells→wq
open Go.Value renaming int→I,pointer→xV,bool→AJ,agg→xS,string→J,slice→A,tuple→CA
open Go.IntKind renaming i64→Z,u8→O
open Go.Proofs.Tryz renaming prog→xD
open Go.Ending renaming returned→z8
namespace Go.Proofs.YtkhfjgjjhlnnnaaGreatDoor
set_option maxHeartbeats 2000000
set_option maxRecDepth 100000
open Go.RowKit
def az(fl:Flt) (a:Bool) (c p:Int):Flt:=if a&&fl.1==0 then (c,p) else fl
structure RmW (M:Nat) (ts:List ae) (vars:List ByteArray) (k:Int) (fl:Flt) (vT vR vV:wF) (w:wD):Prop where
 m:w.heap[M]?=Y (wq #[vT,vR,vV,I Z k,I Z fl.1,I Z fl.2] 83 (0,0))
 t:bV.K w (fun b=>b<w.heap.size∧b≠M) ts vT
 v:Rd.str.K w (fun b=>b<w.heap.size∧b≠M) vars vV
theorem RmW.lt{M:Nat}{ts:List ae}{vars:List ByteArray}{k:Int}{fl:Flt}{vT vR vV:wF}{w:wD}(h:RmW M ts vars k fl vT vR vV w):M<w.heap.size:=(EN.1 h.m).1
theorem mB{α:Type}{r:Rd α}{M:Nat}{w w':wD}{xs:List α}{v:wF}(h:r.K w (fun b=>b<w.heap.size∧b≠M) xs v)(c:Chg (fun b=>b=M) w w'):r.K w' (fun b=>b<w'.heap.size∧b≠M) xs v:=
 Rd.y (fun _b a=>⟨ET a.1 c.h,a.2⟩) (Rd.f (fun b a _o d=>(c.u b a.1 a.2).trans d) h)
theorem RmW.chg{M:Nat}{ts:List ae}{vars:List ByteArray}{k k':Int}{fl fl':Flt}{vT vR a vV:wF}{w w':wD}(h:RmW M ts vars k fl vT vR vV w)(c:Chg (fun b=>b=M) w w')(hm:w'.heap[M]?=Y (wq #[vT,a,vV,I Z k',I Z fl'.1,I Z fl'.2] 83 (0,0))):RmW M ts vars k' fl' vT a vV w':=
 ⟨hm,mB h.t c,mB h.v c⟩
theorem RmW.z{M:Nat}{ts:List ae}{vars:List ByteArray}{k:Int}{fl:Flt}{vT vR vV:wF}{w w':wD}(h:RmW M ts vars k fl vT vR vV w)(a:FK w w'):RmW M ts vars k fl vT vR vV w':=
 h.chg (Chg.f a) ((a.block M h.lt).trans h.m)
def aD(M:Nat) (ts:List ae) (vars:List ByteArray) (k:Int) (vT vR vV:wF) (w:wD) (fl:Flt) (w':wD):Prop:=Chg (fun b=>b=M) w w'∧RmW M ts vars k fl vT vR vV w'
theorem cQ{w:wD}{T:Nat}{a b c d e f:wF}{t:TypeId}(h:w.heap[T]?=Y (wq #[a,b,c,d,e,f] t (0,0))) :
  w.cell? ⟨T,0,U⟩=Y a∧w.cell? ⟨T,1,U⟩=Y b∧w.cell? ⟨T,2,U⟩=Y c∧w.cell? ⟨T,3,U⟩=Y d∧w.cell? ⟨T,4,U⟩=Y e∧w.cell? ⟨T,5,U⟩=Y f:=by
 simp[World.cell?,h]
theorem dI{M:Nat}{ts:List ae}{vars:List ByteArray}{k:Int}{fl:Flt}{vT vR vV:wF}{w:wD}(h:RmW M ts vars k fl vT vR vV w)(d:Bool)(c:Int)(kd:Nat)(tx:ByteArray)(nm pl:Int)(p:Option Addr)(n cap:Nat) :
  xL xD 48 #[xV (Y ⟨M,0,U⟩),AJ d,I Z c,xS #[I O kd,J tx,I Z nm,I Z pl,A p n cap]] w (fun e w'=>e=z8 (CA #[])∧aD M ts vars k vT vR vV w (az fl d c pl) w'):=by
 have i:=h.lt;obtain⟨w1,a⟩:=zzx (w.alloc (wq #[I O kd,J tx,I Z nm,I Z pl,A p n cap] 25));have j:FK w w1:=by rw[a];exact (EP _ w).alloc (EO _) _
 have hm:=(j.block M i).trans h.m;have l:=p9 w (wq #[I O kd,J tx,I Z nm,I Z pl,A p n cap] 25);rw[←a]at l;obtain⟨z,B,c2,C,c4,v⟩:=cQ hm;obtain⟨d0,d1,d2,d3,d4⟩:=cells5 l;obtain⟨q,f,x⟩:=zz3 h j hm;have f4:w1.frozen? ⟨M,4,U⟩=false:=ac hm 4;have f5:w1.frozen? ⟨M,5,U⟩=false:=ac hm 5;obtain⟨r,s⟩:=fl;simp only at c4 v;have g:=Hd a;clear h j hm l a
 go_enter Tryz.func48,Tryz.ntmps48
 go_upto_region 1 with fail
 change Code.wp _ _ _ _ (w.alloc (wq #[I O kd,J tx,I Z nm,I Z pl,A p n cap] 25));rw[←g.o];clear g
 cases d with
 | false =>
  go_wp2
  go_returns
  exact⟨V,Chg.f f.o,q.o.z f.o⟩
 | true =>
  by_cases t:r=0
  ·subst t
   go_wp2
   go_returns
   have u:Chg (fun b=>b=M) w ((w1.setCell ⟨M,4,U⟩ (I Z c)).setCell ⟨M,5,U⟩ (I Z pl)):=Chg.y (F:=fun b=>b=M) (p:=⟨M,5,U⟩) (Chg.y (F:=fun b=>b=M) (p:=⟨M,4,U⟩) (Chg.f f.o) (Or.inl V) _) (Or.inl V) _;have y:az (0,s) true c pl=(c,pl):=rfl;refine⟨V,u,q.o.chg u ?_⟩;rw[y,heap_set (heap_set x.o 4 _) 5 _];rfl
  ·go_wp2
   go_returns
   refine⟨V,Chg.f f.o,?_⟩;have:az (r,s) true c pl=(r,s):=by unfold az;rw[qv (by simp[t])]
   rw[this];exact q.o.z f.o
theorem qy{M:Nat}{ts:List ae}{vars:List ByteArray}{k:Int}{fl:Flt}{vT vR vV:wF}{w:wD}(h:RmW M ts vars k fl vT vR vV w)(x:ByteArray) :
  xL xD 49 #[xV (Y ⟨M,0,U⟩),J x] w (fun e w'=>e=z8 (I Z (bP (a8 x ts)))∧FK w w'):=by
 obtain⟨p,c,s⟩:=Rd.b h.t;have a:=Rd.tT h.t;obtain⟨n,D⟩:=zzy (ts.length);rw[D]at s a;subst s;obtain⟨N,P,c2,Q,c4,R⟩:=cQ h.m;obtain⟨S,E,T,F⟩:=zz4 h.m h.lt h.t D;have W:(n:Int)≤9223372036854775807:=by unfold maxLen at a;omega
 clear h D a
 go_enter Tryz.func49,Tryz.ntmps49
 go_wp2
 clear N P c2 Q c4 R
 go_loopw [5] (oD w n (ts.map ae.a) x) (fun i _=>n-(intOf i).toNat)
 case atStart=>exact⟨0,Fa _,V,EP _ _,fun j z X=>by omega⟩
 case round =>
  obtain⟨k,hk,rfl,u,v⟩:=hrel;have G:=Hd u;obtain⟨N,P,c2,Q,c4,R⟩:=cQ ((u.block _ E.o).trans S.o);have ad:(0:Int)≤k:=by omega
  have g:=Hd v;clear v
  by_cases H:k<n
  ·have af:(k:Int)<n:=by omega
   obtain⟨t,q⟩:∃t,ts[k]?=Y t:=⟨_,ES (by rw[F.o];exact H)⟩;have y:=Rd.tS (Rd.X T.o (fun b h=>h.1) u) q;rw[F.o]at y;obtain⟨b,off,cap,vs,he,_,_,_,_,B,d⟩:=y;injection he with e1 _ e3
   subst e1;subst e3;obtain⟨rfl,_,_⟩:=gp.1 B;have d0:wr.cell? ⟨b,off+k*2,U⟩=Y (J t.a):=d 0 _ V;have C:Hid ((ts.map ae.a)[k]?=Y t.a):=by show _=_;rw[List.getElem?_map,q];rfl
   clear B d q u
   cases r:(t.a.data.toList==x.data.toList) with
   | true =>
    have K:=Hd (idxOf_hit C.o r g.o);have L:(t.a.toList==x.toList)=true:=by rw[Fb,Fb];exact r
    clear r;go_wp2_with fail
    go_ret;exact⟨by rw[show a8 x ts=idxOf x (ts.map ae.a) from rfl,K.o];rfl,G.o⟩
   | false =>
    have HQ:=Hd r;have L:(t.a.toList==x.toList)=false:=by rw[Fb,Fb];exact r
    clear r;go_wp2_with fail
    exact⟨⟨k+1,by omega,by go_num,G.o,fun j z X f=>by
     by_cases h:j=k
     ·subst h;rw[C.o]at f;injection f with f
      rw[←f];exact HQ.o
     ·exact g.o j z (by omega) f⟩,by simp[intOf];omega⟩
  ·clear u
   have K:=Hd (idxOf_miss (x:=x) (l:=ts.map ae.a) (fun j z f=>g.o j z (by
    have:=(Fe.1 f).1;rw[List.length_map,F.o]at this
    omega) f))
   go_wp2_with fail
   go_ret;exact⟨by rw[show a8 x ts=idxOf x (ts.map ae.a) from rfl,K.o];rfl,G.o⟩
theorem pn{M:Nat}{ts:List ae}{vars:List ByteArray}{k:Int}{fl:Flt}{vT vR vV:wF}{w:wD}(h:RmW M ts vars k fl vT vR vV w)(x:ByteArray) :
  xL xD 150 #[xV (Y ⟨M,0,U⟩),J x] w (fun e w'=>e=z8 (I Z (bP (idxOf x vars)))∧FK w w'):=by
 obtain⟨p,c,s⟩:=Rd.b h.v;have a:=Rd.tT h.v;obtain⟨n,D⟩:=zzy (vars.length);rw[D]at s a;subst s;obtain⟨P,Q,c2,R,c4,S⟩:=cQ h.m;obtain⟨T,E,W,F⟩:=zz4 h.m h.lt h.v D;have X:(n:Int)≤9223372036854775807:=by unfold maxLen at a;omega
 clear h D a
 go_enter Tryz.func150,Tryz.ntmps150
 go_wp2
 clear P Q c2 R c4 S
 go_loopw [5] (oD w n vars x) (fun i _=>n-(intOf i).toNat)
 case atStart=>exact⟨0,Fa _,V,EP _ _,fun j z hj=>by omega⟩
 case round =>
  obtain⟨k,hk,rfl,u,y⟩:=hrel;have G:=Hd u;obtain⟨P,Q,c2,R,c4,S⟩:=cQ ((u.block _ E.o).trans T.o);have ad:(0:Int)≤k:=by omega
  have g:=Hd y;clear y
  by_cases H:k<n
  ·have af:(k:Int)<n:=by omega
   obtain⟨t,q⟩:∃t,vars[k]?=Y t:=⟨_,ES (by rw[F.o];exact H)⟩;have B:=Rd.tS (Rd.X W.o (fun b h=>h.1) u) q;rw[F.o]at B;obtain⟨b,off,cap,vs,he,_,_,_,_,K,d⟩:=B;injection he with e1 _ e3
   subst e1;subst e3;obtain⟨rfl,_⟩:=K;have d0:wr.cell? ⟨b,off+k,U⟩=Y (J t):=by
    have:=d 0 _ V
    simpa [Rd.str]using this
   have C:Hid (vars[k]?=Y t):=q;clear d q u
   cases r:(t.data.toList==x.data.toList) with
   | true =>
    have L:=Hd (idxOf_hit C.o r g.o);have N:(t.toList==x.toList)=true:=by rw[Fb,Fb];exact r
    clear r;go_wp2_with fail
    go_ret;exact⟨by rw[L.o];rfl,G.o⟩
   | false =>
    have HQ:=Hd r;have N:(t.toList==x.toList)=false:=by rw[Fb,Fb];exact r
    clear r;go_wp2_with fail
    exact⟨⟨k+1,by omega,by go_num,G.o,fun j z hj f=>by
     by_cases h:j=k
     ·subst h;rw[C.o]at f;injection f with f
      rw[←f];exact HQ.o
     ·exact g.o j z (by omega) f⟩,by simp[intOf];omega⟩
  ·clear u
   have L:=Hd (idxOf_miss (x:=x) (l:=vars) (fun j z f=>g.o j z (by
    have:=(Fe.1 f).1;rw[F.o]at this
    omega) f))
   go_wp2_with fail
   go_ret;exact⟨by rw[L.o];rfl,G.o⟩
theorem rp{fn:Func}(f:fn.results=#[.cell 2 58])(W:wD)(e:Ending→wD→Prop)(T:Nat)(a b c:wF)(g:W.heap[T]?=Y (wq #[a,b,c] 58 (0,0)))
  (tmps:Array wF) (h:tmps.getD 2 undef=xV (Y ⟨T,0,U⟩)) (i:e (z8 (xS #[a,b,c])) W):bodyPost xD fn e .ret ⟨tmps,[]⟩ W:=by
 obtain⟨j,k,c2,_⟩:=cells3 g;have d:tmps[2]?.getD undef=xV (Y ⟨T,0,U⟩):=by simpa using h
 refine bodyPost_ret (v:=xS #[a,b,c]) ?_ V i;simp[results,f,go_sem,d,j,k,c2]
theorem sq(x:Int)(w:wD):xL xD 221 #[I Z x] w (fun e w'=>e=z8 (xS #[I O 1,I Z x,J ⟨#[]⟩])∧FK w w'):=by
 have a:FK w (w.alloc (wq #[I O 1,I Z x,J ⟨#[]⟩] 58)):=(EP _ w).alloc (EO _) _;have b:=p9 w (wq #[I O 1,I Z x,J ⟨#[]⟩] 58);obtain⟨c,d⟩:=zz2 a b;clear a b
 go_enter Tryz.func221,Tryz.ntmps221
 go_wp2
 exact rp Tryz.results221 _ _ w.heap.size _ _ _ d.o _ V ⟨V,c.o⟩
theorem zE{t:ByteArray}(h:0<t.size):dN t.data.toList=decide (t[0].toNat=45):=by
 have b:t.data.toList=t[0]::t.data.toList.drop 1:=by
  have:=drop_cons t 0 h
  simpa using this
 rw[b];generalize t[0]=c;generalize t.data.toList.drop 1=r;unfold dN
 by_cases a:c=45
 ·subst a;rfl
 ·have d:¬c.toNat=45:=fun e=>a (UInt8.toNat_inj.1 (by rw[e];rfl))
  rw[r6 d]
  split
  ·rename_i heq;injection heq with e _;exact absurd e a
  ·rfl
theorem oV(T:ab)(s:wF)(w:wD)(B:T.b=14∨T.b=15)(G:T.f.size≤72007)(g:aI T=true) :
  xL xD 151 #[xS #[I O T.b,J T.f,I Z T.h,I Z T.y,s]] w fun e w'=>e=z8 (xS (nK (aF T)).toArray)∧FK w w':=by
 obtain⟨k,t,nm,pl,M⟩:=T;have G:t.size≤72007:=G;have B:k=14∨k=15:=B
 show xL xD 151 #[xS #[I O k,J t,I Z nm,I Z pl,s]] w _
 rcases B with rfl|rfl
 ·have b:(number (strip t.data.toList)).isSome=true:=by
   unfold aI at g;simp only[Ff]at g;exact g.1.1.1.2
  have v:0<t.size:=by
   rcases Nat.eq_zero_or_pos t.size with h|h
   ·have e:t.data.toList=[]:=Fp (by rw[Fq];exact h);rw[e]at b;exact absurd b (by decide)
   ·exact h
  have d:FK w ((w.alloc (wq #[I O 14,J t,I Z nm,I Z pl,s] 25)).alloc (wq #[I O 0,I Z 0,J ⟨#[]⟩] 58)):=((EP _ w).alloc (EO _) _).alloc (by simp) _;obtain⟨i,f,_⟩:=ap w (wq #[I O 14,J t,I Z nm,I Z pl,s] 25) (wq #[I O 0,I Z 0,J ⟨#[]⟩] 58);obtain⟨w1,l⟩:=zzx (((w.alloc (wq #[I O 14,J t,I Z nm,I Z pl,s] 25)).alloc (wq #[I O 0,I Z 0,J ⟨#[]⟩] 58)));rw[←l]at d i f;obtain⟨x,N,j,m,y⟩:=zz5 d i f l (fun W=>jW (dr t) W (by have:=pm t;omega));have hle:=nL (dr t).data.toList;have H:Hid (ja t=if dN t.data.toList then -(((number (dr t).data.toList).getD 0:Nat):Int) else (((number (dr t).data.toList).getD 0:Nat):Int)):=by
   show ja t=_
   unfold ja;rw[pf]
  obtain⟨a0,a1,a2,a3,a4⟩:=cells5 i;have a:=zE v;clear d i f l b g;generalize (number (dr t).data.toList).getD 0=n at *;have S:(n:Int)≤9223372036854775807:=by unfold kR at hle;omega
  have P:(0:Int)≤n:=by omega
  have fin:∀(z:Int),ja t=z→∀(W:wD),FK w1 W→∀(tmps:Array wF),tmps.getD 2 undef=xV (Y ⟨w.heap.size+1,0,U⟩)→bodyPost xD Tryz.f151 (fun e w'=>e=z8 (xS (nK (aF (.mk 14 t nm pl M))).toArray)∧FK w w') .ret ⟨tmps,[]⟩ (((W.setCell ⟨w.heap.size+1,0,U⟩ (I O 1)).setCell ⟨w.heap.size+1,1,U⟩ (I Z z)).setCell ⟨w.heap.size+1,2,U⟩ (J ⟨#[]⟩)):=by
   intro z p W K tmps Q;have C:=(EN.1 j.o).1;have R:=aa K j.o C;have hB:=x.o.trans (K.mono x.o.size);refine rp Tryz.results151 _ _ (w.heap.size+1) (I O 1) (I Z z) (J ⟨#[]⟩) ?_ tmps Q ⟨?_,((hB.setCell (by simp) _).setCell (by simp) _).setCell (by simp) _⟩
   ·rw[heap_set (heap_set (heap_set R 0 _) 1 _) 2 _];rfl
   ·rw[←p];rfl
  have L:=Hd fin;clear fin
  go_enter Tryz.func151,Tryz.ntmps151
  go_upto_region 1 with fail
  change Code.wp _ _ _ _ ((w.alloc (wq #[I O 14,J t,I Z nm,I Z pl,s] 25)).alloc (wq #[I O 0,I Z 0,J ⟨#[]⟩] 58));rw[←m.o]
  cases u:dN t.data.toList with
  | true =>
   rw[u]at a;have D:t[0].toNat=45:=by simpa using a.symm
   have p:ja t=-(n:Int):=by rw[H.o,u];rfl
   have E:=Hd p;have q:Hid (dr t=t.extract 1 t.size):=by show _=_;unfold dr;rw[rv u]
   rw[q.o]at y;clear p hle a m;go_wp2_with fail
   refine (y.o w1).mono ?_;rintro e F ⟨rfl,rfl⟩;go_wp2_with fail
   refine (sq _ w1).mono ?_;rintro e F ⟨rfl,c⟩;have r:=Hd c;obtain⟨v0,v1,v2,f0,f1,f2⟩:=cells3 (aa c j.o (EN.1 j.o).1);clear c;go_wp2_with fail
   exact L.o _ E.o _ r.o _ V
  | false =>
   rw[u]at a;have D:¬t[0].toNat=45:=by simpa using a.symm
   have p:ja t=(n:Int):=by rw[H.o,u];rfl
   have E:=Hd p;have q:Hid (dr t=t):=by show _=_;unfold dr;rw[qv (by rw[u];decide)]
   rw[q.o]at y;clear p hle a m;go_wp2_with fail
   refine (y.o w1).mono ?_;rintro e F ⟨rfl,rfl⟩;go_wp2_with fail
   refine (sq _ w1).mono ?_;rintro e F ⟨rfl,c⟩;have r:=Hd c;obtain⟨v0,v1,v2,f0,f1,f2⟩:=cells3 (aa c j.o (EN.1 j.o).1);clear c;go_wp2_with fail
   exact L.o _ E.o _ r.o _ V
 ·have d:FK w ((w.alloc (wq #[I O 15,J t,I Z nm,I Z pl,s] 25)).alloc (wq #[I O 2,I Z 0,J t] 58)):=((EP _ w).alloc (EO _) _).alloc (by simp) _;obtain⟨_,f,_⟩:=ap w (wq #[I O 15,J t,I Z nm,I Z pl,s] 25) (wq #[I O 2,I Z 0,J t] 58);obtain⟨x,j⟩:=zz2 d f;clear d f g
  go_enter Tryz.func151,Tryz.ntmps151
  go_wp2_with fail
  exact rp Tryz.results151 _ _ (w.heap.size+1) _ _ _ j.o _ V ⟨V,x.o⟩
def w9:List ByteArray:=[⟨#[43]⟩,⟨#[45]⟩,⟨#[42]⟩,⟨#[61]⟩,⟨#[33,61]⟩,⟨#[60]⟩,⟨#[60,61]⟩,⟨#[97,110,100]⟩,⟨#[111,114]⟩]
def o9:List Nat:=[1,2,3,5,6,7,8,9,10]
theorem EF{k:Nat}{x:ByteArray}{t:List UInt8}(h:w9[k]?=Y x)(he:(x.data.toList==t)=true):∃o:Nat,o9[k]?=Y o∧opM t 2=((o:Int),false):=by
 have a:k<9:=(Fe.1 h).1;have he:x.data.toList=t:=by simpa using he
 subst he;have:∀k:Fin 9,∀x,w9[k.val]?=Y x→∃o:Nat,o9[k.val]?=Y o∧opM x.data.toList 2=((o:Int),false):=by
  intro k x h
  match k,h with
  | 0,h=>injection h with h;subst h;exact⟨1,V,V⟩
  | 1,h=>injection h with h;subst h;exact⟨2,V,V⟩
  | 2,h=>injection h with h;subst h;exact⟨3,V,V⟩
  | 3,h=>injection h with h;subst h;exact⟨5,V,V⟩
  | 4,h=>injection h with h;subst h;exact⟨6,V,V⟩
  | 5,h=>injection h with h;subst h;exact⟨7,V,V⟩
  | 6,h=>injection h with h;subst h;exact⟨8,V,V⟩
  | 7,h=>injection h with h;subst h;exact⟨9,V,V⟩
  | 8,h=>injection h with h;subst h;exact⟨10,V,V⟩
 exact this ⟨k,a⟩ x h
theorem Dq{t:List UInt8}(h:cg jf t=true)(a:∀(j:Nat)(z:ByteArray),w9[j]?=Y z→(z.data.toList==t)=false):t=[62]∨t=[62,61]:=by
 have c:∀z∈w9,z.data.toList≠t:=fun z f e=>by
  obtain⟨j,g⟩:=List.mem_iff_getElem?.1 f;have:=a j z g;rw[e]at this;simp at this
 unfold cg at h;obtain⟨b,d,he⟩:=List.any_eq_true.1 h;have he:b.data.toList=t:=by simpa using he
 unfold jf at d;simp only[FA,Fy,sI]at d;unfold w9 at c;simp only[FA,Fy,sI,forall_eq_or_imp,forall_eq]at c;obtain⟨i,n2,k,n4,l,n6,m,n,o⟩:=c;rcases d with rfl|rfl|rfl|rfl|rfl|rfl|rfl|rfl|rfl|rfl|rfl
 ·exact absurd he o
 ·exact absurd he n
 ·exact absurd he n4
 ·exact absurd he l
 ·exact absurd he n6
 ·exact absurd he m
 ·exact Or.inl he.symm
 ·exact Or.inr he.symm
 ·exact absurd he i
 ·exact absurd he n2
 ·exact absurd he k
def Dw(w:wD) (t:List UInt8) (i:wF) (W:wD):Prop:=∃k:Nat,k≤9∧i=I Z (k:Int)∧FK w W∧(∀(j:Nat) (z:ByteArray),j<k→w9[j]?=Y z→(z.data.toList==t)=false)∧
 W.heap[w.heap.size]?=Y (wq (w9.map J).toArray 9 (0,0))∧W.heap[w.heap.size+1]?=Y (wq (o9.map (fun (n:Nat)=>I O (n:Int))).toArray 59 (0,0))
theorem wt(t:ByteArray)(n:Nat)(w:wD)(N:(n=1∧cg kX t.data.toList=true)∨(n=2∧cg jf t.data.toList=true)) :
  xL xD 152 #[J t,I Z n] w (fun e w'=>e=z8 (CA #[I O (opM t.data.toList n).1,AJ (opM t.data.toList n).2])∧FK w w'):=by
 rcases N with ⟨rfl,P⟩|⟨rfl,H⟩
 ·clear P
  cases a:(t.data.toList==[45]) with
  | true =>
   have c:Hid (opM t.data.toList 1=(4,false)):=by show _=_;unfold opM;rw[qv (by decide),rv a]
   have b:(t.toList==[45])=true:=by rw[Fb];exact a
   clear a;rw[c.o]
   go_enter Tryz.func152,Tryz.ntmps152
   go_wp2
   go_ret2
   exact⟨V,EP _ _⟩
  | false =>
   have c:Hid (opM t.data.toList 1=(11,false)):=by show _=_;unfold opM;rw[qv (by decide),qv (by rw[a];decide)]
   have b:(t.toList==[45])=false:=by rw[Fb];exact a
   clear a;rw[c.o]
   go_enter Tryz.func152,Tryz.ntmps152
   go_wp2
   go_ret2
   exact⟨V,EP _ _⟩
 ·have m:FK w ((w.alloc (wq (w9.map J).toArray 9)).alloc (wq (o9.map (fun (n:Nat)=>I O (n:Int))).toArray 59)):=((EP _ w).alloc (EO _) _).alloc (by simp) _;obtain⟨p,q,_⟩:=ap w (wq (w9.map J).toArray 9) (wq (o9.map (fun (n:Nat)=>I O (n:Int))).toArray 59);obtain⟨g,l,D,E⟩:=zz4 p q m H;clear p q m H
  show xL xD 152 #[J t,I Z 2] w _
  go_enter Tryz.func152,Tryz.ntmps152
  go_upto_region 7 with fail
  change Code.wp _ _ _ _ ((w.alloc (wq (w9.map J).toArray 9)).alloc (wq (o9.map (fun (n:Nat)=>I O (n:Int))).toArray 59));obtain⟨K,r⟩:=zzx (((w.alloc (wq (w9.map J).toArray 9)).alloc (wq (o9.map (fun (n:Nat)=>I O (n:Int))).toArray 59)));rw[←r]at g l D ⊢;clear r
  go_wp2
  go_loopw [8] (Dw w t.data.toList) (fun i _=>9-(intOf i).toNat)
  case atStart=>exact⟨0,Fa _,V,D.o,fun j z Q=>by omega,g.o,l.o⟩
  case round =>
   obtain⟨k,W,rfl,L,s,p,q⟩:=hrel;obtain⟨d,u,v,y⟩:=zz4 L s p q;clear L s p q g l D;have R:(0:Int)≤k:=by omega
   by_cases F:k<9
   ·have S:(k:Int)<9:=by omega
    obtain⟨x,B⟩:∃x,w9[k]?=Y x:=⟨_,ES (show k<w9.length from F)⟩;have d0:wr.cell? ⟨w.heap.size,k,U⟩=Y (J x):=by
     rw[FI _ _ _ _ _ _ v.o];simp[B]
    have G:=Hd B
    cases a:(x.data.toList==t.data.toList) with
    | true =>
     obtain⟨o,M,C⟩:=EF B a;have d1:wr.cell? ⟨w.heap.size+1,k,U⟩=Y (I O o):=by
      rw[FI _ _ _ _ _ _ y.o];simp[M]
     have c:=Hd C;have b:(x.toList==t.toList)=true:=by rw[Fb,Fb];exact a
     clear a B M C;go_wp2_with fail
     go_ret2
     exact⟨by rw[c.o];rfl,d.o⟩
    | false =>
     have T:=Hd a;have b:(x.toList==t.toList)=false:=by rw[Fb,Fb];exact a
     clear a B;go_wp2_with fail
     exact⟨⟨k+1,by omega,by go_num,d.o,fun j z Q f=>by
      by_cases h:j=k
      ·subst h;rw[G.o]at f;injection f with f
       rw[←f];exact T.o
      ·exact u.o j z (by omega) f,v.o,y.o⟩,by simp[intOf];omega⟩
   ·obtain rfl:k=9:=by omega
    rcases Dq E.o (fun j z f=>u.o j z (Fe.1 f).1 f) with h|h
    ·have c:Hid (opM t.data.toList 2=(7,true)):=by show _=_;rw[h];rfl
     have b:(t.toList==[62])=true:=by rw[Fb,h];rfl
     clear h;go_wp2_with fail
     go_ret2
     exact⟨by rw[c.o];rfl,d.o⟩
    ·have c:Hid (opM t.data.toList 2=(8,true)):=by show _=_;rw[h];rfl
     have b:(t.toList==[62])=false:=by rw[Fb,h];rfl
     clear h;go_wp2_with fail
     go_ret2
     exact⟨by rw[c.o];rfl,d.o⟩
def Goes{σ:Type} (fl:Flt) (r:Except Flt σ) (fl':Flt) (P:σ→Prop):Prop:=
 (fl.1≠0→fl'=fl)∧(fl.1=0→match r with | .ok y=>fl'=fl∧P y | .error e=>fl'=e)
theorem aD.b{M:Nat}{ts:List ae}{vars:List ByteArray}{k k':Int}{fl fl':Flt}{vT vR vV a:wF}{vars':List ByteArray}{w w' b:wD}(h:aD M ts vars k vT vR vV w fl w')(c:aD M ts vars' k' vT vR a w' fl' b):aD M ts vars' k' vT vR a w fl' b:=⟨h.1.b c.1,c.2⟩
theorem aD.f{M:Nat}{ts:List ae}{vars:List ByteArray}{k:Int}{fl:Flt}{vT vR vV:wF}{w w':wD}(h:RmW M ts vars k fl vT vR vV w)(a:FK w w'):aD M ts vars k vT vR vV w fl w':=⟨Chg.f a,h.z a⟩
theorem bu{M b:Nat}{w w':wD}{o:Option Obj}(c:Chg (fun b=>b=M) w w')(h:w.heap[b]?=o)(d:b<w.heap.size)(a:b≠M):w'.heap[b]?=o:=(c.u b d a).trans h
theorem yx{ts:List ae}{T:ab}{fl:Flt} :
  Goes fl (bI ts T) (if 0≤bP (a8 T.f ts) then az (az fl (decide (bP (a8 T.f ts)<0)) 211 T.y) (!(((ts[(bP (a8 T.f ts)).toNat]?).map ae.b).getD 0==(T.u.length:Int))) 212 T.y else az fl (decide (bP (a8 T.f ts)<0)) 211 T.y) (fun i=>bP (a8 T.f ts)=(i:Int)):=by
 obtain⟨a,d⟩:=fl;unfold bI
 cases e:a8 T.f ts with
 | none =>
  unfold Goes az bP;refine⟨fun h=>?_,fun h=>?_⟩
  ·have h:¬a=0:=h;simp[h]
  ·have h:a=0:=h;subst h;simp
 | some j =>
  have c:¬((j:Int)<0):=by omega
  have b:(0:Int)≤j:=by omega
  unfold Goes az bP;simp only[c,b,decide_false,Bool.false_and,Fo,sm,sx,Int.toNat_natCast]
  by_cases he:(((ts[j]?).map ae.b).getD 0==(T.u.length:Int))=true
  ·rw[rv he,he];exact⟨fun _=>by simp,fun h=>⟨by simp,V⟩⟩
  ·rw[qv he,Bool.eq_false_iff.2 he];refine⟨fun h=>?_,fun h=>?_⟩
   ·have h:¬a=0:=h;simp[h]
   ·have h:a=0:=h;simp[h]
theorem lH{M:Nat}{ts:List ae}{vars:List ByteArray}{k:Int}{fl:Flt}{vT vR vV:wF}{w:wD}(h:RmW M ts vars k fl vT vR vV w)(T:ab)(p:Option Addr)(cap:Nat)(_hl:T.u.length≤20000) :
  xL xD 80 #[xV (Y ⟨M,0,U⟩),xS #[I O T.b,J T.f,I Z T.h,I Z T.y,A p T.u.length cap]] w (fun e w'=>∃fl' j,e=z8 (I Z j)∧I64 j∧aD M ts vars k vT vR vV w fl' w'∧Goes fl (bI ts T) fl' (fun i=>j=(i:Int))):=by
 have d:=Hd (yx (ts:=ts) (T:=T) (fl:=fl));obtain⟨n,hn⟩:=zzy (T.u.length);rw[hn]at d _hl ⊢;have al:=h.lt;have u:=Rd.tT h.t;have P:I64 (bP (a8 T.f ts))∧(bP (a8 T.f ts)=-1∨∃j:Nat,bP (a8 T.f ts)=(j:Int)∧j<ts.length):=by
  unfold I64;unfold maxLen at u
  cases s:a8 T.f ts with
  | none=>exact⟨by decide,Or.inl V⟩
  | some j =>
   have:j<(ts.map ae.a).length:=by have:=(jg _ _ 0 j s).2;omega
   rw[List.length_map]at this;exact⟨by show _≤(j:Int)∧(j:Int)<_;omega,Or.inr ⟨j,V,this⟩⟩
 obtain⟨w1,c⟩:=zzx (w.alloc (wq #[I O T.b,J T.f,I Z T.h,I Z T.y,A p n cap] 25));have hb:FK w w1:=by rw[c];exact (EP _ w).alloc (EO _) _
 have s:=p9 w (wq #[I O T.b,J T.f,I Z T.h,I Z T.y,A p n cap] 25);rw[←c]at s;obtain⟨G,H,K,L,N⟩:=cells5 s;have Q:=Hd s;have R:=aD.f h hb;obtain⟨v,HK,x⟩:=zz3 R (qy R.2 T.f) c;generalize bP (a8 T.f ts)=q at *;have S:=Hd P;obtain⟨aq,ar⟩:-9223372036854775808≤q∧q<9223372036854775808:=P.1;clear hb s R c P h u
 go_enter Tryz.func80,Tryz.ntmps80
 go_upto_region 1 with fail
 change Code.wp _ _ _ _ (w.alloc (wq #[I O T.b,J T.f,I Z T.h,I Z T.y,A p n cap] 25));rw[←x.o];clear x;go_wp2_with fail
 refine HK.o.mono ?_;rintro e w2 ⟨rfl,f⟩;obtain⟨y,g⟩:=zz2 (v.o.b (aD.f v.o.2 f)) (aa f Q.o (EN.1 Q.o).1);have z:=Hd (dI (y.o.2) (decide (q<0)) 211 T.b T.f T.h T.y p n cap);clear G H K L N f HK;obtain⟨G,H,K,L,N⟩:=cells5 g.o;go_wp2_with fail
 refine z.o.mono ?_;rintro e B ⟨rfl,l⟩;obtain⟨a,W⟩:=zz2 (y.o.b l) (bu l.1 g.o (EN.1 g.o).1 (fun e=>by have:=(EN.1 Q.o).1;omega));clear G H K L N l z;obtain⟨G,H,K,L,N⟩:=cells5 W.o
 by_cases hq:0≤q
 ·obtain⟨j,rfl,hj⟩:∃j:Nat,q=(j:Int)∧j<ts.length:=by
   rcases S.o.2 with h|h
   ·omega
   ·exact h
  rw[rv hq]at d;obtain⟨t,X⟩:∃t,ts[j]?=Y t:=⟨_,ES hj⟩;rw[Int.toNat_natCast,X]at d;change Hid (Goes fl (bI ts T) (az (az fl (decide ((j:Int)<0)) 211 T.y) (!(t.b==(n:Int))) 212 T.y) _) at d;obtain⟨bt,off,ct,vs,ad,av,a1,_,_,C,b⟩:=Rd.tS a.o.2.t X;obtain⟨rfl,_,_⟩:=gp.1 C;have d1:B.cell? ⟨bt,off+j*2+1,U⟩=Y (I Z t.b):=b 1 _ V;obtain⟨m0,m1,m2,m3,m4,m5⟩:=cQ a.o.2.m;rw[ad]at m0;have a6:(j:Int)<ts.length:=by omega
  clear X C b
  go_wp2
  go_still_tail 15,(by kernel_rfl)
  change wpList _ _ _ _ _ B.drew;obtain⟨w4,r⟩:=zzx (B.drew);have D:FK B w4:=by rw[r];exact (EP _ B).drew
  rw[←r];have E:=Hd (a.o.b (aD.f a.o.2 D));have z:=Hd (fun af=>dI (E.o.2) af 212 T.b T.f T.h T.y p n cap);clear r D;go_wp2_with fail
  refine (z.o _).mono ?_;rintro e w5 ⟨rfl,F⟩;have ak:=Hd (E.o.b F);clear F z;go_wp2_with fail
  go_ret;refine⟨_,_,V,S.o.1,ak.o,?_⟩;exact d.o
 ·rw[qv hq]at d;go_wp2_with fail
  go_ret;exact⟨_,_,V,S.o.1,a.o,d.o⟩
theorem sJ{α:Type}{r:Rd α}{t:TypeId}{w wr a d:wD}{M:Nat}{es:List α}{x:α}{vs us:List wF}{p:Option Addr}{k c g cap:Nat}(z:es.length=k)(H:M<w.heap.size)(B:w.heap.size≤wr.heap.size)
  (f:Chg (fun b=>b=M) wr a) (l:r.u wr (fun b=>ai w wr b∧(A p k c).ownBlock≠Y b) es us) (m:∀g,(A p k c).ownBlock=Y g→w.heap.size≤g)
  (C:r.at_ a (fun b=>ai w a b∧(A p k c).ownBlock≠Y b) x vs)
  (u:(A p k c).ownBlock=Y g∨a.heap.size≤g) (v:Chg (fun b=>(A p k c).ownBlock=Y b) a d) (i:d.ownsRow 0 t r.n (A (Y ⟨g,0,U⟩) (k+1) cap) (k+1) (us++vs)) :
  aH d (fun b=>ai w d b∧(A (Y ⟨g,0,U⟩) (k+1) cap).ownBlock≠Y b) t r (es++[x]) (A (Y ⟨g,0,U⟩) (k+1) cap)∧∀j,(A (Y ⟨g,0,U⟩) (k+1) cap).ownBlock=Y j→w.heap.size≤j:=by
 have D:=v.h;have E:=f.h
 let F:Nat→Prop:=fun b=>ai w a b∧(A p k c).ownBlock≠Y b
 have G:r.u a F es us:=Rd.wj (fun b h=>⟨⟨h.1.1,by have:=h.1.2;omega⟩,h.2⟩) (Rd.vk (fun b h o q=>(f.u b h.1.2 (fun e=>by have:=h.1.1;omega)).trans q) l);have s:r.u d F (es++[x]) (us++vs):=Rd.vk (fun b h o q=>(v.u b h.1.2 h.2).trans q) (Rd.wg G C);refine⟨⟨us++vs,by rw[Fc,z];exact i,Rd.wj (fun b h=>⟨⟨h.1.1,by have:=h.1.2;omega⟩,fun e=>?_⟩) s⟩,fun j e=>?_⟩
 ·injection e with e
  have e:g=b:=e;subst e;rcases u with y|y
  ·exact h.2 y
  ·have:=h.1.2;omega
 ·injection e with e
  have e:g=j:=e;subst e;rcases u with h|h
  ·exact m g h
  ·omega
theorem aD.own{M:Nat}{ts:List ae}{vars:List ByteArray}{k:Int}{c fl:Flt}{vT vR vV:wF}{F:Nat→Prop}{w g d:wD}(i:RmW M ts vars k c vT vR vV w)(h:aD M ts vars k vT vR vV w fl g)(a:Chg F g d)(hF:∀b,F b→w.heap.size≤b):aD M ts vars k vT vR vV w fl d:=by
 have l:=i.lt;have n:=h.1.h;have j:Chg (fun b=>b=M) w d:=⟨a.os.trans h.1.os,a.a.trans h.1.a,a.c.trans h.1.c,EU n a.h,fun b o e=>(a.u b (by omega) (fun f=>by have:=hF b f;omega)).trans (h.1.u b o e)⟩;exact⟨j,i.chg j ((a.u M (by omega) (fun f=>by have:=hF M f;omega)).trans h.2.m)⟩
theorem fO{σ:Type}{fl:Flt}{r:Except Flt σ}{P:σ→Prop}{y:σ}(a:r=Except.ok y)(b:P y):Goes fl r fl P:=by
 subst a;exact⟨fun _=>rfl,fun _=>⟨V,b⟩⟩
theorem CL{α β:Type}{fl:Flt}{f:α→Except Flt β}:Goes fl (bz f ([]:List α)) fl (fun ys=>([]:List β)=ys):=fO (y:=[]) V V
theorem A7{α β:Type}{fl a d:Flt}{f:α→Except Flt β}(j:∀x,ib (f x)){l:List α}{k:Nat}{x:α}{es:List β}{E:β}(p:l[k]?=Y x)
  (b:Goes fl (bz f (l.take k)) a (fun ys=>es=ys)) (c:Goes a (f x) d (fun y=>E=y)):Goes fl (bz f (l.take (k+1))) d (fun ys=>es++[E]=ys):=by
 refine⟨fun h=>?_,fun h=>?_⟩
 ·have g:=b.1 h;rw[g]at c;exact c.1 h
 ·have b:=b.2 h
  cases i:bz f (l.take k) with
  | error e =>
   rw[i]at b;have b:a=e:=b;subst b;have m:=lX j _ a i;rw[c.1 m];have:=qn (f:=f) (l:=l.take (k+1)) (k:=k) (e:=a) (by rw[List.take_take,Nat.min_eq_left (by omega)];exact i);rw[this]
  | ok ys =>
   rw[i]at b;obtain⟨g,n⟩:=b;subst g;subst n;have c:=c.2 h;rw[qU p i]
   cases o:f x with
   | error e=>rw[o]at c;exact c
   | ok y =>
    rw[o]at c;obtain⟨g,n⟩:=c;exact⟨g,by rw[n]⟩
