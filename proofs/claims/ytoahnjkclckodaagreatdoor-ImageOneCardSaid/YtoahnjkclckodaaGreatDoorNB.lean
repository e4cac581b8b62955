/- Parts of one proof, joined; conditions stand in each theorem. -/
import Derived.Test.YtoahnjkclckodaaGreatDoorMA
import Derived.Test.YtoahnjkclckodaaGreatDoorShelf
import Derived.Great.BuildSlice
import Derived.Test.YtoahnjkclckodaaGreatDoorMT
import Derived.Test.YtoahnjkclckodaaGreatDoorNG
open Go renaming World→J,Value→tT,Addr→At,TypeId→zs
open Option renaming some→A,none→Y
open Go.Value renaming slice→O
open Or renaming inl→wD,inr→wP
open Go.Proofs.Tryz renaming prog→vo
namespace Go.Proofs.YtoahnjkclckodaaGreatDoor
open Go.RowKit
structure Rd (α:Type) where
 n:Nat
 at_:J→(Nat→Prop)→α→List tT→Prop
 len:∀{w F x vs},at_ w F x vs→vs.length=n
 t:∀{w w':J} {F x vs},(∀b,F b→∀o,w.heap[b]?=A o→w'.heap[b]?=A o)→at_ w F x vs→at_ w' F x vs
 D:∀{w:J} {F G:Nat→Prop} {x vs},(∀b,F b→G b)→at_ w F x vs→at_ w G x vs
 one:∀{w F x vs},at_ w F x vs→∀u∈vs,u.oneCell'=true
def Rd.h{α:Type} (r:Rd α) (w:J) (F:Nat→Prop) (xs:List α) (v:tT):Prop:=
 (xs=[]∧∃p c,v=O p 0 c)∨∃b off cap,xs≠[]∧F b∧b<w.heap.size∧xs.length≤cap∧cap≤maxLen∧v=O (A ⟨b,off,Y⟩) xs.length cap∧
  ∀i x,xs[i]?=A x→∃vs,r.at_ w F x vs∧∀m u,vs[m]?=A u→w.cell? ⟨b,off+i*r.n+m,Y⟩=A u
theorem zK{w w':J}{b:Nat}(h:∀o,w.heap[b]?=A o→w'.heap[b]?=A o){i:Nat}{u:tT}(a:w.cell? ⟨b,i,Y⟩=A u):w'.cell? ⟨b,i,Y⟩=A u:=by
 obtain⟨o,d⟩:∃o,w.heap[b]?=A o:=by
  cases f:w.heap[b]? with
  | none=>unfold World.cell? at a;simp[f]at a
  | some o=>exact⟨o,Z⟩
 have e:w'.heap[b]?=w.heap[b]?:=(h o d).trans d.symm;have:w'.cell? ⟨b,i,Y⟩=w.cell? ⟨b,i,Y⟩:=by unfold World.cell?;simp only[e]
 rw[this];exact a
section
variable {α:Type} {r:Rd α} {w w':J} {F G:Nat→Prop} {xs:List α} {v:tT}
theorem Rd.sb(d:∀b,F b→∀o,w.heap[b]?=A o→w'.heap[b]?=A o)(h:r.h w F xs v):r.h w' F xs v:=by
 rcases h with h|⟨b,off,cap,g,e,f,j,k,l,q⟩
 ·exact wD h
 ·have a:b<w'.heap.size:=(Fx.1 (d b e _ (Array.getElem?_eq_getElem f))).1;refine wP ⟨b,off,cap,g,e,a,j,k,l,fun i x t=>?_⟩;obtain⟨vs,y,z⟩:=q i x t;exact⟨vs,r.t d y,fun m u hu=>zK (d b e) (z m u hu)⟩
theorem Rd.sv(d:∀b,F b→G b)(h:r.h w F xs v):r.h w G xs v:=by
 rcases h with h|⟨b,off,cap,e,f,a,g,j,k,l⟩
 ·exact wD h
 ·refine wP ⟨b,off,cap,e,d b f,a,g,j,k,fun i x m=>?_⟩;obtain⟨vs,o,q⟩:=l i x m;exact⟨vs,r.D d o,q⟩
theorem Rd.q(h:r.h w F xs v):∃p c,v=O p xs.length c:=by
 rcases h with ⟨rfl,p,c,rfl⟩|⟨b,off,cap,d,e,_,f,g,a,i⟩
 ·exact⟨p,c,Z⟩
 ·exact⟨_,_,a⟩
theorem Rd.th{p:Option At}{c:Nat}:r.h w F [] (O p 0 c):=wD ⟨Z,p,c,Z⟩
theorem Rd.K{i:Nat}{x:α}(h:r.h w F xs v)(d:xs[i]?=A x):∃b off cap vs,v=O (A ⟨b,off,Y⟩) xs.length cap∧xs.length≤cap∧cap≤maxLen∧F b∧b<w.heap.size∧r.at_ w F x vs∧∀m u,vs[m]?=A u→w.cell? ⟨b,off+i*r.n+m,Y⟩=A u:=by
 rcases h with ⟨rfl,_⟩|⟨b,off,cap,q,e,a,f,g,j,k⟩
 ·simp at d
 ·obtain⟨vs,l,o⟩:=k i x d;exact⟨b,off,cap,vs,j,f,g,e,a,l,o⟩
theorem Rd.N(h:r.h w F xs v):xs.length≤maxLen:=by
 rcases h with ⟨rfl,_⟩|⟨b,off,cap,a,d,_,e,f,_⟩
 ·exact FR _
 ·omega
end
def Rd.u(k:IntKind) (lo hi:Int):Rd Int where
 n:=1
 at_ _ _ x vs:=vs=[Value.int k x]∧lo≤x∧x<hi
 len h:=by rw[h.1];rfl
 t _ h:=h
 D _ h:=h
 one h:=by rw[h.1];intro u hu;obtain rfl:=List.mem_singleton.1 hu;rfl
def Rd.int:Rd Int:=Rd.u IntKind.i64 (-9223372036854775808) 9223372036854775808
def Rd.u8:Rd Int:=Rd.u IntKind.u8 0 256
def Rd.str:Rd ByteArray where
 n:=1
 at_ _ _ x vs:=vs=[Value.string x]∧x.size≤maxLen
 len h:=by rw[h.1];rfl
 t _ h:=h
 D _ h:=h
 one h:=by rw[h.1];intro u hu;obtain rfl:=List.mem_singleton.1 hu;rfl
def Rd.list{α:Type} (r:Rd α):Rd (List α) where
 n:=1
 at_ w F xs vs:=∃v,vs=[v]∧r.h w F xs v
 len:=by rintro w F x vs ⟨v,rfl,_⟩;rfl
 t:=by rintro w w' F x vs a ⟨v,rfl,h⟩;exact⟨v,Z,Rd.sb a h⟩
 D:=by rintro w F G x vs b ⟨v,rfl,h⟩;exact⟨v,Z,Rd.sv b h⟩
 one:=by
  rintro w F x vs ⟨v,rfl,h⟩ u hu;obtain rfl:=List.mem_singleton.1 hu;obtain⟨p,c,rfl⟩:=Rd.q h;rfl
def Rd.X{α β:Type} (r:Rd α) (s:Rd β):Rd (α×β) where
 n:=r.n+s.n
 at_ w F x vs:=∃us ws,vs=us++ws∧r.at_ w F x.1 us∧s.at_ w F x.2 ws
 len:=by rintro w F x vs ⟨us,ws,rfl,a,b⟩;rw[FT,r.len a,s.len b]
 t:=by rintro w w' F x vs d ⟨us,ws,rfl,a,b⟩;exact⟨us,ws,Z,r.t d a,s.t d b⟩
 D:=by rintro w F G x vs e ⟨us,ws,rfl,a,b⟩;exact⟨us,ws,Z,r.D e a,s.D e b⟩
 one:=by
  rintro w F x vs ⟨us,ws,rfl,a,b⟩ u hu;rcases List.mem_append.1 hu with h|h
  ·exact r.one a u h
  ·exact s.one b u h
def Rd.as{α β:Type} (r:Rd α) (f:β→α):Rd β where
 n:=r.n
 at_ w F x vs:=r.at_ w F (f x) vs
 len h:=r.len h
 t a h:=r.t a h
 D b h:=r.D b h
 one h:=r.one h
section
variable {α:Type} {r:Rd α} {w w':J} {F G:Nat→Prop} {xs:List α} {x:α} {v:tT} {vs:List tT}
theorem Rd.sm(h:r.h w F xs v){B:Nat}(hF:∀b,F b→b<B)(a:Below B w w'):r.h w' F xs v:=
 Rd.sb (fun b d _ e=>(a.block b (hF b d)).trans e) h
def Rd.z(r:Rd α) (w:J) (F:Nat→Prop) (xs:List α) (us:List tT):Prop:=us.length=xs.length*r.n∧∀i x,xs[i]?=A x→∃vs,r.at_ w F x vs∧∀m u,vs[m]?=A u→us[i*r.n+m]?=A u
theorem Rd.tk:r.z w F [] []:=⟨by simp,fun i x a=>by simp at a⟩
theorem Rd.sI{us:List tT}(h:r.z w F xs us)(d:r.at_ w F x vs):r.z w F (xs++[x]) (us++vs):=by
 obtain⟨e,f⟩:=h;have g:=r.len d;refine⟨by rw[FT,e,g,FT,Gi,Nat.add_mul,Nat.one_mul],fun i y a=>?_⟩
 by_cases hi:i<xs.length
 ·rw[Gf hi]at a;obtain⟨ws,j,k⟩:=f i y a;refine⟨ws,j,fun m u hu=>?_⟩;have:=k m u hu;rw[Gf (FU.1 this).1];exact this
 ·have b:=(FU.1 a).1;rw[FT,Gi]at b;obtain rfl:i=xs.length:=by omega
  rw[F7 (Fy _),Nat.sub_self]at a;simp only[List.getElem?_cons_zero,o7]at a;subst a;refine⟨vs,d,fun m u hu=>?_⟩;rw[←e,F7 (Nat.le_add_right _ _),Nat.add_sub_cancel_left];exact hu
theorem Rd.tv{us:List tT}(a:∀b,F b→∀o,w.heap[b]?=A o→w'.heap[b]?=A o)(h:r.z w F xs us):r.z w' F xs us:=
 ⟨h.1,fun i x d=>by obtain⟨vs,e,f⟩:=h.2 i x d;exact⟨vs,r.t a e,f⟩⟩
theorem Rd.tE{us:List tT}(a:∀b,F b→G b)(h:r.z w F xs us):r.z w G xs us:=
 ⟨h.1,fun i x d=>by obtain⟨vs,e,f⟩:=h.2 i x d;exact⟨vs,r.D a e,f⟩⟩
theorem Rd.row_own{us:List tT}{base:Nat}{e:zs}(a:w.ownsRow base e r.n v xs.length us)(f:r.z w F xs us)(hF:∀g,v.ownBlock=A g→F g):r.h w F xs v:=by
 obtain⟨t,⟨rfl,h⟩|⟨g,cap,cur,rfl,y,b,j,k,z,l⟩⟩:=a
 ·have:xs=[]:=F5 h;subst this;exact wD ⟨Z,Y,0,Z⟩
 ·by_cases d:xs=[]
  ·subst d;exact wD ⟨Z,_,_,Z⟩
  ·refine wP ⟨g,0,cap,d,hF g Z,(Fx.1 b).1,j,k,Z,fun i x hi=>?_⟩;obtain⟨vs,o,q⟩:=f.2 i x hi;refine⟨vs,o,fun m u hu=>?_⟩;have:=q m u hu;rw[←l,List.getElem?_take]at this
   split at this
   ·rw[Gk _ _ _ _ _ _ b,Nat.zero_add]
    simpa using this
   ·cases this
end
structure Elem (E S:zs) (n bytes:Nat):Prop where
 und:Tryz.prog.underlying S=A (.slice E)
 info:∃i z,Tryz.prog.info? E=A i∧i.zero=A z∧i.size=n∧i.bytes=bytes∧z.cells.size=n
 pos:0<n
 small:n≤64∧bytes≤1000
theorem Elem.of{E S:zs}{n bytes:Nat}{z:tT}(hu:Tryz.prog.underlying S=A (.slice E))(hi:(Tryz.prog.info? E).map (fun i=>(i.zero,i.size,i.bytes))=A (A z,n,bytes))(a:z.cells.size=n)(b:0<n)(d:n≤64∧bytes≤1000):Elem E S n bytes:=by
 obtain⟨i,e,f,g,h⟩:=info_parts hi;exact⟨hu,⟨i,z,e,f,g,h,a⟩,b,d⟩
theorem foldl_set:∀(l:List tT) (k:Nat) (a:Array tT),k+l.length≤a.size→∀i,((l.zipIdx k).foldl (fun cs (p:tT×Nat)=>cs.setIfInBounds (0+p.2) p.1) a)[i]?=if k≤i∧i<k+l.length then l[i-k]? else a[i]?
 | [],k,a,_,i=>by simp;omega
 | x::l,k,a,h,i=>by
  rw[F9]at h;rw[List.zipIdx_cons,List.foldl_cons,foldl_set l (k+1) _ (by simp;omega) i];rw[F9]
  by_cases d:i=k
  ·subst d;rw[oB (by omega),oE (by omega),Nat.zero_add,Array.getElem?_setIfInBounds_self,oE (by omega),Nat.sub_self];rfl
  ·by_cases b:k+1≤i∧i<k+1+l.length
   ·rw[oE b,oE (by omega),show i-k=(i-(k+1))+1 by omega,Gg]
   ·rw[oB b,oB (by omega),Nat.zero_add,Array.getElem?_setIfInBounds_ne (by omega)]
theorem Dc(n:Nat)(cells:Array tT)(v:tT)(e:cells.size=1*n)(d:v.cells.size=n):Instr.fill (fun i=>A (i*n,n)) cells [(0,v)]=A v.cells:=by
 have a:(decide (v.cells.size≠n)||decide (0*n+v.cells.size > cells.size))=false:=by
  have b:cells.size=n:=by omega
  rw[Nat.zero_mul,d,b];simp
 unfold Instr.fill;dsimp only;rw[a];unfold Instr.fill;simp only[F4,o1,Nat.zero_mul]
 congr 1
 rw[←Array.foldl_toList,Array.toList_zipIdx];apply Array.ext_getElem?;intro i;have h:=foldl_set v.cells.toList 0 cells (by rw[F6,d,e];omega) i;rw[h];have f:v.cells.toList.length=v.cells.size:=F6
 by_cases hi:i<n
 ·rw[oE (by omega)];simp
 ·rw[oB (by omega),Gh (by omega),Gh (by omega)]
section
variable {E S:zs} {sz bytes:Nat}
def One(E:zs) (L:Nat) (vs:List tT) (W:J) (v:tT):Prop:=∃g,v=O (A ⟨g,0,Y⟩) 1 1∧L≤g∧W.heap[g]?=A (Obj.cells vs.toArray E (0,0))
theorem One.C{L:Nat}{vs:List tT}{W W':J}{v:tT}(h:One E L vs W v)(b:Gl W W'):One E L vs W' v:=by
 obtain⟨g,d,e,a⟩:=h;exact⟨g,d,e,aa b a (Fx.1 a).1⟩
theorem dU(e:Elem E S sz bytes){o:Oper}{a:Act}{W:J}{G:tT→J→Prop}{L:Nat}{vs:List tT}(x:Operand)(i:o.op=.buildSlice S 1 #[(0,x)])(h:(a.eval x).cells=vs.toArray)(j:vs.length=sz)(k:L≤W.heap.size)
  (l:∀v W',Gl W W'→One E L vs W' v→G v W'):RE.Upon vo o a W G:=by
 obtain⟨i0,z,f,g,b,m,q⟩:=e.info;have d:(execOp a.eval o).run vo W=.ok (.value (O (A ⟨W.heap.size,0,Y⟩) 1 1)) (W.alloc (Obj.cells vs.toArray E)):=by
  unfold execOp;simp only[i,ph]
  rw[run_buildSlice W S E 1 _ vs.toArray i0 z e.und f g (by rw[b];have:=e.small;omega) (by rw[b];have:=e.pos;omega) (by
   have t:(#[(0,x)].map fun (x:Nat×Operand)=>(x.1,a.eval x.2)).toList=[(0,a.eval x)]:=by simp
   rw[t,b]
   rw[Dc sz _ _ (by simp) (by rw[h];simpa using j),h])]
  rfl
 exact RE.upon_run d (l _ _ ((Fz _ W).alloc (Fy _) _) ⟨_,Z,k,oA W _⟩)
theorem qQ(l:Elem E S sz bytes){W:J}{p:Option At}{n c g9:Nat}{xs z:List tT}(ty:zs)(d:W.ownsRow 0 E sz (O p n c) n xs)(hz:W.heap[g9]?=A (Obj.cells z.toArray E (0,0)))(ad:z.length=sz)(N:∀u∈z,u.oneCell'=true)(hn:n≤10000) :
  ∃k w',(Builtin.append_ #[S,S] ty #[O p n c,O (A ⟨g9,0,Y⟩) 1 1]).run vo W=.ok k w'∧w'.ownsRow 0 E sz k (n+1) (xs++z)∧
   ((n<c∧∃g,p=A ⟨g,0,Y⟩∧k=O p (n+1) c∧W.grownBy w' (A g))∨(¬n<c∧∃cap,k=O (A ⟨W.heap.size,0,Y⟩) (n+1) cap∧Gl W w')):=by
 obtain⟨i0,zz,m,y,f,B,C⟩:=l.info;have D:=l.small;have H:=l.pos;have a:∀j u,z[j]?=A u→W.cell? ((⟨g9,0,Y⟩:At).add j)=A u:=fun j u hj=>by
  have e:(⟨g9,0,Y⟩:At).add j=⟨g9,j,Y⟩:=by
   unfold Addr.add
   by_cases K:j=0
   ·subst K;rfl
   ·rw[oB K];simp
  rw[e,Gk _ _ _ _ _ _ hz]
  simpa using hj
 have L:(n+1)*bytes≤140737488355328:=by
  have:(n+1)*bytes≤10001*1000:=Nat.mul_le_mul (by omega) D.2;omega
 obtain⟨k,w',Q,b,i⟩:=lm (P:=vo) W 0 S ty E i0 zz sz bytes l.und m y f B C H (O p n c) n xs d ⟨g9,0,Y⟩ 1 1 z (by omega) a N (by unfold maxLen;omega) L (FR _) (by decide);refine⟨k,w',Q,b,?_⟩;rcases i with ⟨g,cap,q,M,e3⟩|⟨cap,q,M⟩
 ·injection q with f1 f2 f3
  subst f1;subst f3;subst M
  left
  refine⟨?_,g,Z,Z,e3⟩;rcases b.2 with ⟨h,_⟩|⟨_,_,_,h,_,_,h2,_⟩
  ·cases h
  ·injection h with _ _ R
   omega
 ·right
  refine⟨fun hc=>?_,cap,q,M⟩;rcases d.2 with ⟨h,K⟩|⟨g,T,cur,h,_,V,h2,R,h4,h5⟩
  ·injection h with _ _ R;omega
  ·injection h with f1 _ f3
   subst f1;subst f3
   have o:=run_append_room (P:=vo) W S ty E i0 l.und m g n c cur V ⟨g9,0,Y⟩ 1 1 z (by rw[f];omega) a N (by omega) (by
    rw[f,h4];have:=Nat.mul_le_mul_right sz (show n+1≤c from hc);rw[Nat.add_mul,Nat.one_mul]at this
    omega)
   rw[Q]at o;injection o with X _
   rw[q]at X;injection X with t _ _
   injection t with t
   injection t with t
   have:=(Fx.1 V).1;omega
def ApS(E:zs) (sz:Nat) (w4:J) (p:Option At) (n c:Nat) (row:List tT) (W:J):Prop:=
 if n<c then Chg (fun x=>(O p n c).ownBlock=A x) w4 W∧W.ownsRow 0 E sz (O p (n+1) c) (n+1) row else ∃x:Wb w4,W=x.1
def ApV(E:zs) (sz:Nat) (w4:J) (p:Option At) (n c:Nat) (row:List tT) (W:J) (v:tT):Prop:=
 if n<c then v=O p (n+1) c∧∃g,p=A ⟨g,0,Y⟩ else ∃g cap,v=O (A ⟨g,0,Y⟩) (n+1) cap∧w4.heap.size≤g∧W.ownsRow 0 E sz v (n+1) row
def ApR(w4 W W':J):Prop:=∀b,w4.heap.size≤b→b<W.heap.size→W'.heap[b]?=W.heap[b]?
theorem ApR.t{w4 W W':J}(h:Gl W W'):ApR w4 W W':=fun b _ a=>h.block b a
theorem ApV.t{w4 W W':J}{p:Option At}{n c:Nat}{row:List tT}{v:tT}(h:ApV E sz w4 p n c row W v)(j:ApR w4 W W'):ApV E sz w4 p n c row W' v:=by
 unfold ApV at *
 split
 ·rename_i b;rw[oE b]at h;exact h
 ·rename_i b
  rw[oB b]at h;obtain⟨g,cap,d,e,f⟩:=h;refine⟨g,cap,d,e,cO f fun i a=>?_⟩;have k:=(aL f i a).2;rw[d]at a;injection a with a
  have a:g=i:=a;subst a;exact j g e k
theorem One.t{w4 W W':J}{vs:List tT}{v:tT}(h:One E w4.heap.size vs W v)(d:ApR w4 W W'):One E w4.heap.size vs W' v:=by
 obtain⟨g,e,a,b⟩:=h;exact⟨g,e,a,(d g a (Fx.1 b).1).trans b⟩
theorem iF(M:Elem E S sz bytes){o:Oper}{a:Act}{W w4:J}{G:tT→J→Prop}{n c:Nat}{vs:List tT}{p:Option At}{xs:List tT}(s y:Operand)(q:o.op=.call { callee:=.builtin .append,args:=#[s,y],argTypes:=#[S,S] })
  (N:a.eval s=O p n c) (t:One E w4.heap.size vs W (a.eval y)) (P:vs.length=sz) (Q:∀u∈vs,u.oneCell'=true) (h:Gl w4 W) (i:w4.ownsRow 0 E sz (O p n c) n xs) (R:n≤10000)
  (K:∀m W',ApS E sz w4 p n c (xs++vs) W'→ApR w4 W W'→ApV E sz w4 p n c (xs++vs) W' m→G m W'):RE.Upon vo o a W G:=by
 obtain⟨g9,t,_,B⟩:=t;obtain⟨m,w',T,f,j⟩:=qQ M (p:=p) (c:=c) (z:=vs) o.type (gj i h) B P Q R;have k:(execOp a.eval o).run vo W=.ok (.value m) w':=by simp[execOp,q,resolve,invoke,builtin,N,t,T,Result.andThen]
 refine RE.upon_run k ?_;rcases j with ⟨l,g,rfl,rfl,d⟩|⟨l,cap,rfl,C⟩
 ·have V:g<w4.heap.size:=(aL i g Z).2;refine K _ _ ?_ (fun b C D=>d.block b D (fun e=>by injection e with e;omega)) ?_
  ·unfold ApS;rw[oE l];refine⟨⟨d.os.trans h.os,d.tape.trans h.tape,d.output.trans h.output,FH h.size d.size,fun x L H=>?_⟩,f⟩;exact (d.block x (FG L h.size) (fun e=>H e.symm)).trans (h.block x L)
  ·unfold ApV;rw[oE l];exact⟨Z,g,Z⟩
 ·refine K _ _ ?_ (ApR.t C) ?_
  ·unfold ApS;rw[oB l];exact⟨⟨w',h.trans (C.mono h.size)⟩,Z⟩
  ·unfold ApV;rw[oB l];exact⟨_,cap,Z,h.size,f⟩
theorem ju{w4 W:J}{p:Option At}{n c:Nat}{row:List tT}{v:tT}(a:ApS E sz w4 p n c row W)(b:ApV E sz w4 p n c row W v) :
  ∃g cap,v=O (A ⟨g,0,Y⟩) (n+1) cap∧((O p n c).ownBlock=A g∨w4.heap.size≤g)∧Chg (fun x=>(O p n c).ownBlock=A x) w4 W∧W.ownsRow 0 E sz (O (A ⟨g,0,Y⟩) (n+1) cap) (n+1) row:=by
 unfold ApS at a;unfold ApV at b
 by_cases e:n<c
 ·rw[oE e]at a b;obtain⟨f,d⟩:=a;obtain⟨rfl,g,rfl⟩:=b;exact⟨g,c,Z,wD Z,f,d⟩
 ·rw[oB e]at a b;obtain⟨x,rfl⟩:=a;obtain⟨g,cap,rfl,d,h⟩:=b;exact⟨g,cap,Z,wP d,Chg.t x.2,h⟩
theorem ApS.C{w4 W W':J}{p:Option At}{n c:Nat}{row:List tT}(h:ApS E sz w4 p n c row W)(a:Gl W W'):ApS E sz w4 p n c row W':=by
 unfold ApS at *
 by_cases b:n<c
 ·rw[oE b]at h ⊢;exact⟨h.1.h (Chg.t a),gj h.2 a⟩
 ·rw[oB b]at h ⊢;obtain⟨x,rfl⟩:=h;exact⟨⟨W',x.2.trans (a.mono x.2.size)⟩,Z⟩
theorem ApS.u{w4 W:J}{p:Option At}{n c:Nat}{row:List tT}(h:ApS E sz w4 p n c row W):w4.heap.size≤W.heap.size:=by
 unfold ApS at h
 split at h
 ·exact h.1.u
 ·obtain⟨x,rfl⟩:=h;exact x.2.size
def phA(E:zs) (sz:Nat) (w4:J) (p:Option At) (n c:Nat) (vs row:List tT) (i j k:Nat) (W:J) (ys:List tT):Prop:=
 if k=i then One E w4.heap.size vs W (ys.getD 0 undef) else if k=j then ApV E sz w4 p n c row W (ys.getD 0 undef) else True
theorem phA.t{w4:J}{p:Option At}{n c:Nat}{vs row:List tT}{i j k:Nat}{W W':J}{ys:List tT}(h:phA E sz w4 p n c vs row i j k W ys)(b:ApR w4 W W'):phA E sz w4 p n c vs row i j k W' ys:=by
 unfold phA at *
 split
 ·rename_i a;rw[oE a]at h;exact h.t b
 ·rename_i a
  rw[oB a]at h
  split
  ·rename_i d;rw[oE d]at h;exact h.t b
  ·trivial
def stA(E:zs) (sz:Nat) (w4:J) (p:Option At) (n c:Nat) (row:List tT) (s:Nat) (W:J):Prop:=if s=0 then (∃x:Wb w4,W=x.1) else ApS E sz w4 p n c row W
theorem stA.C{w4:J}{p:Option At}{n c:Nat}{row:List tT}{s:Nat}{W W':J}(h:stA E sz w4 p n c row s W)(b:Gl W W'):stA E sz w4 p n c row s W':=by
 unfold stA at *
 split
 ·rename_i a
  rw[oE a]at h;obtain⟨x,rfl⟩:=h;exact⟨⟨W',x.2.trans (b.mono x.2.size)⟩,Z⟩
 ·rename_i a
  rw[oB a]at h;exact h.C b
theorem stA.u{w4:J}{p:Option At}{n c:Nat}{row:List tT}{s:Nat}{W:J}(h:stA E sz w4 p n c row s W):w4.heap.size≤W.heap.size:=by
 unfold stA at h
 split at h
 ·obtain⟨x,rfl⟩:=h;exact x.2.size
 ·exact h.u
theorem stA.zero{w4:J}{p:Option At}{n c:Nat}{row:List tT}:stA E sz w4 p n c row 0 w4.drew:=⟨⟨w4.drew,(Fz _ _).drew⟩,Z⟩
def Ks(w:J) (K:Nat→Prop):={W:J // ∀b,K b→W.heap[b]?=w.heap[b]?}
instance (w:J) (K:Nat→Prop):Nonempty (Ks w K):=⟨⟨w,fun _ _=>rfl⟩⟩
theorem Ks.h{w:J}{K:Nat→Prop}(x:Ks w K){b o:Nat}(a:K b){v:tT}(h:w.cell? ⟨b,o,Y⟩=A v):x.1.cell? ⟨b,o,Y⟩=A v:=by
 have e:x.1.cell? ⟨b,o,Y⟩=w.cell? ⟨b,o,Y⟩:=by unfold World.cell?;rw[x.2 b a]
 rw[e];exact h
theorem jp{w4:J}{p:Option At}{n c:Nat}{row:List tT}{K:Nat→Prop}(d:∀b,K b→b<w4.heap.size∧(O p n c).ownBlock≠A b):∀(m s:Nat) (W:J),s≤m→stA E sz w4 p n c row s W→∃x:Ks w4 K,W=x.1:=fun m s W _ h=>by
 unfold stA at h;refine⟨⟨W,fun b f=>?_⟩,Z⟩;obtain⟨a,g⟩:=d b f
 split at h
 ·obtain⟨x,rfl⟩:=h;exact x.2.block b a
 ·unfold ApS at h
  split at h
  ·exact h.1.q b a (fun e=>g e)
  ·obtain⟨x,rfl⟩:=h;exact x.2.block b a
end
def aw{α:Type} (W:J) (F:Nat→Prop) (E:zs) (r:Rd α) (xs:List α) (v:tT):Prop:=∃us,W.ownsRow 0 E r.n v xs.length us∧r.z W F xs us
section
variable {α β:Type} {W W':J} {F F' G:Nat→Prop} {E E2:zs} {r:Rd α} {s:Rd β} {xs:List α} {ys:List β} {v v2:tT}
theorem aw.nil:aw W F E r [] (O Y 0 0):=⟨[],World.ownsRow_nil _ _ _ _,Rd.tk⟩
theorem aw.lt(h:aw W F E r xs v){g:Nat}(a:v.ownBlock=A g):g<W.heap.size:=by
 obtain⟨us,b,_⟩:=h;exact (aL b g a).2
theorem aw.u(h:aw W F E r xs v){g:Nat}(a:v.ownBlock=A g):∃cs,W.heap[g]?=A (Obj.cells cs E (0,0)):=by
 obtain⟨us,⟨_,b⟩,_⟩:=h;rcases b with ⟨rfl,_⟩|⟨d,cap,cur,rfl,_,e,_⟩
 ·cases a
 ·injection a with a
  have a:d=g:=a;subst a;exact⟨cur,e⟩
theorem aw.K(h:aw W F E r xs v)(k:aw W G E2 s ys v2)(b:E≠E2){g:Nat}(d:v.ownBlock=A g):v2.ownBlock≠A g:=fun e=>by
 obtain⟨cs,f⟩:=h.u d;obtain⟨i,a⟩:=k.u e;rw[f]at a;injection a with a
 injection a with _ a
 exact b a
theorem aw.q(h:aw W F E r xs v):∃p c,v=O p xs.length c:=by
 obtain⟨us,⟨_,a⟩,_⟩:=h;rcases a with ⟨rfl,b⟩|⟨d,cap,cur,rfl,_,_,e,_⟩
 ·exact⟨Y,0,by rw[b]⟩
 ·exact⟨_,_,Z⟩
theorem aw.t(a:∀g,v.ownBlock=A g→W'.heap[g]?=W.heap[g]?)(d:∀b,F b→∀o,W.heap[b]?=A o→W'.heap[b]?=A o)(e:∀b,F b→F' b)(h:aw W F E r xs v):aw W' F' E r xs v:=by
 obtain⟨us,f,i⟩:=h;exact⟨us,cO f a,Rd.tE e (Rd.tv d i)⟩
theorem aw.other(h:aw W F E r xs v)(a:Chg (fun x=>v2.ownBlock=A x) W W')(f:∀g,v.ownBlock=A g→v2.ownBlock≠A g)(hF:∀b,F b→b<W.heap.size∧v2.ownBlock≠A b)(i:∀b,F b→F' b):aw W' F' E r xs v:=
 h.t (fun g d=>a.q g (h.lt d) (f g d)) (fun b e _ j=>(a.q b (hF b e).1 (hF b e).2).trans j) i
theorem aw.C(h:aw W F E r xs v)(a:Gl W W')(hF:∀b,F b→b<W.heap.size)(d:∀b,F b→F' b):aw W' F' E r xs v:=
 h.t (fun g e=>a.block g (h.lt e)) (fun b f _ i=>(a.block b (hF b f)).trans i) d
theorem aw.z(h:aw W F E r xs v){M:Nat}(d:v.ownBlock≠A M)(a:∀b,F b→b≠M)(f:∀b,F b→F' b)(hw:∀b,b≠M→W'.heap[b]?=W.heap[b]?):aw W' F' E r xs v:=
 h.t (fun g i=>hw g (fun e=>d (e ▸ i))) (fun b j _ k=>(hw b (a b j)).trans k) f
theorem aw.h(h:aw W F E r xs v)(a:∀b,F b→G b)(d:∀g,v.ownBlock=A g→G g):r.h W G xs v:=by
 obtain⟨us,e,f⟩:=h;exact Rd.row_own e (Rd.tE a f) d
theorem aw.D(h:aw W F E r xs v)(a:∀b,F b→F' b):aw W F' E r xs v:=h.t (fun _ _=>rfl) (fun _ _ _ d=>d) a
end
section
variable {E S:zs} {sz bytes:Nat} {W W1 W' w5:J} {n c:Nat} {p:Option At} {row:List tT} {v:tT}
theorem vx(C:Elem E S sz bytes){o:Oper}{a:Act}{L:Nat}{G:tT→J→Prop}{vs xs:List tT}(s y:Operand)(l:o.op=.call { callee:=.builtin .append,args:=#[s,y],argTypes:=#[S,S] })
  (D:a.eval s=O p n c) (m:One E L vs W (a.eval y)) (H:vs.length=sz) (K:∀u∈vs,u.oneCell'=true) (h:W.ownsRow 0 E sz (O p n c) n xs) (M:n≤10000)
  (B:∀k W',ApS E sz W p n c (xs++vs) W'→ApV E sz W p n c (xs++vs) W' k→G k W'):RE.Upon vo o a W G:=by
 obtain⟨g9,m,_,q⟩:=m;obtain⟨k,w',N,b,f⟩:=qQ C (p:=p) (c:=c) (z:=vs) o.type h q H K M;have i:(execOp a.eval o).run vo W=.ok (.value k) w':=by simp[execOp,l,resolve,invoke,builtin,D,m,N,Result.andThen]
 refine RE.upon_run i ?_;rcases f with ⟨j,g,rfl,rfl,d⟩|⟨j,cap,rfl,P⟩
 ·refine B _ _ ?_ ?_
  ·unfold ApS;rw[oE j];exact⟨⟨d.os,d.tape,d.output,d.size,fun x Q t=>d.block x Q (fun e=>t e.symm)⟩,b⟩
  ·unfold ApV;rw[oE j];exact⟨Z,g,Z⟩
 ·refine B _ _ ?_ ?_
  ·unfold ApS;rw[oB j];exact⟨⟨w',P⟩,Z⟩
  ·unfold ApV;rw[oB j];exact⟨_,cap,Z,Fy _,b⟩
theorem ApS.chg(h:ApS E sz W1 p n c row W):Chg (fun x=>(O p n c).ownBlock=A x) W1 W:=by
 unfold ApS at h
 split at h
 ·exact h.1
 ·obtain⟨x,rfl⟩:=h;exact Chg.t x.2
theorem ApV.from(h:ApV E sz W1 p n c row W v)(b:w5.heap.size≤W1.heap.size):ApV E sz w5 p n c row W v:=by
 unfold ApV at *
 split
 ·rename_i a;rw[oE a]at h;exact h
 ·rename_i a
  rw[oB a]at h;obtain⟨g,cap,d,e,f⟩:=h;exact⟨g,cap,d,FH b e,f⟩
theorem ApR.of_chg{F:Nat→Prop}(h:Chg F W W')(hF:∀b,F b→b<w5.heap.size):ApR w5 W W':=fun b e a=>h.q b a (fun d=>by have:=hF b d;omega)
theorem DW(b:ApS E sz W1 p n c row W)(a:ApV E sz w5 p n c row W v):∃g cap,v=O (A ⟨g,0,Y⟩) (n+1) cap∧((O p n c).ownBlock=A g∨w5.heap.size≤g)∧Chg (fun x=>(O p n c).ownBlock=A x) W1 W∧W.ownsRow 0 E sz (O (A ⟨g,0,Y⟩) (n+1) cap) (n+1) row:=by
 have f:=b.chg;unfold ApS at b;unfold ApV at a
 by_cases e:n<c
 ·rw[oE e]at b a;obtain⟨h,d⟩:=b;obtain⟨rfl,g,rfl⟩:=a;exact⟨g,c,Z,wD Z,h,d⟩
 ·rw[oB e]at a;obtain⟨g,cap,rfl,d,i⟩:=a;exact⟨g,cap,Z,wP d,f,i⟩
end
