/- Parts of one proof, joined; conditions stand in each theorem. -/
import Derived.Test.YtmpekinjoeibbaaGreatDoorMA
import Derived.Test.YtmpekinjoeibbaaGreatDoorShelf
import Derived.Great.BuildSlice
import Derived.Test.YtmpekinjoeibbaaGreatDoorMT
import Derived.Test.YtmpekinjoeibbaaGreatDoorNG
open Go renaming World→p7,Value→r3,Addr→vv,TypeId→vn
open Option renaming some→A,none→V
open Go.Value renaming slice→O
open Or renaming inl→tE,inr→tS
open Go.Proofs.Tryz renaming prog→r6
namespace Go.Proofs.YtmpekinjoeibbaaGreatDoor
open Go.RowKit
structure Rd (α:Type) where
 n:Nat
 at_:p7→(Nat→Prop)→α→List r3→Prop
 len:∀{w F x vs},at_ w F x vs→vs.length=n
 t:∀{w w':p7} {F x vs},(∀b,F b→∀o,w.heap[b]?=A o→w'.heap[b]?=A o)→at_ w F x vs→at_ w' F x vs
 N:∀{w:p7} {F G:Nat→Prop} {x vs},(∀b,F b→G b)→at_ w F x vs→at_ w G x vs
 one:∀{w F x vs},at_ w F x vs→∀u∈vs,u.oneCell'=true
def Rd.y{α:Type} (r:Rd α) (w:p7) (F:Nat→Prop) (xs:List α) (v:r3):Prop:=
 (xs=[]∧∃p c,v=O p 0 c)∨∃b off cap,xs≠[]∧F b∧b<w.heap.size∧xs.length≤cap∧cap≤maxLen∧v=O (A ⟨b,off,V⟩) xs.length cap∧
  ∀i x,xs[i]?=A x→∃vs,r.at_ w F x vs∧∀m u,vs[m]?=A u→w.cell? ⟨b,off+i*r.n+m,V⟩=A u
theorem zw{w w':p7}{b:Nat}(h:∀o,w.heap[b]?=A o→w'.heap[b]?=A o){i:Nat}{u:r3}(a:w.cell? ⟨b,i,V⟩=A u):w'.cell? ⟨b,i,V⟩=A u:=by
 obtain⟨o,d⟩:∃o,w.heap[b]?=A o:=by
  cases f:w.heap[b]? with
  | none=>unfold World.cell? at a;simp[f]at a
  | some o=>exact⟨o,Z⟩
 have e:w'.heap[b]?=w.heap[b]?:=(h o d).trans d.symm;have:w'.cell? ⟨b,i,V⟩=w.cell? ⟨b,i,V⟩:=by unfold World.cell?;simp only[e]
 rw[this];exact a
section
variable {α:Type} {r:Rd α} {w w':p7} {F G:Nat→Prop} {xs:List α} {v:r3}
theorem Rd.qv(d:∀b,F b→∀o,w.heap[b]?=A o→w'.heap[b]?=A o)(h:r.y w F xs v):r.y w' F xs v:=by
 rcases h with h|⟨b,off,cap,g,e,f,j,k,l,q⟩
 ·exact tE h
 ·have a:b<w'.heap.size:=(ES.1 (d b e _ (Array.getElem?_eq_getElem f))).1;refine tS ⟨b,off,cap,g,e,a,j,k,l,fun i x t=>?_⟩;obtain⟨vs,y,z⟩:=q i x t;exact⟨vs,r.t d y,fun m u hu=>zw (d b e) (z m u hu)⟩
theorem Rd.sb(d:∀b,F b→G b)(h:r.y w F xs v):r.y w G xs v:=by
 rcases h with h|⟨b,off,cap,e,f,a,g,j,k,l⟩
 ·exact tE h
 ·refine tS ⟨b,off,cap,e,d b f,a,g,j,k,fun i x m=>?_⟩;obtain⟨vs,o,q⟩:=l i x m;exact⟨vs,r.N d o,q⟩
theorem Rd.b(h:r.y w F xs v):∃p c,v=O p xs.length c:=by
 rcases h with ⟨rfl,p,c,rfl⟩|⟨b,off,cap,d,e,_,f,g,a,i⟩
 ·exact⟨p,c,Z⟩
 ·exact⟨_,_,a⟩
theorem Rd.sv{p:Option vv}{c:Nat}:r.y w F [] (O p 0 c):=tE ⟨Z,p,c,Z⟩
theorem Rd.T{i:Nat}{x:α}(h:r.y w F xs v)(d:xs[i]?=A x):∃b off cap vs,v=O (A ⟨b,off,V⟩) xs.length cap∧xs.length≤cap∧cap≤maxLen∧F b∧b<w.heap.size∧r.at_ w F x vs∧∀m u,vs[m]?=A u→w.cell? ⟨b,off+i*r.n+m,V⟩=A u:=by
 rcases h with ⟨rfl,_⟩|⟨b,off,cap,q,e,a,f,g,j,k⟩
 ·simp at d
 ·obtain⟨vs,l,o⟩:=k i x d;exact⟨b,off,cap,vs,j,f,g,e,a,l,o⟩
theorem Rd.ss(h:r.y w F xs v):xs.length≤maxLen:=by
 rcases h with ⟨rfl,_⟩|⟨b,off,cap,a,d,_,e,f,_⟩
 ·exact Fi _
 ·omega
end
def Rd.q(k:IntKind) (a b:Int):Rd Int where
 n:=1
 at_ _ _ x vs:=vs=[Value.int k x]∧a≤x∧x<b
 len h:=by rw[h.1];rfl
 t _ h:=h
 N _ h:=h
 one h:=by rw[h.1];intro u hu;obtain rfl:=List.mem_singleton.1 hu;rfl
def Rd.int:Rd Int:=Rd.q IntKind.i64 (-9223372036854775808) 9223372036854775808
def Rd.u8:Rd Int:=Rd.q IntKind.u8 0 256
def Rd.str:Rd ByteArray where
 n:=1
 at_ _ _ x vs:=vs=[Value.string x]∧x.size≤maxLen
 len h:=by rw[h.1];rfl
 t _ h:=h
 N _ h:=h
 one h:=by rw[h.1];intro u hu;obtain rfl:=List.mem_singleton.1 hu;rfl
def Rd.list{α:Type} (r:Rd α):Rd (List α) where
 n:=1
 at_ w F xs vs:=∃v,vs=[v]∧r.y w F xs v
 len:=by rintro w F x vs ⟨v,rfl,_⟩;rfl
 t:=by rintro w w' F x vs a ⟨v,rfl,h⟩;exact⟨v,Z,Rd.qv a h⟩
 N:=by rintro w F G x vs b ⟨v,rfl,h⟩;exact⟨v,Z,Rd.sb b h⟩
 one:=by
  rintro w F x vs ⟨v,rfl,h⟩ u hu;obtain rfl:=List.mem_singleton.1 hu;obtain⟨p,c,rfl⟩:=Rd.b h;rfl
def Rd.X{α β:Type} (r:Rd α) (s:Rd β):Rd (α×β) where
 n:=r.n+s.n
 at_ w F x vs:=∃us ws,vs=us++ws∧r.at_ w F x.1 us∧s.at_ w F x.2 ws
 len:=by rintro w F x vs ⟨us,ws,rfl,a,b⟩;rw[Fl,r.len a,s.len b]
 t:=by rintro w w' F x vs d ⟨us,ws,rfl,a,b⟩;exact⟨us,ws,Z,r.t d a,s.t d b⟩
 N:=by rintro w F G x vs e ⟨us,ws,rfl,a,b⟩;exact⟨us,ws,Z,r.N e a,s.N e b⟩
 one:=by
  rintro w F x vs ⟨us,ws,rfl,a,b⟩ u hu;rcases List.mem_append.1 hu with h|h
  ·exact r.one a u h
  ·exact s.one b u h
def Rd.as{α β:Type} (r:Rd α) (f:β→α):Rd β where
 n:=r.n
 at_ w F x vs:=r.at_ w F (f x) vs
 len h:=r.len h
 t a h:=r.t a h
 N b h:=r.N b h
 one h:=r.one h
section
variable {α:Type} {r:Rd α} {w w':p7} {F G:Nat→Prop} {xs:List α} {x:α} {v:r3} {vs:List r3}
theorem Rd.u(h:r.y w F xs v){B:Nat}(hF:∀b,F b→b<B)(a:Below B w w'):r.y w' F xs v:=
 Rd.qv (fun b d _ e=>(a.block b (hF b d)).trans e) h
def Rd.h(r:Rd α) (w:p7) (F:Nat→Prop) (xs:List α) (us:List r3):Prop:=us.length=xs.length*r.n∧∀i x,xs[i]?=A x→∃vs,r.at_ w F x vs∧∀m u,vs[m]?=A u→us[i*r.n+m]?=A u
theorem Rd.cells_nil:r.h w F [] []:=⟨by simp,fun i x a=>by simp at a⟩
theorem Rd.cells_snoc{us:List r3}(h:r.h w F xs us)(d:r.at_ w F x vs):r.h w F (xs++[x]) (us++vs):=by
 obtain⟨e,f⟩:=h;have g:=r.len d;refine⟨by rw[Fl,e,g,Fl,FP,Nat.add_mul,Nat.one_mul],fun i y a=>?_⟩
 by_cases j:i<xs.length
 ·rw[FM j]at a;obtain⟨ws,k,l⟩:=f i y a;refine⟨ws,k,fun m u hu=>?_⟩;have:=l m u hu;rw[FM (Fo.1 this).1];exact this
 ·have b:=(Fo.1 a).1;rw[Fl,FP]at b;obtain rfl:i=xs.length:=by omega
  rw[FA (ET _),Nat.sub_self]at a;simp only[List.getElem?_cons_zero,oF]at a;subst a;refine⟨vs,d,fun m u hu=>?_⟩;rw[←e,FA (Nat.le_add_right _ _),Nat.add_sub_cancel_left];exact hu
theorem Rd.cells_keep{us:List r3}(a:∀b,F b→∀o,w.heap[b]?=A o→w'.heap[b]?=A o)(h:r.h w F xs us):r.h w' F xs us:=
 ⟨h.1,fun i x d=>by obtain⟨vs,e,f⟩:=h.2 i x d;exact⟨vs,r.t a e,f⟩⟩
theorem Rd.cells_sub{us:List r3}(a:∀b,F b→G b)(h:r.h w F xs us):r.h w G xs us:=
 ⟨h.1,fun i x d=>by obtain⟨vs,e,f⟩:=h.2 i x d;exact⟨vs,r.N a e,f⟩⟩
theorem Rd.row_own{us:List r3}{base:Nat}{e:vn}(a:w.ownsRow base e r.n v xs.length us)(f:r.h w F xs us)(hF:∀g,v.ownBlock=A g→F g):r.y w F xs v:=by
 obtain⟨y,⟨rfl,h⟩|⟨g,cap,cur,rfl,z,b,j,k,B,l⟩⟩:=a
 ·have:xs=[]:=Fy h;subst this;exact tE ⟨Z,V,0,Z⟩
 ·by_cases d:xs=[]
  ·subst d;exact tE ⟨Z,_,_,Z⟩
  ·refine tS ⟨g,0,cap,d,hF g Z,(ES.1 b).1,j,k,Z,fun i x o=>?_⟩;obtain⟨vs,q,t⟩:=f.2 i x o;refine⟨vs,q,fun m u hu=>?_⟩;have:=t m u hu;rw[←l,List.getElem?_take]at this
   split at this
   ·rw[FR _ _ _ _ _ _ b,Nat.zero_add]
    simpa using this
   ·cases this
end
structure Elem (E S:vn) (n bytes:Nat):Prop where
 und:Tryz.prog.underlying S=A (.slice E)
 info:∃i z,Tryz.prog.info? E=A i∧i.zero=A z∧i.size=n∧i.bytes=bytes∧z.cells.size=n
 pos:0<n
 small:n≤64∧bytes≤1000
theorem Elem.of{E S:vn}{n bytes:Nat}{z:r3}(hu:Tryz.prog.underlying S=A (.slice E))(a:(Tryz.prog.info? E).map (fun i=>(i.zero,i.size,i.bytes))=A (A z,n,bytes))(b:z.cells.size=n)(d:0<n)(e:n≤64∧bytes≤1000):Elem E S n bytes:=by
 obtain⟨i,f,g,h,j⟩:=info_parts a;exact⟨hu,⟨i,z,f,g,h,j,b⟩,d,e⟩
theorem foldl_set:∀(l:List r3) (k:Nat) (a:Array r3),k+l.length≤a.size→∀i,((l.zipIdx k).foldl (fun cs (p:r3×Nat)=>cs.setIfInBounds (0+p.2) p.1) a)[i]?=if k≤i∧i<k+l.length then l[i-k]? else a[i]?
 | [],k,a,_,i=>by simp;omega
 | x::l,k,a,h,i=>by
  rw[FC]at h;rw[List.zipIdx_cons,List.foldl_cons,foldl_set l (k+1) _ (by simp;omega) i];rw[FC]
  by_cases d:i=k
  ·subst d;rw[ox (by omega),oA (by omega),Nat.zero_add,Array.getElem?_setIfInBounds_self,oA (by omega),Nat.sub_self];rfl
  ·by_cases b:k+1≤i∧i<k+1+l.length
   ·rw[oA b,oA (by omega),show i-k=(i-(k+1))+1 by omega,FN]
   ·rw[ox b,ox (by omega),Nat.zero_add,Array.getElem?_setIfInBounds_ne (by omega)]
theorem CM(n:Nat)(cells:Array r3)(v:r3)(d:cells.size=1*n)(hv:v.cells.size=n):Instr.fill (fun i=>A (i*n,n)) cells [(0,v)]=A v.cells:=by
 have a:(decide (v.cells.size≠n)||decide (0*n+v.cells.size > cells.size))=false:=by
  have b:cells.size=n:=by omega
  rw[Nat.zero_mul,hv,b];simp
 unfold Instr.fill;dsimp only;rw[a];unfold Instr.fill;simp only[Fx,oX,Nat.zero_mul]
 congr 1
 rw[←Array.foldl_toList,Array.toList_zipIdx];apply Array.ext_getElem?;intro i;have h:=foldl_set v.cells.toList 0 cells (by rw[Fz,hv,d];omega) i;rw[h];have e:v.cells.toList.length=v.cells.size:=Fz
 by_cases f:i<n
 ·rw[oA (by omega)];simp
 ·rw[ox (by omega),FO (by omega),FO (by omega)]
section
variable {E S:vn} {sz bytes:Nat}
def One(E:vn) (L:Nat) (vs:List r3) (W:p7) (v:r3):Prop:=∃g,v=O (A ⟨g,0,V⟩) 1 1∧L≤g∧W.heap[g]?=A (Obj.cells vs.toArray E (0,0))
theorem One.C{L:Nat}{vs:List r3}{W W':p7}{v:r3}(h:One E L vs W v)(b:FS W W'):One E L vs W' v:=by
 obtain⟨g,d,e,a⟩:=h;exact⟨g,d,e,ag b a (ES.1 a).1⟩
theorem eL(e:Elem E S sz bytes){o:Oper}{a:Act}{W:p7}{G:r3→p7→Prop}{L:Nat}{vs:List r3}(x:Operand)(i:o.op=.buildSlice S 1 #[(0,x)])(h:(a.eval x).cells=vs.toArray)(j:vs.length=sz)(k:L≤W.heap.size)
  (l:∀v W',FS W W'→One E L vs W' v→G v W'):RE.Upon r6 o a W G:=by
 obtain⟨i0,z,f,g,b,m,q⟩:=e.info;have d:(execOp a.eval o).run r6 W=.ok (.value (O (A ⟨W.heap.size,0,V⟩) 1 1)) (W.alloc (Obj.cells vs.toArray E)):=by
  unfold execOp;simp only[i,o8]
  rw[run_buildSlice W S E 1 _ vs.toArray i0 z e.und f g (by rw[b];have:=e.small;omega) (by rw[b];have:=e.pos;omega) (by
   have t:(#[(0,x)].map fun (x:Nat×Operand)=>(x.1,a.eval x.2)).toList=[(0,a.eval x)]:=by simp
   rw[t,b]
   rw[CM sz _ _ (by simp) (by rw[h];simpa using j),h])]
  rfl
 exact RE.upon_run d (l _ _ ((EU _ W).alloc (ET _) _) ⟨_,Z,k,ot W _⟩)
theorem qn(l:Elem E S sz bytes){W:p7}{p:Option vv}{n c g9:Nat}{xs z:List r3}(ty:vn)(d:W.ownsRow 0 E sz (O p n c) n xs)(hz:W.heap[g9]?=A (Obj.cells z.toArray E (0,0)))(ad:z.length=sz)(Q:∀u∈z,u.oneCell'=true)(hn:n≤10000) :
  ∃k w',(Builtin.append_ #[S,S] ty #[O p n c,O (A ⟨g9,0,V⟩) 1 1]).run r6 W=.ok k w'∧w'.ownsRow 0 E sz k (n+1) (xs++z)∧
   ((n<c∧∃g,p=A ⟨g,0,V⟩∧k=O p (n+1) c∧W.grownBy w' (A g))∨(¬n<c∧∃cap,k=O (A ⟨W.heap.size,0,V⟩) (n+1) cap∧FS W w')):=by
 obtain⟨i0,zz,m,y,f,B,C⟩:=l.info;have D:=l.small;have K:=l.pos;have a:∀j u,z[j]?=A u→W.cell? ((⟨g9,0,V⟩:vv).add j)=A u:=fun j u hj=>by
  have e:(⟨g9,0,V⟩:vv).add j=⟨g9,j,V⟩:=by
   unfold Addr.add
   by_cases L:j=0
   ·subst L;rfl
   ·rw[ox L];simp
  rw[e,FR _ _ _ _ _ _ hz]
  simpa using hj
 have M:(n+1)*bytes≤140737488355328:=by
  have:(n+1)*bytes≤10001*1000:=Nat.mul_le_mul (by omega) D.2;omega
 obtain⟨k,w',R,b,i⟩:=kO (P:=r6) W 0 S ty E i0 zz sz bytes l.und m y f B C K (O p n c) n xs d ⟨g9,0,V⟩ 1 1 z (by omega) a Q (by unfold maxLen;omega) M (Fi _) (by decide);refine⟨k,w',R,b,?_⟩;rcases i with ⟨g,cap,q,N,e3⟩|⟨cap,q,N⟩
 ·injection q with f1 f2 f3
  subst f1;subst f3;subst N
  left
  refine⟨?_,g,Z,Z,e3⟩;rcases b.2 with ⟨h,_⟩|⟨_,_,_,h,_,_,h2,_⟩
  ·cases h
  ·injection h with _ _ T
   omega
 ·right
  refine⟨fun hc=>?_,cap,q,N⟩;rcases d.2 with ⟨h,L⟩|⟨g,U,cur,h,_,X,h2,T,h4,h5⟩
  ·injection h with _ _ T;omega
  ·injection h with f1 _ f3
   subst f1;subst f3
   have o:=run_append_room (P:=r6) W S ty E i0 l.und m g n c cur X ⟨g9,0,V⟩ 1 1 z (by rw[f];omega) a Q (by omega) (by
    rw[f,h4];have:=Nat.mul_le_mul_right sz (show n+1≤c from hc);rw[Nat.add_mul,Nat.one_mul]at this
    omega)
   rw[R]at o;injection o with e4 _
   rw[q]at e4;injection e4 with t _ _
   injection t with t
   injection t with t
   have:=(ES.1 X).1;omega
def ApS(E:vn) (sz:Nat) (w4:p7) (p:Option vv) (n c:Nat) (row:List r3) (W:p7):Prop:=
 if n<c then Chg (fun x=>(O p n c).ownBlock=A x) w4 W∧W.ownsRow 0 E sz (O p (n+1) c) (n+1) row else ∃x:Wb w4,W=x.1
def ApV(E:vn) (sz:Nat) (w4:p7) (p:Option vv) (n c:Nat) (row:List r3) (W:p7) (v:r3):Prop:=
 if n<c then v=O p (n+1) c∧∃g,p=A ⟨g,0,V⟩ else ∃g cap,v=O (A ⟨g,0,V⟩) (n+1) cap∧w4.heap.size≤g∧W.ownsRow 0 E sz v (n+1) row
def ApR(w4 W W':p7):Prop:=∀b,w4.heap.size≤b→b<W.heap.size→W'.heap[b]?=W.heap[b]?
theorem ApR.b{w4 W W':p7}(h:FS W W'):ApR w4 W W':=fun b _ a=>h.block b a
theorem ApV.t{w4 W W':p7}{p:Option vv}{n c:Nat}{row:List r3}{v:r3}(h:ApV E sz w4 p n c row W v)(j:ApR w4 W W'):ApV E sz w4 p n c row W' v:=by
 unfold ApV at *
 split
 ·rename_i b;rw[oA b]at h;exact h
 ·rename_i b
  rw[ox b]at h;obtain⟨g,cap,d,e,f⟩:=h;refine⟨g,cap,d,e,bE f fun i a=>?_⟩;have k:=(eH f i a).2;rw[d]at a;injection a with a
  have a:g=i:=a;subst a;exact j g e k
theorem One.t{w4 W W':p7}{vs:List r3}{v:r3}(h:One E w4.heap.size vs W v)(d:ApR w4 W W'):One E w4.heap.size vs W' v:=by
 obtain⟨g,e,a,b⟩:=h;exact⟨g,e,a,(d g a (ES.1 b).1).trans b⟩
theorem iH(N:Elem E S sz bytes){o:Oper}{a:Act}{W w4:p7}{G:r3→p7→Prop}{n c:Nat}{vs:List r3}{p:Option vv}{xs:List r3}(s y:Operand)(q:o.op=.call { callee:=.builtin .append,args:=#[s,y],argTypes:=#[S,S] })
  (P:a.eval s=O p n c) (t:One E w4.heap.size vs W (a.eval y)) (Q:vs.length=sz) (R:∀u∈vs,u.oneCell'=true) (h:FS w4 W) (i:w4.ownsRow 0 E sz (O p n c) n xs) (T:n≤10000)
  (L:∀m W',ApS E sz w4 p n c (xs++vs) W'→ApR w4 W W'→ApV E sz w4 p n c (xs++vs) W' m→G m W'):RE.Upon r6 o a W G:=by
 obtain⟨g9,t,_,B⟩:=t;obtain⟨m,w',U,f,j⟩:=qn N (p:=p) (c:=c) (z:=vs) o.type (ab i h) B Q R T;have k:(execOp a.eval o).run r6 W=.ok (.value m) w':=by simp[execOp,q,resolve,invoke,builtin,P,t,U,Result.andThen]
 refine RE.upon_run k ?_;rcases j with ⟨l,g,rfl,rfl,d⟩|⟨l,cap,rfl,C⟩
 ·have X:g<w4.heap.size:=(eH i g Z).2;refine L _ _ ?_ (fun b C D=>d.block b D (fun e=>by injection e with e;omega)) ?_
  ·unfold ApS;rw[oA l];refine⟨⟨d.os.trans h.os,d.tape.trans h.tape,d.output.trans h.output,EZ h.size d.size,fun x M K=>?_⟩,f⟩;exact (d.block x (EY M h.size) (fun e=>K e.symm)).trans (h.block x M)
  ·unfold ApV;rw[oA l];exact⟨Z,g,Z⟩
 ·refine L _ _ ?_ (ApR.b C) ?_
  ·unfold ApS;rw[ox l];exact⟨⟨w',h.trans (C.mono h.size)⟩,Z⟩
  ·unfold ApV;rw[ox l];exact⟨_,cap,Z,h.size,f⟩
theorem jq{w4 W:p7}{p:Option vv}{n c:Nat}{row:List r3}{v:r3}(a:ApS E sz w4 p n c row W)(b:ApV E sz w4 p n c row W v) :
  ∃g cap,v=O (A ⟨g,0,V⟩) (n+1) cap∧((O p n c).ownBlock=A g∨w4.heap.size≤g)∧Chg (fun x=>(O p n c).ownBlock=A x) w4 W∧W.ownsRow 0 E sz (O (A ⟨g,0,V⟩) (n+1) cap) (n+1) row:=by
 unfold ApS at a;unfold ApV at b
 by_cases e:n<c
 ·rw[oA e]at a b;obtain⟨f,d⟩:=a;obtain⟨rfl,g,rfl⟩:=b;exact⟨g,c,Z,tE Z,f,d⟩
 ·rw[ox e]at a b;obtain⟨x,rfl⟩:=a;obtain⟨g,cap,rfl,d,h⟩:=b;exact⟨g,cap,Z,tS d,Chg.b x.2,h⟩
theorem ApS.C{w4 W W':p7}{p:Option vv}{n c:Nat}{row:List r3}(h:ApS E sz w4 p n c row W)(a:FS W W'):ApS E sz w4 p n c row W':=by
 unfold ApS at *
 by_cases b:n<c
 ·rw[oA b]at h ⊢;exact⟨h.1.h (Chg.b a),ab h.2 a⟩
 ·rw[ox b]at h ⊢;obtain⟨x,rfl⟩:=h;exact⟨⟨W',x.2.trans (a.mono x.2.size)⟩,Z⟩
theorem ApS.u{w4 W:p7}{p:Option vv}{n c:Nat}{row:List r3}(h:ApS E sz w4 p n c row W):w4.heap.size≤W.heap.size:=by
 unfold ApS at h
 split at h
 ·exact h.1.u
 ·obtain⟨x,rfl⟩:=h;exact x.2.size
def phA(E:vn) (sz:Nat) (w4:p7) (p:Option vv) (n c:Nat) (vs row:List r3) (i j k:Nat) (W:p7) (ys:List r3):Prop:=
 if k=i then One E w4.heap.size vs W (ys.getD 0 undef) else if k=j then ApV E sz w4 p n c row W (ys.getD 0 undef) else True
theorem phA.t{w4:p7}{p:Option vv}{n c:Nat}{vs row:List r3}{i j k:Nat}{W W':p7}{ys:List r3}(h:phA E sz w4 p n c vs row i j k W ys)(b:ApR w4 W W'):phA E sz w4 p n c vs row i j k W' ys:=by
 unfold phA at *
 split
 ·rename_i a;rw[oA a]at h;exact h.t b
 ·rename_i a
  rw[ox a]at h
  split
  ·rename_i d;rw[oA d]at h;exact h.t b
  ·trivial
def stA(E:vn) (sz:Nat) (w4:p7) (p:Option vv) (n c:Nat) (row:List r3) (s:Nat) (W:p7):Prop:=if s=0 then (∃x:Wb w4,W=x.1) else ApS E sz w4 p n c row W
theorem stA.C{w4:p7}{p:Option vv}{n c:Nat}{row:List r3}{s:Nat}{W W':p7}(h:stA E sz w4 p n c row s W)(b:FS W W'):stA E sz w4 p n c row s W':=by
 unfold stA at *
 split
 ·rename_i a
  rw[oA a]at h;obtain⟨x,rfl⟩:=h;exact⟨⟨W',x.2.trans (b.mono x.2.size)⟩,Z⟩
 ·rename_i a
  rw[ox a]at h;exact h.C b
theorem stA.u{w4:p7}{p:Option vv}{n c:Nat}{row:List r3}{s:Nat}{W:p7}(h:stA E sz w4 p n c row s W):w4.heap.size≤W.heap.size:=by
 unfold stA at h
 split at h
 ·obtain⟨x,rfl⟩:=h;exact x.2.size
 ·exact h.u
theorem stA.zero{w4:p7}{p:Option vv}{n c:Nat}{row:List r3}:stA E sz w4 p n c row 0 w4.drew:=⟨⟨w4.drew,(EU _ _).drew⟩,Z⟩
def Ks(w:p7) (K:Nat→Prop):={W:p7 // ∀b,K b→W.heap[b]?=w.heap[b]?}
instance (w:p7) (K:Nat→Prop):Nonempty (Ks w K):=⟨⟨w,fun _ _=>rfl⟩⟩
theorem Ks.b{w:p7}{K:Nat→Prop}(x:Ks w K){b o:Nat}(a:K b){v:r3}(h:w.cell? ⟨b,o,V⟩=A v):x.1.cell? ⟨b,o,V⟩=A v:=by
 have e:x.1.cell? ⟨b,o,V⟩=w.cell? ⟨b,o,V⟩:=by unfold World.cell?;rw[x.2 b a]
 rw[e];exact h
theorem kb{w4:p7}{p:Option vv}{n c:Nat}{row:List r3}{K:Nat→Prop}(d:∀b,K b→b<w4.heap.size∧(O p n c).ownBlock≠A b):∀(m s:Nat) (W:p7),s≤m→stA E sz w4 p n c row s W→∃x:Ks w4 K,W=x.1:=fun m s W _ h=>by
 unfold stA at h;refine⟨⟨W,fun b f=>?_⟩,Z⟩;obtain⟨a,g⟩:=d b f
 split at h
 ·obtain⟨x,rfl⟩:=h;exact x.2.block b a
 ·unfold ApS at h
  split at h
  ·exact h.1.q b a (fun e=>g e)
  ·obtain⟨x,rfl⟩:=h;exact x.2.block b a
end
def bF{α:Type} (W:p7) (F:Nat→Prop) (E:vn) (r:Rd α) (xs:List α) (v:r3):Prop:=∃us,W.ownsRow 0 E r.n v xs.length us∧r.h W F xs us
section
variable {α β:Type} {W W':p7} {F F' G:Nat→Prop} {E E2:vn} {r:Rd α} {s:Rd β} {xs:List α} {ys:List β} {v v2:r3}
theorem bF.nil:bF W F E r [] (O V 0 0):=⟨[],World.ownsRow_nil _ _ _ _,Rd.cells_nil⟩
theorem bF.lt(h:bF W F E r xs v){g:Nat}(a:v.ownBlock=A g):g<W.heap.size:=by
 obtain⟨us,b,_⟩:=h;exact (eH b g a).2
theorem bF.h(h:bF W F E r xs v){g:Nat}(a:v.ownBlock=A g):∃cs,W.heap[g]?=A (Obj.cells cs E (0,0)):=by
 obtain⟨us,⟨_,b⟩,_⟩:=h;rcases b with ⟨rfl,_⟩|⟨d,cap,cur,rfl,_,e,_⟩
 ·cases a
 ·injection a with a
  have a:d=g:=a;subst a;exact⟨cur,e⟩
theorem bF.T(h:bF W F E r xs v)(k:bF W G E2 s ys v2)(b:E≠E2){g:Nat}(d:v.ownBlock=A g):v2.ownBlock≠A g:=fun e=>by
 obtain⟨cs,f⟩:=h.h d;obtain⟨i,a⟩:=k.h e;rw[f]at a;injection a with a
 injection a with _ a
 exact b a
theorem bF.b(h:bF W F E r xs v):∃p c,v=O p xs.length c:=by
 obtain⟨us,⟨_,a⟩,_⟩:=h;rcases a with ⟨rfl,b⟩|⟨d,cap,cur,rfl,_,_,e,_⟩
 ·exact⟨V,0,by rw[b]⟩
 ·exact⟨_,_,Z⟩
theorem bF.t(hv:∀g,v.ownBlock=A g→W'.heap[g]?=W.heap[g]?)(a:∀b,F b→∀o,W.heap[b]?=A o→W'.heap[b]?=A o)(d:∀b,F b→F' b)(h:bF W F E r xs v):bF W' F' E r xs v:=by
 obtain⟨us,e,f⟩:=h;exact⟨us,bE e hv,Rd.cells_sub d (Rd.cells_keep a f)⟩
theorem bF.other(h:bF W F E r xs v)(a:Chg (fun x=>v2.ownBlock=A x) W W')(hv:∀g,v.ownBlock=A g→v2.ownBlock≠A g)(hF:∀b,F b→b<W.heap.size∧v2.ownBlock≠A b)(f:∀b,F b→F' b):bF W' F' E r xs v:=
 h.t (fun g d=>a.q g (h.lt d) (hv g d)) (fun b e _ i=>(a.q b (hF b e).1 (hF b e).2).trans i) f
theorem bF.q(h:bF W F E r xs v){M:Nat}(d:v.ownBlock≠A M)(a:∀b,F b→b≠M)(f:∀b,F b→F' b)(hw:∀b,b≠M→W'.heap[b]?=W.heap[b]?):bF W' F' E r xs v:=
 h.t (fun g i=>hw g (fun e=>d (e ▸ i))) (fun b j _ k=>(hw b (a b j)).trans k) f
theorem bF.y(h:bF W F E r xs v)(a:∀b,F b→G b)(d:∀g,v.ownBlock=A g→G g):r.y W G xs v:=by
 obtain⟨us,e,f⟩:=h;exact Rd.row_own e (Rd.cells_sub a f) d
theorem bF.N(h:bF W F E r xs v)(a:∀b,F b→F' b):bF W F' E r xs v:=h.t (fun _ _=>rfl) (fun _ _ _ d=>d) a
end
section
variable {E S:vn} {sz bytes:Nat} {W W1 W' w5:p7} {n c:Nat} {p:Option vv} {row:List r3} {v:r3}
theorem CY(C:Elem E S sz bytes){o:Oper}{a:Act}{L:Nat}{G:r3→p7→Prop}{vs xs:List r3}(s y:Operand)(l:o.op=.call { callee:=.builtin .append,args:=#[s,y],argTypes:=#[S,S] })
  (D:a.eval s=O p n c) (m:One E L vs W (a.eval y)) (K:vs.length=sz) (M:∀u∈vs,u.oneCell'=true) (h:W.ownsRow 0 E sz (O p n c) n xs) (N:n≤10000)
  (B:∀k W',ApS E sz W p n c (xs++vs) W'→ApV E sz W p n c (xs++vs) W' k→G k W'):RE.Upon r6 o a W G:=by
 obtain⟨g9,m,_,q⟩:=m;obtain⟨k,w',P,b,f⟩:=qn C (p:=p) (c:=c) (z:=vs) o.type h q K M N;have i:(execOp a.eval o).run r6 W=.ok (.value k) w':=by simp[execOp,l,resolve,invoke,builtin,D,m,P,Result.andThen]
 refine RE.upon_run i ?_;rcases f with ⟨j,g,rfl,rfl,d⟩|⟨j,cap,rfl,Q⟩
 ·refine B _ _ ?_ ?_
  ·unfold ApS;rw[oA j];exact⟨⟨d.os,d.tape,d.output,d.size,fun x R t=>d.block x R (fun e=>t e.symm)⟩,b⟩
  ·unfold ApV;rw[oA j];exact⟨Z,g,Z⟩
 ·refine B _ _ ?_ ?_
  ·unfold ApS;rw[ox j];exact⟨⟨w',Q⟩,Z⟩
  ·unfold ApV;rw[ox j];exact⟨_,cap,Z,ET _,b⟩
theorem ApS.chg(h:ApS E sz W1 p n c row W):Chg (fun x=>(O p n c).ownBlock=A x) W1 W:=by
 unfold ApS at h
 split at h
 ·exact h.1
 ·obtain⟨x,rfl⟩:=h;exact Chg.b x.2
theorem ApV.from(h:ApV E sz W1 p n c row W v)(b:w5.heap.size≤W1.heap.size):ApV E sz w5 p n c row W v:=by
 unfold ApV at *
 split
 ·rename_i a;rw[oA a]at h;exact h
 ·rename_i a
  rw[ox a]at h;obtain⟨g,cap,d,e,f⟩:=h;exact⟨g,cap,d,EZ b e,f⟩
theorem ApR.of_chg{F:Nat→Prop}(h:Chg F W W')(hF:∀b,F b→b<w5.heap.size):ApR w5 W W':=fun b e a=>h.q b a (fun d=>by have:=hF b d;omega)
theorem Dx(b:ApS E sz W1 p n c row W)(a:ApV E sz w5 p n c row W v):∃g cap,v=O (A ⟨g,0,V⟩) (n+1) cap∧((O p n c).ownBlock=A g∨w5.heap.size≤g)∧Chg (fun x=>(O p n c).ownBlock=A x) W1 W∧W.ownsRow 0 E sz (O (A ⟨g,0,V⟩) (n+1) cap) (n+1) row:=by
 have f:=b.chg;unfold ApS at b;unfold ApV at a
 by_cases e:n<c
 ·rw[oA e]at b a;obtain⟨h,d⟩:=b;obtain⟨rfl,g,rfl⟩:=a;exact⟨g,c,Z,tE Z,h,d⟩
 ·rw[ox e]at a;obtain⟨g,cap,rfl,d,i⟩:=a;exact⟨g,cap,Z,tS d,f,i⟩
end
def Rd.lcells{α:Type} (r:Rd α) (w:p7) (F:Nat→Prop) (xs:List α) (us:List r3):Prop:=
 ∃G:Nat→Nat→Prop,(∀i b,G i b→F b)∧(∀i j b,G i b→G j b→i=j)∧us.length=xs.length*r.n∧∀i x,xs[i]?=A x→∃vs,r.at_ w (G i) x vs∧∀m u,vs[m]?=A u→us[i*r.n+m]?=A u
section
variable {α:Type} {r:Rd α} {w w':p7} {F F' H:Nat→Prop} {xs:List α} {x:α} {us vs:List r3} {v:r3} {E:vn}
theorem Rd.lcells.h(h:r.lcells w F xs us):r.h w F xs us:=by
 obtain⟨G,a,_,b,d⟩:=h;exact⟨b,fun i x e=>by obtain⟨vs,f,g⟩:=d i x e;exact⟨vs,r.N (a i) f,g⟩⟩
theorem Rd.lcells_nil:r.lcells w F [] []:=⟨fun _ _=>False,fun _ _ h=>h.elim,fun _ _ _ h=>h.elim,by simp,fun i x a=>by simp at a⟩
theorem Rd.sI(d:∀b,F b→∀o,w.heap[b]?=A o→w'.heap[b]?=A o)(h:r.lcells w F xs us):r.lcells w' F xs us:=by
 obtain⟨G,a,e,f,g⟩:=h;exact⟨G,a,e,f,fun i x j=>by obtain⟨vs,k,l⟩:=g i x j;exact⟨vs,r.t (fun b m=>d b (a i b m)) k,l⟩⟩
theorem Rd.lcells_sub(a:∀b,F b→F' b)(h:r.lcells w F xs us):r.lcells w F' xs us:=by
 obtain⟨G,d,e,f,g⟩:=h;exact⟨G,fun i b j=>a b (d i b j),e,f,g⟩
theorem Rd.tf(h:r.lcells w F xs us)(l:r.at_ w H x vs)(o:∀b,F b→¬H b)(hF:∀b,F b→F' b)(t:∀b,H b→F' b):r.lcells w F' (xs++[x]) (us++vs):=by
 obtain⟨G,g,z,q,B⟩:=h;have C:=r.len l;refine⟨fun i b=>if i<xs.length then G i b else i=xs.length∧H b,fun i b d=>?_,fun i j b a e=>?_,by rw[Fl,q,C,Fl,FP,Nat.add_mul,Nat.one_mul],fun i y f=>?_⟩
 ·dsimp only at d
  split at d
  ·exact hF b (g i b d)
  ·exact t b d.2
 ·dsimp only at a e
  split at a
  ·split at e
   ·exact z i j b a e
   ·exact absurd e.2 (o b (g i b a))
  ·split at e
   ·exact absurd a.2 (o b (g j b e))
   ·exact a.1.trans e.1.symm
 ·by_cases a:i<xs.length
  ·rw[FM a]at f;obtain⟨ws,D,K⟩:=B i y f;refine⟨ws,r.N (fun b d=>by show (if i<xs.length then G i b else _);rw[oA a];exact d) D,fun m u hu=>?_⟩;have:=K m u hu;rw[FM (Fo.1 this).1];exact this
  ·have k:=(Fo.1 f).1;rw[Fl,FP]at k;obtain rfl:i=xs.length:=by omega
   rw[FA (ET _),Nat.sub_self]at f;simp only[List.getElem?_cons_zero,oF]at f;subst f;refine⟨vs,r.N (fun b d=>by show (if xs.length<xs.length then _ else _);rw[ox (Nat.lt_irrefl _)];exact⟨Z,d⟩) l,fun m u hu=>?_⟩;rw[←q,FA (Nat.le_add_right _ _),Nat.add_sub_cancel_left];exact hu
def Rd.lrow(r:Rd α) (E:vn) (w:p7) (F:Nat→Prop) (xs:List α) (v:r3):Prop:=
 ∃(us:List r3) (a:Nat→Prop),w.ownsRow 0 E r.n v xs.length us∧r.lcells w a xs us∧(∀b,a b→F b)∧∀g,v.ownBlock=A g→F g∧¬a g
theorem Rd.lrow.h(h:r.lrow E w F xs v):r.y w F xs v:=by
 obtain⟨us,i,a,b,d,e⟩:=h;exact Rd.row_own a (Rd.cells_sub d b.h) fun g f=>(e g f).1
theorem Rd.sm(d:∀b,F b→∀o,w.heap[b]?=A o→w'.heap[b]?=A o)(h:r.lrow E w F xs v):r.lrow E w' F xs v:=by
 obtain⟨us,k,e,l,f,i⟩:=h;refine⟨us,k,bE e (fun g j=>?_),Rd.sI (fun b m=>d b (f b m)) l,f,i⟩;have a:=(eH e g j).2;rw[d g (i g j).1 _ (Array.getElem?_eq_getElem a)];exact (Array.getElem?_eq_getElem a).symm
theorem Rd.th(a:∀b,F b→F' b)(h:r.lrow E w F xs v):r.lrow E w F' xs v:=by
 obtain⟨us,f,i,j,k,d⟩:=h;exact⟨us,f,i,j,fun b l=>a b (k b l),fun g e=>⟨a g (d g e).1,(d g e).2⟩⟩
theorem Rd.tk:r.lrow E w F [] (O V 0 0):=⟨[],fun _=>False,World.ownsRow_nil _ _ _ _,Rd.lcells_nil,fun _ h=>h.elim,fun g h=>by cases h⟩
theorem rW{a:Nat→Prop}(b:∀{G:Nat→Prop}{x:α}{vs:List r3},r.at_ w a x vs→r.at_ w G x vs)(h:bF w a E r xs v)(d:∀g,v.ownBlock=A g→F g):r.lrow E w F xs v:=by
 obtain⟨us,e,f,j⟩:=h;exact⟨us,fun _=>False,e,⟨fun _ _=>False,fun _ _ h=>h.elim,fun _ _ _ h=>h.elim,f,fun i x k=>by obtain⟨vs,l,m⟩:=j i x k;exact⟨vs,b l,m⟩⟩,fun _ h=>h.elim,fun g h=>⟨d g h,id⟩⟩
def Rd.llist(r:Rd α) (E:vn):Rd (List α) where
 n:=1
 at_ w F xs vs:=∃v,vs=[v]∧r.lrow E w F xs v
 len:=by rintro w F x vs ⟨v,rfl,_⟩;rfl
 t:=by rintro w w' F x vs a ⟨v,rfl,h⟩;exact⟨v,Z,Rd.sm a h⟩
 N:=by rintro w F G x vs b ⟨v,rfl,h⟩;exact⟨v,Z,Rd.th b h⟩
 one:=by
  rintro w F x vs ⟨v,rfl,h⟩ u hu;obtain rfl:=List.mem_singleton.1 hu;obtain⟨p,c,rfl⟩:=Rd.b h.h;rfl
def Rd.lpair{β:Type} (r:Rd α) (s:Rd β):Rd (α×β) where
 n:=r.n+s.n
 at_ w F x vs:=∃(us ws:List r3) (F1 F2:Nat→Prop),vs=us++ws∧r.at_ w F1 x.1 us∧s.at_ w F2 x.2 ws∧(∀b,F1 b→F b)∧(∀b,F2 b→F b)∧∀b,F1 b→¬F2 b
 len:=by rintro w F x vs ⟨us,ws,_,_,rfl,a,d,_⟩;rw[Fl,r.len a,s.len d]
 t:=by rintro w w' F x vs j ⟨us,ws,F1,F2,rfl,a,d,f,g,i⟩;exact⟨us,ws,F1,F2,Z,r.t (fun b e=>j b (f b e)) a,s.t (fun b e=>j b (g b e)) d,f,g,i⟩
 N:=by rintro w F G x vs k ⟨us,ws,F1,F2,rfl,a,d,f,g,i⟩;exact⟨us,ws,F1,F2,Z,a,d,fun b e=>k b (f b e),fun b e=>k b (g b e),i⟩
 one:=by
  rintro w F x vs ⟨us,ws,_,_,rfl,a,d,_⟩ u hu;rcases List.mem_append.1 hu with h|h
  ·exact r.one a u h
  ·exact s.one d u h
end
def cO{α:Type} (W:p7) (F:Nat→Prop) (E:vn) (r:Rd α) (xs:List α) (v:r3):Prop:=∃us,W.ownsRow 0 E r.n v xs.length us∧r.lcells W F xs us
section
variable {α β:Type} {W W':p7} {F F' G:Nat→Prop} {E E2:vn} {r:Rd α} {s:Rd β} {xs:List α} {ys:List β} {v v2:r3}
theorem cO.h(h:cO W F E r xs v):bF W F E r xs v:=by
 obtain⟨us,a,b⟩:=h;exact⟨us,a,b.h⟩
theorem cO.nil:cO W F E r [] (O V 0 0):=⟨[],World.ownsRow_nil _ _ _ _,Rd.lcells_nil⟩
theorem cO.lt(h:cO W F E r xs v){g:Nat}(a:v.ownBlock=A g):g<W.heap.size:=h.h.lt a
theorem cO.b(h:cO W F E r xs v):∃p c,v=O p xs.length c:=h.h.b
theorem cO.t(hv:∀g,v.ownBlock=A g→W'.heap[g]?=W.heap[g]?)(a:∀b,F b→∀o,W.heap[b]?=A o→W'.heap[b]?=A o)(d:∀b,F b→F' b)(h:cO W F E r xs v):cO W' F' E r xs v:=by
 obtain⟨us,e,f⟩:=h;exact⟨us,bE e hv,Rd.lcells_sub d (Rd.sI a f)⟩
theorem cO.C(h:cO W F E r xs v)(a:FS W W')(hF:∀b,F b→b<W.heap.size)(d:∀b,F b→F' b):cO W' F' E r xs v:=
 h.t (fun g e=>a.block g (h.lt e)) (fun b f _ i=>(a.block b (hF b f)).trans i) d
theorem cO.q(h:cO W F E r xs v){M:Nat}(d:v.ownBlock≠A M)(a:∀b,F b→b≠M)(f:∀b,F b→F' b)(hw:∀b,b≠M→W'.heap[b]?=W.heap[b]?):cO W' F' E r xs v:=
 h.t (fun g i=>hw g (fun e=>d (e ▸ i))) (fun b j _ k=>(hw b (a b j)).trans k) f
theorem cO.lrow(h:cO W F E r xs v)(a:∀b,F b→G b)(d:∀g,v.ownBlock=A g→G g∧¬F g):r.lrow E W G xs v:=by
 obtain⟨us,e,f⟩:=h;exact⟨us,F,e,f,a,d⟩
end
