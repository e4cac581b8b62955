/- Parts of one proof, joined; conditions stand in each theorem. -/
import Derived.Test.YtoonjedifockoaaGreatDoorNA
import Derived.Test.YtoonjedifockoaaGreatDoorMM
import Derived.Test.YtoonjedifockoaaGreatDoorMD
import Derived.Laws.AppendOwnNone
namespace Go.Proofs.YtoonjedifockoaaGreatDoor
open Go.IntKind(i64)
open Go.Value(int string slice)
set_option maxHeartbeats 4000000
set_option maxRecDepth 100000
open Go.RowKit
def Rd.no{α:Type} (n:Nat):Rd α where
 n:=n
 at_ _ _ _ _:=False
 len h:=h.elim
 keep _ h:=h
 sub _ h:=h
 one h:=h.elim
def bJ{α:Type} (rL r:Rd α) (ms:List α):Rd (List α) where
 n:=1
 at_ w F xs vs:=∃g,vs=[slice (some ⟨g,0,none⟩) xs.length (xs.length+ms.length)]∧F g∧g<w.heap.size∧xs.length+ms.length≤maxLen∧
  (∀i x,xs[i]?=some x→∃us,rL.at_ w F x us∧∀m u,us[m]?=some u→w.cell? ⟨g,i*r.n+m,none⟩=some u)∧
  (∀i x,ms[i]?=some x→∃us,r.at_ w F x us∧∀m u,us[m]?=some u→w.cell? ⟨g,(xs.length+i)*r.n+m,none⟩=some u)
 len:=by rintro w F x vs ⟨g,rfl,_⟩;rfl
 keep:=by
  rintro w w' F x vs f ⟨g,rfl,e,a,hm,h,j⟩;refine⟨g,rfl,e,(Ez.1 (f g e _ (Array.getElem?_eq_getElem a))).1,hm,fun i x b=>?_,fun i x b=>?_⟩
  ·obtain⟨us,c,d⟩:=h i x b;exact⟨us,rL.keep f c,fun m u hu=>l9 (f g e) (d m u hu)⟩
  ·obtain⟨us,c,d⟩:=j i x b;exact⟨us,r.keep f c,fun m u hu=>l9 (f g e) (d m u hu)⟩
 sub:=by
  rintro w F G x vs k ⟨g,rfl,e,a,hm,h,j⟩;refine⟨g,rfl,k g e,a,hm,fun i x b=>?_,fun i x b=>?_⟩
  ·obtain⟨us,c,d⟩:=h i x b;exact⟨us,rL.sub k c,d⟩
  ·obtain⟨us,c,d⟩:=j i x b;exact⟨us,r.sub k c,d⟩
 one:=by
  rintro w F x vs ⟨g,rfl,_⟩ u hu;obtain rfl:=List.mem_singleton.1 hu;rfl
section
variable {α:Type} {rL r:Rd α} {w:World} {F:Nat→Prop} {xs ms:List α} {vs:List Value}
theorem AI(hle:∀x us,rL.at_ w F x us→r.at_ w F x us)(h:(bJ rL r ms).at_ w F xs vs):r.list.at_ w F xs vs:=by
 obtain⟨g,rfl,c,a,hm,d,_⟩:=h;refine⟨_,rfl,?_⟩
 by_cases b:xs=[]
 ·subst b;exact Or.inl ⟨rfl,_,_,rfl⟩
 ·refine Or.inr ⟨g,0,_,b,c,a,Nat.le_add_right _ _,hm,rfl,fun i x e=>?_⟩;obtain⟨us,f,j⟩:=d i x e;exact⟨us,hle x us f,fun m u hu=>by rw[Nat.zero_add];exact j m u hu⟩
theorem Cf{g n base:Nat}{e:TypeId}{us vs:List Value}(s:rL.n=r.n)(f:xs.length=n)(hm:ms.length=12)(a:w.ownsRow base e r.n (slice (some ⟨g,0,none⟩) (n+12) (n+12)) (n+12) (us++vs))
  (t:rL.cells w F xs us) (y:r.cells w F ms vs) (A:F g):(bJ rL r ms).at_ w F xs [slice (some ⟨g,0,none⟩) n (n+12)]:=by
 have b:us.length=n*r.n:=by rw[t.1,f,s]
 have h:vs.length=12*r.n:=by rw[y.1,hm]
 have c:∀j u,(us++vs)[j]?=some u→w.cell? ⟨g,j,none⟩=some u:=fun j u z=>by
  have k:j<(n+12)*r.n:=by
   have:=(EP.1 z).1;rw[EO,b,h]at this;rw[Nat.add_mul];exact this
  rw[a.cellAt _ k];exact z
 obtain⟨_,⟨B,_⟩|⟨G,cap,cur,he,H,l,I,C,J,K⟩⟩:=a
 ·cases B
 injection he with d L D
 injection d with d
 injection d with d
 subst d;subst D;refine⟨g,by rw[f,hm],A,(Ez.1 l).1,by rw[f,hm];exact C,fun i x o=>?_,fun i x o=>?_⟩
 ·obtain⟨ws,p,q⟩:=t.2 i x o;refine⟨ws,p,fun m u hu=>c _ u ?_⟩;have:=q m u hu;rw[s]at this;rw[Fi (EP.1 this).1];exact this
 ·obtain⟨ws,p,q⟩:=y.2 i x o;refine⟨ws,p,fun m u hu=>c _ u ?_⟩;have:=q m u hu;have e:(xs.length+i)*r.n+m=us.length+(i*r.n+m):=by rw[b,f,Nat.add_mul,Nat.add_assoc]
  rw[e,EZ (Nat.le_add_right _ _),Nat.add_sub_cancel_left];exact this
end
def db(i:Nat):Int:=8000024+i
def t7:gY:=⟨0,0,⟨#[]⟩⟩
def marks{α:Type} (f:Int→α):List α:=(List.range 12).map fun i=>f (db i)
theorem dQ{α:Type}(f:Int→α):(marks f).length=12:=by unfold marks;rw[List.length_map,List.length_range]
theorem il{α:Type}(f:Int→α){i:Nat}(h:i<12):(marks f)[i]?=some (f (db i)):=by unfold marks;rw[List.getElem?_map,List.getElem?_range h];rfl
def fw(i:Int):ag:=⟨0,t7,i,0,[]⟩
def jR(i:Int):cg:=⟨0,i,t7⟩
def jn(i:Int):aC:=⟨0,i,[],⟨0,t7,0,0,[]⟩⟩
def iD(i:Int):aT:=⟨0,i,0,[]⟩
def eW(i:Int):ai:=⟨⟨#[]⟩,i⟩
def fP(i:Int):aj:=⟨⟨#[]⟩,0,i,[],[]⟩
def fc:Nat→Rd ag
 | 0=>js (bJ (Rd.no 7) (ay 0) (marks fw))
 | d+1=>js (bJ (fc d) (ay d) (marks fw))
def mW(d:Nat):Rd (List ag):=bJ (fc d) (ay d) (marks fw)
def pG:Rd (List cg):=bJ dm dm (marks jR)
def km(d:Nat):Rd aC:=(Rd.u8.pair (Rd.int.pair (pG.pair (fc d)))).as fun c=>(c.kind,c.type,c.args,c.test)
def nb(d:Nat):Rd (List aC):=bJ (km d) (bp d) (marks jn)
def o0(d:Nat):Rd aT:=(Rd.u8.pair (Rd.int.pair (Rd.int.pair (mW d)))).as fun a=>(a.kind,a.type,a.which,a.exprs)
def pY(d:Nat):Rd (List aT):=bJ (o0 d) (bS d) (marks iD)
def qw:Rd (List ai):=bJ bo bo (marks eW)
def lu(d:Nat):Rd aj:=(Rd.str.pair (Rd.int.pair (Rd.int.pair ((nb d).pair (pY d))))).as fun r=>(r.name,r.sal,r.vars,r.conds,r.acts)
def jX(d:Nat):Rd (List aj):=bJ (lu d) (bh d) (marks fP)
def ka(d:Nat):Rd cd:=(qw.pair (jX d)).as fun r=>(r.types,r.rules)
theorem qG(d:Nat):(fc d).n=7:=by cases d<;>rfl
def Rd.Le{α:Type} (r s:Rd α):Prop:=∀(w:World) (F:Nat→Prop) (x:α) (vs:List Value),r.at_ w F x vs→s.at_ w F x vs
theorem cG{α:Type}(r:Rd α):r.Le r:=fun _ _ _ _ h=>h
theorem de{α β:Type}{r c:Rd α}{s d:Rd β}(h:r.Le c)(e:s.Le d):(r.pair s).Le (c.pair d):=by
 rintro w F x vs ⟨us,ws,rfl,a,b⟩;exact⟨us,ws,rfl,h _ _ _ _ a,e _ _ _ _ b⟩
theorem nw{α β:Type}{r a:Rd α}{f:β→α}(h:r.Le a):(r.as f).Le (a.as f):=fun w F x vs b=>h w F (f x) vs b
theorem i7{α:Type}{rL r:Rd α}{ms:List α}(h:rL.Le r):(bJ rL r ms).Le r.list:=fun w F _ _ a=>AI (fun x us=>h w F x us) a
theorem gp:∀d,(fc d).Le (ay d)
 | 0=>nw (de (cG _) (de (cG _) (de (cG _) (de (cG _) (by
   rintro w F xs vs ⟨g,rfl,c,a,hm,b,_⟩
   cases xs with
   | nil=>exact⟨_,_,rfl,rfl⟩
   | cons x l=>obtain⟨_,h,_⟩:=b 0 x rfl;exact h.elim)))))
 | d+1=>nw (de (cG _) (de (cG _) (de (cG _) (de (cG _) (i7 (gp d))))))
theorem zY(d:Nat):(mW d).Le (ay d).list:=i7 (gp d)
theorem Ck:pG.Le dm.list:=i7 (cG _)
theorem lz(d:Nat):(km d).Le (bp d):=nw (de (cG _) (de (cG _) (de Ck (gp d))))
theorem Bh(d:Nat):(nb d).Le (bp d).list:=i7 (lz d)
theorem nE(d:Nat):(o0 d).Le (bS d):=nw (de (cG _) (de (cG _) (de (cG _) (zY d))))
theorem Ca(d:Nat):(pY d).Le (bS d).list:=i7 (nE d)
theorem yX:qw.Le bo.list:=i7 (cG _)
theorem ln(d:Nat):(lu d).Le (bh d):=nw (de (cG _) (de (cG _) (de (cG _) (de (Bh d) (Ca d)))))
theorem wt(d:Nat):(jX d).Le (bh d).list:=i7 (ln d)
theorem rA(d:Nat):(ka d).Le (iW d):=nw (de yX (wt d))
theorem uG{W:World}{tmps:Array Value}{R:Ending→World→Prop}{r:Nat}{b c c2 d c4 e f:Value}(h:tmps.getD 4 undef=.pointer (some ⟨r,0,none⟩))(a:W.heap[r]?=some (.cells #[b,c,c2,d,c4,e,f] 50 (0,0)))(i:R (.returned (.agg #[b,c,c2,d,c4,e,f])) W):bodyPost Tryz.prog Tryz.f161 R .ret ⟨tmps,[]⟩ W:=by
 have d0:W.cell? ⟨r,0,none⟩=some b:=by simp[World.cell?,a]
 have d1:W.cell? ⟨r,1,none⟩=some c:=by simp[World.cell?,a]
 have d2:W.cell? ⟨r,2,none⟩=some c2:=by simp[World.cell?,a]
 have d3:W.cell? ⟨r,3,none⟩=some d:=by simp[World.cell?,a]
 have d4:W.cell? ⟨r,4,none⟩=some c4:=by simp[World.cell?,a]
 have d5:W.cell? ⟨r,5,none⟩=some e:=by simp[World.cell?,a]
 have d6:W.cell? ⟨r,6,none⟩=some f:=by simp[World.cell?,a]
 have g:tmps[4]?.getD undef=.pointer (some ⟨r,0,none⟩):=by simpa using h
 refine bodyPost_ret (v:=.agg #[b,c,c2,d,c4,e,f]) ?_ rfl i;simp[results,Tryz.results161,go_sem,g,d0,d1,d2,d3,d4,d5,d6]
theorem mx(i:Nat)(w:World)(a:i≤100):Calls Tryz.prog 161 #[int i64 1,int i64 i] w fun e w'=>e=.returned (.agg #[int .u8 0,int .u8 0,int i64 0,string ⟨#[]⟩,int i64 (8000024+(i:Int)),int .u8 0,slice none 0 0])∧Ft w w':=by
 have b:=Hd (fun W=>i4 i W a)
 go_enter Tryz.func161,Tryz.ntmps161
 go_wp2_with (first
  | (go_at_call 54;refine EJ (b.o _) ?_;rintro e w' ⟨rfl,rfl⟩))
 exact uG (r:=w.heap.size) rfl (n7 w _) ⟨rfl,(EB _ w).alloc (EA _) _⟩
theorem vP{W:World}{tmps:Array Value}{R:Ending→World→Prop}{r:Nat}{b c c2 d c4:Value}(f:tmps.getD 4 undef=.pointer (some ⟨r,0,none⟩))(a:W.heap[r]?=some (.cells #[b,c,c2,d,c4] 55 (0,0)))(g:R (.returned (.agg #[b,c,c2,d,c4])) W):bodyPost Tryz.prog Tryz.f160 R .ret ⟨tmps,[]⟩ W:=by
 have d0:W.cell? ⟨r,0,none⟩=some b:=by simp[World.cell?,a]
 have d1:W.cell? ⟨r,1,none⟩=some c:=by simp[World.cell?,a]
 have d2:W.cell? ⟨r,2,none⟩=some c2:=by simp[World.cell?,a]
 have d3:W.cell? ⟨r,3,none⟩=some d:=by simp[World.cell?,a]
 have d4:W.cell? ⟨r,4,none⟩=some c4:=by simp[World.cell?,a]
 have e:tmps[4]?.getD undef=.pointer (some ⟨r,0,none⟩):=by simpa using f
 refine bodyPost_ret (v:=.agg #[b,c,c2,d,c4]) ?_ rfl g;simp[results,Tryz.results160,go_sem,e,d0,d1,d2,d3,d4]
theorem nS(i:Nat)(w:World)(a:i≤100):Calls Tryz.prog 160 #[int i64 1,int i64 i] w fun e w'=>e=.returned (.agg #[int .u8 0,int i64 (8000024+(i:Int)),int .u8 0,int i64 0,string ⟨#[]⟩])∧Ft w w':=by
 have b:=Hd (fun W=>i4 i W a)
 go_enter Tryz.func160,Tryz.ntmps160
 go_wp2_with (first
  | (go_at_call 54;refine EJ (b.o _) ?_;rintro e w' ⟨rfl,rfl⟩))
 exact vP (r:=w.heap.size) rfl (n7 w _) ⟨rfl,(EB _ w).alloc (EA _) _⟩
theorem uw{W:World}{tmps:Array Value}{R:Ending→World→Prop}{r:Nat}{b c c2 d c4 e f g h i:Value}(k:tmps.getD 4 undef=.pointer (some ⟨r,0,none⟩))(a:W.heap[r]?=some (.cells #[b,c,c2,d,c4,e,f,g,h,i] 52 (0,0)))(l:R (.returned (.agg #[b,c,c2,d,c4,e,f,g,h,i])) W):bodyPost Tryz.prog Tryz.f85 R .ret ⟨tmps,[]⟩ W:=by
 have d0:W.cell? ⟨r,0,none⟩=some b:=by simp[World.cell?,a]
 have d1:W.cell? ⟨r,1,none⟩=some c:=by simp[World.cell?,a]
 have d2:W.cell? ⟨r,2,none⟩=some c2:=by simp[World.cell?,a]
 have d3:W.cell? ⟨r,3,none⟩=some d:=by simp[World.cell?,a]
 have d4:W.cell? ⟨r,4,none⟩=some c4:=by simp[World.cell?,a]
 have d5:W.cell? ⟨r,5,none⟩=some e:=by simp[World.cell?,a]
 have d6:W.cell? ⟨r,6,none⟩=some f:=by simp[World.cell?,a]
 have d7:W.cell? ⟨r,7,none⟩=some g:=by simp[World.cell?,a]
 have d8:W.cell? ⟨r,8,none⟩=some h:=by simp[World.cell?,a]
 have d9:W.cell? ⟨r,9,none⟩=some i:=by simp[World.cell?,a]
 have j:tmps[4]?.getD undef=.pointer (some ⟨r,0,none⟩):=by simpa using k
 refine bodyPost_ret (v:=.agg #[b,c,c2,d,c4,e,f,g,h,i]) ?_ rfl l;simp[results,Tryz.results85,go_sem,j,d0,d1,d2,d3,d4,d5,d6,d7,d8,d9]
theorem mq(i:Nat)(w:World)(a:i≤100):Calls Tryz.prog 85 #[int i64 1,int i64 i] w fun e w'=>e=.returned (.agg #[int .u8 0,int i64 (8000024+(i:Int)),slice none 0 0,int .u8 0,int .u8 0,int i64 0,string ⟨#[]⟩,int i64 0,int .u8 0,slice none 0 0])∧Ft w w':=by
 have b:=Hd (fun W=>i4 i W a)
 go_enter Tryz.func85,Tryz.ntmps85
 go_wp2_with (first
  | (go_at_call 54;refine EJ (b.o _) ?_;rintro e w' ⟨rfl,rfl⟩))
 exact uw (r:=w.heap.size) rfl (n7 w _) ⟨rfl,(EB _ w).alloc (EA _) _⟩
theorem vY{W:World}{tmps:Array Value}{R:Ending→World→Prop}{r:Nat}{a b c2 c:Value}(f:tmps.getD 4 undef=.pointer (some ⟨r,0,none⟩))(d:W.heap[r]?=some (.cells #[a,b,c2,c] 58 (0,0)))(g:R (.returned (.agg #[a,b,c2,c])) W):bodyPost Tryz.prog Tryz.f87 R .ret ⟨tmps,[]⟩ W:=by
 have d0:W.cell? ⟨r,0,none⟩=some a:=by simp[World.cell?,d]
 have d1:W.cell? ⟨r,1,none⟩=some b:=by simp[World.cell?,d]
 have d2:W.cell? ⟨r,2,none⟩=some c2:=by simp[World.cell?,d]
 have d3:W.cell? ⟨r,3,none⟩=some c:=by simp[World.cell?,d]
 have e:tmps[4]?.getD undef=.pointer (some ⟨r,0,none⟩):=by simpa using f
 refine bodyPost_ret (v:=.agg #[a,b,c2,c]) ?_ rfl g;simp[results,Tryz.results87,go_sem,e,d0,d1,d2,d3]
theorem om(i:Nat)(w:World)(a:i≤100):Calls Tryz.prog 87 #[int i64 1,int i64 i] w fun e w'=>e=.returned (.agg #[int .u8 0,int i64 (8000024+(i:Int)),int i64 0,slice none 0 0])∧Ft w w':=by
 have b:=Hd (fun W=>i4 i W a)
 go_enter Tryz.func87,Tryz.ntmps87
 go_wp2_with (first
  | (go_at_call 54;refine EJ (b.o _) ?_;rintro e w' ⟨rfl,rfl⟩))
 exact vY (r:=w.heap.size) rfl (n7 w _) ⟨rfl,(EB _ w).alloc (EA _) _⟩
theorem tD{W:World}{tmps:Array Value}{R:Ending→World→Prop}{r:Nat}{a b:Value}(e:tmps.getD 4 undef=.pointer (some ⟨r,0,none⟩))(d:W.heap[r]?=some (.cells #[a,b] 40 (0,0)))(f:R (.returned (.agg #[a,b])) W):bodyPost Tryz.prog Tryz.f25 R .ret ⟨tmps,[]⟩ W:=by
 have d0:W.cell? ⟨r,0,none⟩=some a:=by simp[World.cell?,d]
 have d1:W.cell? ⟨r,1,none⟩=some b:=by simp[World.cell?,d]
 have c:tmps[4]?.getD undef=.pointer (some ⟨r,0,none⟩):=by simpa using e
 refine bodyPost_ret (v:=.agg #[a,b]) ?_ rfl f;simp[results,Tryz.results25,go_sem,c,d0,d1]
theorem mP(i:Nat)(w:World)(a:i≤100):Calls Tryz.prog 25 #[int i64 1,int i64 i] w fun e w'=>e=.returned (.agg #[string ⟨#[]⟩,int i64 (8000024+(i:Int))])∧Ft w w':=by
 have b:=Hd (fun W=>i4 i W a)
 go_enter Tryz.func25,Tryz.ntmps25
 go_wp2_with (first
  | (go_at_call 54;refine EJ (b.o _) ?_;rintro e w' ⟨rfl,rfl⟩))
 exact tD (r:=w.heap.size) rfl (n7 w _) ⟨rfl,(EB _ w).alloc (EA _) _⟩
theorem t8{W:World}{tmps:Array Value}{R:Ending→World→Prop}{r:Nat}{b c c2 d c4:Value}(f:tmps.getD 4 undef=.pointer (some ⟨r,0,none⟩))(a:W.heap[r]?=some (.cells #[b,c,c2,d,c4] 38 (0,0)))(g:R (.returned (.agg #[b,c,c2,d,c4])) W):bodyPost Tryz.prog Tryz.f27 R .ret ⟨tmps,[]⟩ W:=by
 have d0:W.cell? ⟨r,0,none⟩=some b:=by simp[World.cell?,a]
 have d1:W.cell? ⟨r,1,none⟩=some c:=by simp[World.cell?,a]
 have d2:W.cell? ⟨r,2,none⟩=some c2:=by simp[World.cell?,a]
 have d3:W.cell? ⟨r,3,none⟩=some d:=by simp[World.cell?,a]
 have d4:W.cell? ⟨r,4,none⟩=some c4:=by simp[World.cell?,a]
 have e:tmps[4]?.getD undef=.pointer (some ⟨r,0,none⟩):=by simpa using f
 refine bodyPost_ret (v:=.agg #[b,c,c2,d,c4]) ?_ rfl g;simp[results,Tryz.results27,go_sem,e,d0,d1,d2,d3,d4]
theorem mJ(i:Nat)(w:World)(a:i≤100):Calls Tryz.prog 27 #[int i64 1,int i64 i] w fun e w'=>e=.returned (.agg #[string ⟨#[]⟩,int i64 0,int i64 (8000024+(i:Int)),slice none 0 0,slice none 0 0])∧Ft w w':=by
 have b:=Hd (fun W=>i4 i W a)
 go_enter Tryz.func27,Tryz.ntmps27
 go_wp2_with (first
  | (go_at_call 54;refine EJ (b.o _) ?_;rintro e w' ⟨rfl,rfl⟩))
 exact t8 (r:=w.heap.size) rfl (n7 w _) ⟨rfl,(EB _ w).alloc (EA _) _⟩
theorem l6{P:Program}{w:World}{ops:Array Oper}{rest:List Oper}{o:Oper}{a:Act}{Q:Exit→Act→World→Prop}(f:o.guard=none)(s x:Operand)(t:TypeId)
  (p:o.op=.call { callee:=.builtin .append,args:=#[s,x],argTypes:=#[t,t] }) (base:Nat) (e:TypeId) (i:TypeInfo) (size:Nat) (k:P.underlying t=some (.slice e)) (l:P.info? e=some i)
  (v:Value) (n:Nat) (xs:List Value) (q:a.eval s=v) (b:w.ownsRow base e size v n xs) (c:Nat) (u:a.eval x=slice none 0 c) (h:wpList P ops Q rest (a.put o.dst v) w):wpList P ops Q (o::rest) a w:=by
 refine wpList_plain f fun K y=>?_
 have d:(Builtin.append_ #[t,t] o.type #[v,slice none 0 c]).run P w=.ok v w:=by
  rcases b.2 with ⟨rfl,rfl⟩|⟨g,cap,cur,rfl,_,_,j,_⟩
  ·simp[Builtin.append_,run_underlying k,sizeOf,typeInfo,l,Builtin.lenOf,Builtin.firstCells]
  ·simp[Builtin.append_,run_underlying k,sizeOf,typeInfo,l,Builtin.lenOf,Builtin.firstCells,j,storeCells]
 unfold Oper.wp;simp[execOp,p,resolve,invoke,builtin,q,u,d,Result.andThen];exact y _ _ h
section
variable {α:Type} {r:Rd α} {w:World} {F:Nat→Prop} {xs:List α} {v:Value}
theorem pt(h:r.row w F xs v)(t:0<r.n):∃p c us,v=.slice p xs.length c∧r.cells w F xs us∧(∀u∈us,u.oneCell'=true)∧(p=none→xs=[])∧(∀q,p=some q→∀j u,us[j]?=some u→w.cell? (q.add j)=some u):=by
 rcases h with ⟨rfl,p,c,rfl⟩|⟨b,off,cap,G,H,_,I,J,rfl,y⟩
 ·exact⟨p,c,[],rfl,Rd.cells_nil,fun u hu=>(by cases hu),fun _=>rfl,fun _ _ j u a=>by simp at a⟩
 ·have f:∀j,j<xs.length*r.n→∃u,w.cell? ⟨b,off+j,none⟩=some u∧u.oneCell'=true:=fun j a=>by
   have o:j / r.n<xs.length:=by rw[Nat.div_lt_iff_lt_mul t];exact a
   obtain⟨vs,g,s⟩:=y (j / r.n) _ (EE o);have hm:j % r.n<vs.length:=by rw[r.len g];exact Nat.mod_lt _ t
   have:=s (j % r.n) _ (EE hm);have e:off+j / r.n*r.n+j % r.n=off+j:=by rw[Nat.add_assoc,Nat.mul_comm,Nat.div_add_mod]
   rw[e]at this;exact⟨_,this,r.one g _ (List.getElem_mem hm)⟩
  obtain⟨us,k,d⟩:=qd f;refine⟨_,_,us,rfl,⟨k,fun i x o=>?_⟩,fun u hu=>?_,fun e=>(by cases e),fun q e j u a=>?_⟩
  ·obtain⟨vs,g,s⟩:=y i x o;refine⟨vs,g,fun m u hm=>?_⟩;have A:m<r.n:=by rw[←r.len g];exact (EP.1 hm).1
   have l:i*r.n+m<us.length:=by
    rw[k];have B:i+1≤xs.length:=(EP.1 o).1;have:=Nat.mul_le_mul_right r.n B;rw[Nat.add_mul,Nat.one_mul]at this;omega
   have C:=(d _ _ (EE l)).1;have z:=s m u hm;rw[Nat.add_assoc,C]at z;rw[EE l];exact z
  ·obtain⟨j,a⟩:=List.mem_iff_getElem?.1 hu;exact (d j u a).2
  ·injection e with e
   subst e;have:=(d j u a).1;have D:(⟨b,off,none⟩:Addr).add j=⟨b,off+j,none⟩:=by unfold Addr.add;split<;>simp_all
   rw[D];exact this
end
def eS{α:Type} (r:Rd (List α)) (xs:List α) (w:World) (e:Ending) (w':World):Prop:=
 ∃s,e=.returned s∧Ft w w'∧r.at_ w' (fun b=>w.heap.size≤b∧b<w'.heap.size) xs [s]
def qL{α:Type} (rL r:Rd α) (E:TypeId) (ms xs:List α) (n:Nat) (us:List Value) (w:World) (o i:Value) (W:World):Prop:=
 ∃(a:World) (m:Nat) (vs:List Value),a=W∧m≤12∧o=slice (some ⟨w.heap.size,0,none⟩) (n+m) (n+12)∧i=int i64 m∧
  a.ownsRow w.heap.size E r.n (slice (some ⟨w.heap.size,0,none⟩) (n+m) (n+12)) (n+m) (us++vs)∧Ft w a∧w.heap.size<a.heap.size∧
  rL.cells a (fun b=>w.heap.size<b∧b<a.heap.size) xs us∧r.cells a (fun _=>False) (ms.take m) vs
section
variable {α:Type} {rL r:Rd α} {E:TypeId} {ms xs:List α} {n m:Nat} {us vs:List Value} {w W W':World}
theorem iv(e:rL.n=r.n)(f:xs.length=n)(hm:ms.length=12)(a:W.ownsRow w.heap.size E r.n (slice (some ⟨w.heap.size,0,none⟩) (n+12) (n+12)) (n+12) (us++vs))(g:Ft w W)(c:w.heap.size<W.heap.size)
  (i:rL.cells W (fun b=>w.heap.size<b∧b<W.heap.size) xs us) (d:r.cells W (fun _=>False) (ms.take 12) vs):eS (bJ rL r ms) xs w (.returned (slice (some ⟨w.heap.size,0,none⟩) n (n+12))) W:=by
 rw[ER (by omega)]at d;exact⟨_,rfl,g,Cf e f hm a (Rd.cells_sub (fun b h=>⟨Fa h.1,h.2⟩) i) (Rd.cells_sub (fun b h=>h.elim) d) ⟨EA _,c⟩⟩
theorem dF(h:rL.cells W (fun b=>w.heap.size<b∧b<W.heap.size) xs us)(a:W.grownBy W' (some w.heap.size)):rL.cells W' (fun b=>w.heap.size<b∧b<W'.heap.size) xs us:=
 Rd.cells_sub (fun b h=>⟨h.1,EF h.2 a.size⟩) (Rd.cells_keep (fun b c o d=>(a.block b c.2 (by intro e;simp at e;omega)).trans d) h)
theorem bA(h:rL.cells W (fun b=>w.heap.size<b∧b<W.heap.size) xs us)(c:Ft W W'):rL.cells W' (fun b=>w.heap.size<b∧b<W'.heap.size) xs us:=
 Rd.cells_sub (fun _b h=>⟨h.1,EF h.2 c.size⟩) (Rd.cells_keep (fun b a _o d=>(c.block b a.2).trans d) h)
theorem gC{ws:List Value}(f:Int→α)(h:r.cells W (fun _=>False) ((marks f).take m) vs)(hm:m<12)(a:r.at_ W' (fun _=>False) (f (db m)) ws):r.cells W' (fun _=>False) ((marks f).take (m+1)) (vs++ws):=by
 rw[Fg,il f hm];exact Rd.cells_snoc (Rd.cells_keep (fun b c=>c.elim) h) a
end
theorem jz{P:Program}{w:World}{ops:Array Oper}{rest:List Oper}{o:Oper}{a:Act}{Q:Exit→Act→World→Prop}(k:o.guard=none)(s x:Operand)(t:TypeId)
  (z:o.op=.call { callee:=.builtin .append,args:=#[s,x],argTypes:=#[t,t] }) (base:Nat) (e:TypeId) (i:TypeInfo) (size:Nat) (A:P.underlying t=some (.slice e)) (B:P.info? e=some i) (d:i.size=size)
  (g cap:Nat) (C:a.eval s=slice (some ⟨g,0,none⟩) 0 cap) (b:w.ownsRow base e size (slice (some ⟨g,0,none⟩) 0 cap) 0 []) (p:Option Addr) (m c:Nat) (news:List Value) (D:a.eval x=.slice p m c) (H:news.length=m*size)
  (q:p=none→m=0) (f:∀l,p=some l→∀j u,news[j]?=some u→w.cell? (l.add j)=some u) (I:∀u∈news,u.oneCell'=true) (y:m≤cap)
  (h:∀w',w'.ownsRow base e size (slice (some ⟨g,0,none⟩) m cap) m news→w.grownBy w' (some g)→wpList P ops Q rest (a.put o.dst (slice (some ⟨g,0,none⟩) m cap)) w'):wpList P ops Q (o::rest) a w:=by
 cases p with
 | none =>
  have hm:=q rfl;subst hm;obtain rfl:news=[]:=EX (by omega);exact l6 k s x t z base e i size A B _ 0 [] C b c D (h w b (World.grownBy.refl _ _))
 | some l =>
  refine wpList_append_own_spare _ k s x t z base e i size A B d g 0 cap [] C b l m c news D H (f l rfl) I (by omega) fun w' G J=>?_
  rw[Nat.zero_add]at G ⊢;exact h w' G J
theorem qb{α:Type}{r:Rd α}{w w':World}{F F':Nat→Prop}{xs:List α}{us:List Value}(a:∀x vs,r.at_ w F x vs→r.at_ w' F' x vs)(h:r.cells w F xs us):r.cells w' F' xs us:=
 ⟨h.1,fun i x b=>by obtain⟨vs,c,d⟩:=h.2 i x b;exact⟨vs,a x vs c,d⟩⟩
theorem Dh:(Tryz.prog.info? 55).map (fun i=>(i.zero,i.size,i.bytes))=some (some (.agg #[int .u8 0,int i64 0,int .u8 0,int i64 0,.string ByteArray.empty]),5,48):=by kernel_rfl
theorem ul(m:Nat)(hm:m<12)(w:World)(F:Nat→Prop):dm.at_ w F (jR (db m)) [int .u8 0,int i64 (8000024+(m:Int)),int .u8 0,int i64 0,string ⟨#[]⟩]:=eP.2 (by
 have a:I64 (8000024+(m:Int)):=⟨by omega,by omega⟩;have b:I64 0:=⟨by decide,by decide⟩;have hu:U8 0:=⟨by decide,by decide⟩;have c:(⟨#[]⟩:ByteArray).size≤maxLen:=by decide
 exact⟨rfl,hu,a,hu,b,c⟩)
theorem uk(F:Nat→Prop)(xs:List cg)(v:Value)(w:World)(h:dm.row w F xs v)(hn:xs.length≤20000):Calls Tryz.prog 116 #[v] w (eS (bJ dm dm (marks jR)) xs w):=by
 obtain⟨p,c,us,hv,G,R,S,H⟩:=pt h (by decide);obtain⟨n,f⟩:=zzy (xs.length);have t:p=none→n=0:=fun e=>by rw[←f,S e];rfl
 have T:us.length=n*5:=by rw[←f];exact G.1
 rw[f]at hv hn;subst hv;obtain⟨i0,I,aq,J,ar⟩:=info_parts Dh;obtain⟨C,hC⟩:=zzy (madeCells (Value.cells (.agg #[int .u8 0,int i64 0,int .u8 0,int i64 0,.string ByteArray.empty])) ((n+12)*5));have U:C.size=(n+12)*5:=by rw[←hC];exact size_madeCells _ _
 have av:∀W:World,(Instr.makeSlice 42 (int i64 0) (int i64 ((n:Int)+12))).run Tryz.prog W=.ok (slice (some ⟨W.heap.size,0,none⟩) 0 (n+12)) (W.alloc (.cells C 55)):=by
  intro W;have h:=run_make (P:=Tryz.prog) W 42 55 i0 _ Tryz.underlying42 I aq i64 i64 0 ((n:Int)+12) (by omega) (by omega) (by rw[ar];omega) (by omega);rw[h,J,show ((n:Int)+12).toNat=n+12 by omega,hC];rfl
 have y:=Hd (World.ownsRow_made (base:=w.heap.size) (e:=55) (size:=5) w C (n+12) (EA _) (by unfold maxLen;omega) U);obtain⟨W0,q⟩:=zzx (w.alloc (.cells C 55));have K:Ft w W0:=by rw[q];exact (EB _ w).alloc (EA _) _
 have V:w.heap.size<W0.heap.size:=by rw[q];simp
 rw[←q]at y;have a1:=Hd K;have a6:=Hd (fun ad (e:p=some ad) j u (hj:us[j]?=some u)=>(K.cell (p:=ad.add j) (by have:=World.block_lt_of_cell? w _ (H ad e j u hj);exact this)).trans (H ad e j u hj));have a7:=Hd G;have HL:=Hd T;have H1:=Hd R;have a8:=Hd t;have HN:=Hd f;have HM:=Hd (fun j W (hj:j≤100)=>nS j W hj);clear h G S t H T R f hC U K
 go_enter Tryz.func116,Tryz.ntmps116
 go_wp2_with (at_builtin;go_must (first|rw[←q] | skip);go_must (refine jz rfl (.tmp 9) (.tmp 10) 42 rfl w.heap.size 55 i0 5 Tryz.underlying42 I J w.heap.size (n+12) rfl y.o p n c us rfl HL.o a8.o a6.o H1.o (by omega) ?_);intro w2 g a)
 have X:Ft w w2:=below_grown a1.o (Fa V) a (EA _);have ba:w.heap.size<w2.heap.size:=EF V a.size;have Y:=Hd (qb (w':=w2) (F':=fun b=>w.heap.size<b∧b<w2.heap.size) (fun x vs hx=>eP.2 (eP.1 hx)) a7.o);have L:=Hd g;have bb:=Hd X;clear g X a av
 go_loopw [3,4] (qL dm dm 55 (marks jR) xs n us w) (fun _ i _=>12-(intOf i).toNat)
 case atStart=>exact⟨_,0,[],rfl,by omega,rfl,rfl,by rw[List.append_nil];exact L.o,bb.o,ba,Y.o,Rd.cells_nil⟩
 case round =>
  obtain⟨W3,m,vs,rfl,hm,rfl,rfl,z,hb,Z,af,ak⟩:=hrel;have k:=Hd z;have l:=Hd hb;have A:=Hd af;have B:=Hd ak;have bk:(0:Int)≤m:=by omega
  clear z af hb ak
  by_cases M:m<12
  ·have bl:(m:Int)<12:=by omega
   go_wp2_with fail
   refine EJ (HM.o m _ (by omega)) ?_;rintro e W4 ⟨rfl,s⟩;have N:=ownsRow_below k.o s;have D:=s.size;have an:=Hd s;clear s;go_wp2_with (at_builtin;go_must (refine wpList_append_own_spare _ rfl (.tmp 16) (.tmp 19) 42 rfl w.heap.size 55 i0 5 Tryz.underlying42 I J w.heap.size (n+m) (n+12) (us++vs) rfl (N.alloc _) ⟨W4.heap.size,0,none⟩ 1 1 [int .u8 0,int i64 (8000024+(m:Int)),int .u8 0,int i64 0,string ⟨#[]⟩] rfl rfl (by exact iz W4 [int .u8 0,int i64 (8000024+(m:Int)),int .u8 0,int i64 0,string ⟨#[]⟩] 55) (by simp[Value.oneCell']) (by omega) ?_);intro w7 O d)
   have bc:=d.size;simp only[World.size_alloc]at bc;have Q:Ft W4 (W4.alloc (.cells #[int .u8 0,int i64 (8000024+(m:Int)),int .u8 0,int i64 0,string ⟨#[]⟩] 55)):=(EB _ W4).alloc (EA _) _;have bd:Ft w w7:=below_grown ((l.o.trans (an.o.mono l.o.size)).trans (Q.mono (EG l.o.size D))) (EG l.o.size (EG D Q.size)) d (EA _);refine⟨⟨w7,m+1,vs++[int .u8 0,int i64 (8000024+(m:Int)),int .u8 0,int i64 0,string ⟨#[]⟩],rfl,by omega,rfl,by go_num,by rw[←List.append_assoc];exact O,bd,by omega,dF (bA (bA A.o an.o) Q) d,gC jR B.o M (ul m M _ _)⟩,by simp[intOf];omega⟩
  ·obtain rfl:m=12:=by omega
   clear M;go_wp2_with fail
   go_ret;exact iv rfl HN.o (dQ _) k.o l.o Z A.o B.o
theorem B5:(Tryz.prog.info? 40).map (fun i=>(i.zero,i.size,i.bytes))=some (some (.agg #[.string ByteArray.empty,int i64 0]),2,24):=by kernel_rfl
theorem rm(m:Nat)(hm:m<12)(w:World)(F:Nat→Prop):bo.at_ w F (eW (db m)) [string ⟨#[]⟩,int i64 (8000024+(m:Int))]:=dN.2 (by
 have a:I64 (8000024+(m:Int)):=⟨by omega,by omega⟩;have c:I64 0:=⟨by decide,by decide⟩;have hu:U8 0:=⟨by decide,by decide⟩;have b:(⟨#[]⟩:ByteArray).size≤maxLen:=by decide
 exact⟨rfl,b,a⟩)
theorem so(F:Nat→Prop)(xs:List ai)(v:Value)(w:World)(h:bo.row w F xs v)(hn:xs.length≤20000):Calls Tryz.prog 12 #[v] w (eS (bJ bo bo (marks eW)) xs w):=by
 obtain⟨p,c,us,hv,G,R,S,H⟩:=pt h (by decide);obtain⟨n,f⟩:=zzy (xs.length);have t:p=none→n=0:=fun e=>by rw[←f,S e];rfl
 have T:us.length=n*2:=by rw[←f];exact G.1
 rw[f]at hv hn;subst hv;obtain⟨i0,I,aq,J,ar⟩:=info_parts B5;obtain⟨C,hC⟩:=zzy (madeCells (Value.cells (.agg #[.string ByteArray.empty,int i64 0])) ((n+12)*2));have U:C.size=(n+12)*2:=by rw[←hC];exact size_madeCells _ _
 have av:∀W:World,(Instr.makeSlice 22 (int i64 0) (int i64 ((n:Int)+12))).run Tryz.prog W=.ok (slice (some ⟨W.heap.size,0,none⟩) 0 (n+12)) (W.alloc (.cells C 40)):=by
  intro W;have h:=run_make (P:=Tryz.prog) W 22 40 i0 _ Tryz.underlying22 I aq i64 i64 0 ((n:Int)+12) (by omega) (by omega) (by rw[ar];omega) (by omega);rw[h,J,show ((n:Int)+12).toNat=n+12 by omega,hC];rfl
 have y:=Hd (World.ownsRow_made (base:=w.heap.size) (e:=40) (size:=2) w C (n+12) (EA _) (by unfold maxLen;omega) U);obtain⟨W0,q⟩:=zzx (w.alloc (.cells C 40));have K:Ft w W0:=by rw[q];exact (EB _ w).alloc (EA _) _
 have V:w.heap.size<W0.heap.size:=by rw[q];simp
 rw[←q]at y;have a1:=Hd K;have a6:=Hd (fun ad (e:p=some ad) j u (hj:us[j]?=some u)=>(K.cell (p:=ad.add j) (by have:=World.block_lt_of_cell? w _ (H ad e j u hj);exact this)).trans (H ad e j u hj));have a7:=Hd G;have HL:=Hd T;have H1:=Hd R;have a8:=Hd t;have HN:=Hd f;have HM:=Hd (fun j W (hj:j≤100)=>mP j W hj);clear h G S t H T R f hC U K
 go_enter Tryz.func12,Tryz.ntmps12
 go_wp2_with (at_builtin;go_must (first|rw[←q] | skip);go_must (refine jz rfl (.tmp 9) (.tmp 10) 22 rfl w.heap.size 40 i0 2 Tryz.underlying22 I J w.heap.size (n+12) rfl y.o p n c us rfl HL.o a8.o a6.o H1.o (by omega) ?_);intro w2 g a)
 have X:Ft w w2:=below_grown a1.o (Fa V) a (EA _);have ba:w.heap.size<w2.heap.size:=EF V a.size;have Y:=Hd (qb (w':=w2) (F':=fun b=>w.heap.size<b∧b<w2.heap.size) (fun x vs hx=>dN.2 (dN.1 hx)) a7.o);have L:=Hd g;have bb:=Hd X;clear g X a av
 go_loopw [3,4] (qL bo bo 40 (marks eW) xs n us w) (fun _ i _=>12-(intOf i).toNat)
 case atStart=>exact⟨_,0,[],rfl,by omega,rfl,rfl,by rw[List.append_nil];exact L.o,bb.o,ba,Y.o,Rd.cells_nil⟩
 case round =>
  obtain⟨W3,m,vs,rfl,hm,rfl,rfl,z,hb,Z,af,ak⟩:=hrel;have k:=Hd z;have l:=Hd hb;have A:=Hd af;have B:=Hd ak;have bk:(0:Int)≤m:=by omega
  clear z af hb ak
  by_cases M:m<12
  ·have bl:(m:Int)<12:=by omega
   go_wp2_with fail
   refine EJ (HM.o m _ (by omega)) ?_;rintro e W4 ⟨rfl,s⟩;have N:=ownsRow_below k.o s;have D:=s.size;have an:=Hd s;clear s;go_wp2_with (at_builtin;go_must (refine wpList_append_own_spare _ rfl (.tmp 16) (.tmp 19) 22 rfl w.heap.size 40 i0 2 Tryz.underlying22 I J w.heap.size (n+m) (n+12) (us++vs) rfl (N.alloc _) ⟨W4.heap.size,0,none⟩ 1 1 [string ⟨#[]⟩,int i64 (8000024+(m:Int))] rfl rfl (by exact iz W4 [string ⟨#[]⟩,int i64 (8000024+(m:Int))] 40) (by simp[Value.oneCell']) (by omega) ?_);intro w7 O d)
   have bc:=d.size;simp only[World.size_alloc]at bc;have Q:Ft W4 (W4.alloc (.cells #[string ⟨#[]⟩,int i64 (8000024+(m:Int))] 40)):=(EB _ W4).alloc (EA _) _;have bd:Ft w w7:=below_grown ((l.o.trans (an.o.mono l.o.size)).trans (Q.mono (EG l.o.size D))) (EG l.o.size (EG D Q.size)) d (EA _);refine⟨⟨w7,m+1,vs++[string ⟨#[]⟩,int i64 (8000024+(m:Int))],rfl,by omega,rfl,by go_num,by rw[←List.append_assoc];exact O,bd,by omega,dF (bA (bA A.o an.o) Q) d,gC eW B.o M (rm m M _ _)⟩,by simp[intOf];omega⟩
  ·obtain rfl:m=12:=by omega
   clear M;go_wp2_with fail
   go_ret;exact iv rfl HN.o (dQ _) k.o l.o Z A.o B.o
def fM{α:Type} (rL:Rd α) (x:α) (w:World) (e:Ending) (w':World):Prop:=
 ∃us,e=.returned (.agg us.toArray)∧Ft w w'∧rL.at_ w' (fun b=>w.heap.size≤b∧b<w'.heap.size) x us
def yi{α:Type} (rL:Rd α) (E:TypeId) (N:Nat) (xs:List α) (n:Nat) (w c:World) (o i:Value) (W:World):Prop:=
 ∃(a:World) (k:Nat) (us:List Value),a=W∧k≤n∧o=slice (some ⟨w.heap.size,0,none⟩) k (n+12)∧i=int i64 k∧
  a.ownsRow w.heap.size E N (slice (some ⟨w.heap.size,0,none⟩) k (n+12)) k us∧Ft w a∧c.heap.size≤a.heap.size∧rL.cells a (fun b=>w.heap.size<b∧b<a.heap.size) (xs.take k) us
theorem Cy:(Tryz.prog.info? 50).map (fun i=>(i.zero,i.size,i.bytes))=some (some (.agg #[int .u8 0,int .u8 0,int i64 0,.string ByteArray.empty,int i64 0,int .u8 0,slice none 0 0]),7,80):=by kernel_rfl
theorem j5(F:Nat→Prop)(rL r:Rd ag)(ar:rL.n=7)(av:r.n=7)(hle:rL.Le r)(a1:∀w F t vs,r.at_ w F t vs→∃J K L,vs=[int .u8 t.kind,int .u8 t.val.kind,int i64 t.val.num,.string t.val.text,int i64 t.var,int .u8 t.op,.slice J K L])
  (a6:∀m,m<12→∀w,r.at_ w (fun _=>False) (fw (db m)) [int .u8 0,int .u8 0,int i64 0,string ⟨#[]⟩,int i64 (8000024+(m:Int)),int .u8 0,slice none 0 0]) (xs:List ag) (v:Value) (w:World) (h:r.row w F xs v) (hF:∀b,F b→b<w.heap.size) (hn:xs.length≤20000)
  (a7:∀t∈xs,∀W J K L,Ft w W→r.at_ W F t [int .u8 t.kind,int .u8 t.val.kind,int i64 t.val.num,.string t.val.text,int i64 t.var,int .u8 t.op,.slice J K L]→Calls Tryz.prog 117 #[.agg #[int .u8 t.kind,int .u8 t.val.kind,int i64 t.val.num,.string t.val.text,int i64 t.var,int .u8 t.op,.slice J K L]] W (fM rL t W)) :
  Calls Tryz.prog 118 #[v] w (eS (bJ rL r (marks fw)) xs w):=by
 obtain⟨p,c,hv⟩:=Rd.row_shape h;obtain⟨n,U⟩:=zzy (xs.length);rw[U]at hv hn;subst hv;obtain⟨i0,V,bt,X,bB⟩:=info_parts Cy;obtain⟨C,hC⟩:=zzy (madeCells (Value.cells (.agg #[int .u8 0,int .u8 0,int i64 0,.string ByteArray.empty,int i64 0,int .u8 0,slice none 0 0])) ((n+12)*7));have a8:C.size=(n+12)*7:=by rw[←hC];exact size_madeCells _ _
 have ba:∀W:World,(Instr.makeSlice 48 (int i64 0) (int i64 ((n:Int)+12))).run Tryz.prog W=.ok (slice (some ⟨W.heap.size,0,none⟩) 0 (n+12)) (W.alloc (.cells C 50)):=by
  intro W;have h:=run_make (P:=Tryz.prog) W 48 50 i0 _ Tryz.underlying48 V bt i64 i64 0 ((n:Int)+12) (by omega) (by omega) (by rw[bB];omega) (by omega);rw[h,X,show ((n:Int)+12).toNat=n+12 by omega,hC];rfl
 have M:=Hd (World.ownsRow_made (base:=w.heap.size) (e:=50) (size:=7) w C (n+12) (EA _) (by unfold maxLen;omega) a8);obtain⟨W0,B⟩:=zzx (w.alloc (.cells C 50));have bb:Ft w W0:=by rw[B];exact (EB _ w).alloc (EA _) _
 have b8:w.heap.size<W0.heap.size:=by rw[B];simp
 rw[←B]at M;have bR:=Hd bb;have HN:=Hd U;have bc:=Hd h;have b0:=Hd a7;have HF:=Hd hF;have b1:=Hd a6;have bd:=Hd a1;have b2:=Hd hle;have q:=Hd av;have b3:=Hd ar;have HM:=Hd (fun j W (hj:j≤100)=>mx j W hj);clear h a7 hF a6 a1 hle av ar U hC a8 bb
 go_enter Tryz.func118,Tryz.ntmps118
 go_wp2_with fail
 rw[←B]
 go_loopw [3,4] (yi rL 50 7 xs n w W0) (fun _ i _=>n-(intOf i).toNat)
 case atStart=>exact⟨_,0,[],rfl,EM _,rfl,rfl,M.o,bR.o,EA _,Rd.cells_nil⟩
 case round =>
  obtain⟨D,k,us,rfl,hk,rfl,rfl,d,G,b9,s⟩:=hrel;have b4:(0:Int)≤k:=by omega
  have x:=Hd d;have y:=Hd G;have bk:=Hd s;clear d s
  by_cases g:k<n
  ·obtain⟨t,ht⟩:∃t,xs[k]?=some t:=⟨xs[k]'(by rw[HN.o];exact g),EE (by rw[HN.o];exact g)⟩;have N:t∈xs:=EU ht;obtain⟨b,off,cap,vs,hv,_,_,b5,b6,Y,Z⟩:=Rd.row_at bc.o ht;injection hv with e1 e2 e3
   subst e1;obtain⟨J,K,L,rfl⟩:=bd.o _ _ _ _ Y;rw[q.o]at Z;have O:∀j u,[int .u8 t.kind,int .u8 t.val.kind,int i64 t.val.num,.string t.val.text,int i64 t.var,int .u8 t.op,.slice J K L][j]?=some u→D.cell? ⟨b,off+k*7+j,none⟩=some u:=fun j u hj=>(G.cell (p:=⟨b,off+k*7+j,none⟩) b6).trans (Z j u hj)
   have d0:D.cell? ⟨b,off+k*7,none⟩=some (int .u8 t.kind):=O 0 _ rfl;have d1:D.cell? ⟨b,off+k*7+1,none⟩=some (int .u8 t.val.kind):=O 1 _ rfl;have d2:D.cell? ⟨b,off+k*7+2,none⟩=some (int i64 t.val.num):=O 2 _ rfl;have d3:D.cell? ⟨b,off+k*7+3,none⟩=some (.string t.val.text):=O 3 _ rfl;have d4:D.cell? ⟨b,off+k*7+4,none⟩=some (int i64 t.var):=O 4 _ rfl;have d5:D.cell? ⟨b,off+k*7+5,none⟩=some (int .u8 t.op):=O 5 _ rfl;have d6:D.cell? ⟨b,off+k*7+6,none⟩=some (.slice J K L):=O 6 _ rfl;have HT:=Hd ht;have ca:(k:Int)<n:=by omega
   have ad:=Hd (b0.o t N D J K L G (Rd.below Y HF.o G));clear ht N G Y Z O e2 e3 b5;go_wp2_with fail
   refine ad.o.mono ?_;rintro e W2 ⟨cc,rfl,H,hl⟩;obtain⟨q2,l2,c2,rfl⟩:=bd.o _ _ _ _ (b2.o _ _ _ _ hl);have bl:=Hd H;have HL:=Hd hl;have af:=ownsRow_below x.o H;have Q:=H.size;clear H hl;go_wp2_with (at_builtin;go_must (refine wpList_append_own_spare _ rfl (.tmp 22) (.tmp 24) 48 rfl w.heap.size 50 i0 7 Tryz.underlying48 V X w.heap.size k (n+12) us rfl ((af.alloc _).alloc _) ⟨W2.heap.size+1,0,none⟩ 1 1 [int .u8 t.kind,int .u8 t.val.kind,int i64 t.val.num,.string t.val.text,int i64 t.var,int .u8 t.op,.slice q2 l2 c2] rfl rfl (by exact kp W2 _ [int .u8 t.kind,int .u8 t.val.kind,int i64 t.val.num,.string t.val.text,int i64 t.var,int .u8 t.op,.slice q2 l2 c2] 50) (by simp[Value.oneCell']) (by omega) ?_);intro w7 l a)
   have ak:=a.size;simp only[World.size_alloc]at ak;have f:Ft W2 ((W2.alloc (.cells #[int .u8 t.kind,int .u8 t.val.kind,int i64 t.val.num,.string t.val.text,int i64 t.var,int .u8 t.op,.slice q2 l2 c2] 50)).alloc (.cells #[int .u8 t.kind,int .u8 t.val.kind,int i64 t.val.num,.string t.val.text,int i64 t.var,int .u8 t.op,.slice q2 l2 c2] 50)):=((EB _ W2).alloc (EA _) _).alloc (by simp) _;have an:Ft w w7:=below_grown ((y.o.trans (bl.o.mono y.o.size)).trans (f.mono (EG y.o.size Q))) (EG y.o.size (EG Q f.size)) a (EA _);have b7:rL.at_ w7 (fun b=>w.heap.size<b∧b<w7.heap.size) t [int .u8 t.kind,int .u8 t.val.kind,int i64 t.val.num,.string t.val.text,int i64 t.var,int .u8 t.op,.slice q2 l2 c2]:=rL.sub (fun b h=>⟨by have:=h.1;omega,by have:=h.2;omega⟩)
    (rL.keep (fun b h o ho=>(a.block b (by have:=h.2;have:=f.size;omega) (by intro e;simp at e;have:=h.1;omega)).trans ((f.block b h.2).trans ho)) HL.o)
   refine⟨⟨w7,k+1,us++[int .u8 t.kind,int .u8 t.val.kind,int i64 t.val.num,.string t.val.text,int i64 t.var,int .u8 t.op,.slice q2 l2 c2],rfl,by omega,rfl,by go_num,l,an,by omega,?_⟩,by simp[intOf];omega⟩;rw[Fg,HT.o];exact Rd.cells_snoc (dF (bA (bA bk.o bl.o) f) a) b7
  ·obtain rfl:k=n:=by omega
   clear hk g b4 G ba;go_wp2_with fail
   go_loopw [3,6] (qL rL r 50 (marks fw) xs k us w) (fun _ i _=>12-(intOf i).toNat)
   case atStart=>exact⟨_,0,[],rfl,by omega,rfl,rfl,by rw[List.append_nil,q.o];exact x.o,y.o,by omega,by have:=bk.o;rw[ER (by rw[HN.o];exact EA _)]at this;exact this,Rd.cells_nil⟩
   case round =>
    obtain⟨W3,m,vs,rfl,hm,rfl,rfl,d,G,bn,s,bq⟩:=hrel;rw[q.o]at d;have z:=Hd d;have A:=Hd G;have R:=Hd s;have S:=Hd bq;have ch:(0:Int)≤m:=by omega
    clear d s G bq
    by_cases g:m<12
    ·have ck:(m:Int)<12:=by omega
     go_wp2_with fail
     refine EJ (HM.o m _ (by omega)) ?_;rintro e W4 ⟨rfl,I⟩;have aq:=ownsRow_below z.o I;have T:=I.size;have br:=Hd I;clear I;go_wp2_with (at_builtin;go_must (refine wpList_append_own_spare _ rfl (.tmp 30) (.tmp 33) 48 rfl w.heap.size 50 i0 7 Tryz.underlying48 V X w.heap.size (k+m) (k+12) (us++vs) rfl (aq.alloc _) ⟨W4.heap.size,0,none⟩ 1 1 [int .u8 0,int .u8 0,int i64 0,string ⟨#[]⟩,int i64 (8000024+(m:Int)),int .u8 0,slice none 0 0] rfl rfl (by exact iz W4 [int .u8 0,int .u8 0,int i64 0,string ⟨#[]⟩,int i64 (8000024+(m:Int)),int .u8 0,slice none 0 0] 50) (by simp[Value.oneCell']) (by omega) ?_);intro w7 l a)
     have ak:=a.size;simp only[World.size_alloc]at ak;have f:Ft W4 (W4.alloc (.cells #[int .u8 0,int .u8 0,int i64 0,string ⟨#[]⟩,int i64 (8000024+(m:Int)),int .u8 0,slice none 0 0] 50)):=(EB _ W4).alloc (EA _) _;have an:Ft w w7:=below_grown ((A.o.trans (br.o.mono A.o.size)).trans (f.mono (EG A.o.size T))) (EG A.o.size (EG T f.size)) a (EA _);refine⟨⟨w7,m+1,vs++[int .u8 0,int .u8 0,int i64 0,string ⟨#[]⟩,int i64 (8000024+(m:Int)),int .u8 0,slice none 0 0],rfl,by omega,rfl,by go_num,by rw[←List.append_assoc,q.o];exact l,an,by omega,dF (bA (bA R.o br.o) f) a,gC fw S.o g (b1.o m g _)⟩,by simp[intOf];omega⟩
    ·obtain rfl:m=12:=by omega
     clear g;go_wp2_with fail
     go_ret;exact iv (by rw[b3.o,q.o]) HN.o (dQ _) (by rw[q.o];exact z.o) A.o bn R.o S.o
theorem Ds:(Tryz.prog.info? 58).map (fun i=>(i.zero,i.size,i.bytes))=some (some (.agg #[int .u8 0,int i64 0,int i64 0,slice none 0 0]),4,48):=by kernel_rfl
theorem vh(F:Nat→Prop)(rL r:Rd aT)(an:rL.n=4)(aq:r.n=4)(hle:rL.Le r)(ar:∀w F t vs,r.at_ w F t vs→∃I J K,vs=[int .u8 t.kind,int i64 t.type,int i64 t.which,.slice I J K])
  (av:∀m,m<12→∀w,r.at_ w (fun _=>False) (iD (db m)) [int .u8 0,int i64 (8000024+(m:Int)),int i64 0,slice none 0 0]) (xs:List aT) (v:Value) (w:World) (h:r.row w F xs v) (hF:∀b,F b→b<w.heap.size) (hn:xs.length≤20000)
  (a1:∀t∈xs,∀W I J K,Ft w W→r.at_ W F t [int .u8 t.kind,int i64 t.type,int i64 t.which,.slice I J K]→Calls Tryz.prog 86 #[.agg #[int .u8 t.kind,int i64 t.type,int i64 t.which,.slice I J K]] W (fM rL t W)) :
  Calls Tryz.prog 56 #[v] w (eS (bJ rL r (marks iD)) xs w):=by
 obtain⟨p,c,hv⟩:=Rd.row_shape h;obtain⟨n,S⟩:=zzy (xs.length);rw[S]at hv hn;subst hv;obtain⟨i0,T,bq,U,br⟩:=info_parts Ds;obtain⟨C,hC⟩:=zzy (madeCells (Value.cells (.agg #[int .u8 0,int i64 0,int i64 0,slice none 0 0])) ((n+12)*4));have a6:C.size=(n+12)*4:=by rw[←hC];exact size_madeCells _ _
 have a7:∀W:World,(Instr.makeSlice 36 (int i64 0) (int i64 ((n:Int)+12))).run Tryz.prog W=.ok (slice (some ⟨W.heap.size,0,none⟩) 0 (n+12)) (W.alloc (.cells C 58)):=by
  intro W;have h:=run_make (P:=Tryz.prog) W 36 58 i0 _ Tryz.underlying36 T bq i64 i64 0 ((n:Int)+12) (by omega) (by omega) (by rw[br];omega) (by omega);rw[h,U,show ((n:Int)+12).toNat=n+12 by omega,hC];rfl
 have L:=Hd (World.ownsRow_made (base:=w.heap.size) (e:=58) (size:=4) w C (n+12) (EA _) (by unfold maxLen;omega) a6);obtain⟨W0,B⟩:=zzx (w.alloc (.cells C 58));have a8:Ft w W0:=by rw[B];exact (EB _ w).alloc (EA _) _
 have b6:w.heap.size<W0.heap.size:=by rw[B];simp
 rw[←B]at L;have bt:=Hd a8;have HN:=Hd S;have ba:=Hd h;have bB:=Hd a1;have HF:=Hd hF;have bR:=Hd av;have bb:=Hd ar;have b0:=Hd hle;have q:=Hd aq;have b1:=Hd an;have HM:=Hd (fun j W (hj:j≤100)=>om j W hj);clear h a1 hF av ar hle aq an S hC a6 a8
 go_enter Tryz.func56,Tryz.ntmps56
 go_wp2_with fail
 rw[←B]
 go_loopw [3,4] (yi rL 58 4 xs n w W0) (fun _ i _=>n-(intOf i).toNat)
 case atStart=>exact⟨_,0,[],rfl,EM _,rfl,rfl,L.o,bt.o,EA _,Rd.cells_nil⟩
 case round =>
  obtain⟨W1,k,us,rfl,hk,rfl,rfl,d,D,b7,s⟩:=hrel;have b2:(0:Int)≤k:=by omega
  have x:=Hd d;have y:=Hd D;have bc:=Hd s;clear d s
  by_cases g:k<n
  ·obtain⟨t,ht⟩:∃t,xs[k]?=some t:=⟨xs[k]'(by rw[HN.o];exact g),EE (by rw[HN.o];exact g)⟩;have M:t∈xs:=EU ht;obtain⟨b,off,cap,vs,hv,_,_,b3,b4,V,X⟩:=Rd.row_at ba.o ht;injection hv with e1 e2 e3
   subst e1;obtain⟨I,J,K,rfl⟩:=bb.o _ _ _ _ V;rw[q.o]at X;have ec:∀j u,[int .u8 t.kind,int i64 t.type,int i64 t.which,.slice I J K][j]?=some u→W1.cell? ⟨b,off+k*4+j,none⟩=some u:=fun j u hj=>(D.cell (p:=⟨b,off+k*4+j,none⟩) b4).trans (X j u hj)
   have d0:W1.cell? ⟨b,off+k*4,none⟩=some (int .u8 t.kind):=ec 0 _ rfl;have d1:W1.cell? ⟨b,off+k*4+1,none⟩=some (int i64 t.type):=ec 1 _ rfl;have d2:W1.cell? ⟨b,off+k*4+2,none⟩=some (int i64 t.which):=ec 2 _ rfl;have d3:W1.cell? ⟨b,off+k*4+3,none⟩=some (.slice I J K):=ec 3 _ rfl;have HT:=Hd ht;have b8:(k:Int)<n:=by omega
   have Y:=Hd (bB.o t M W1 I J K D (Rd.below V HF.o D));clear ht M D V X ec e2 e3 b3;go_wp2_with fail
   refine Y.o.mono ?_;rintro e W2 ⟨b9,rfl,G,hl⟩;obtain⟨q2,l2,c2,rfl⟩:=bb.o _ _ _ _ (b0.o _ _ _ _ hl);have bd:=Hd G;have HL:=Hd hl;have Z:=ownsRow_below x.o G;have N:=G.size;clear G hl;go_wp2_with (at_builtin;go_must (refine wpList_append_own_spare _ rfl (.tmp 22) (.tmp 24) 36 rfl w.heap.size 58 i0 4 Tryz.underlying36 T U w.heap.size k (n+12) us rfl ((Z.alloc _).alloc _) ⟨W2.heap.size+1,0,none⟩ 1 1 [int .u8 t.kind,int i64 t.type,int i64 t.which,.slice q2 l2 c2] rfl rfl (by exact kp W2 _ [int .u8 t.kind,int i64 t.type,int i64 t.which,.slice q2 l2 c2] 58) (by simp[Value.oneCell']) (by omega) ?_);intro w7 l a)
   have ad:=a.size;simp only[World.size_alloc]at ad;have f:Ft W2 ((W2.alloc (.cells #[int .u8 t.kind,int i64 t.type,int i64 t.which,.slice q2 l2 c2] 58)).alloc (.cells #[int .u8 t.kind,int i64 t.type,int i64 t.which,.slice q2 l2 c2] 58)):=((EB _ W2).alloc (EA _) _).alloc (by simp) _;have af:Ft w w7:=below_grown ((y.o.trans (bd.o.mono y.o.size)).trans (f.mono (EG y.o.size N))) (EG y.o.size (EG N f.size)) a (EA _);have b5:rL.at_ w7 (fun b=>w.heap.size<b∧b<w7.heap.size) t [int .u8 t.kind,int i64 t.type,int i64 t.which,.slice q2 l2 c2]:=rL.sub (fun b h=>⟨by have:=h.1;omega,by have:=h.2;omega⟩)
    (rL.keep (fun b h o ho=>(a.block b (by have:=h.2;have:=f.size;omega) (by intro e;simp at e;have:=h.1;omega)).trans ((f.block b h.2).trans ho)) HL.o)
   refine⟨⟨w7,k+1,us++[int .u8 t.kind,int i64 t.type,int i64 t.which,.slice q2 l2 c2],rfl,by omega,rfl,by go_num,l,af,by omega,?_⟩,by simp[intOf];omega⟩;rw[Fg,HT.o];exact Rd.cells_snoc (dF (bA (bA bc.o bd.o) f) a) b5
  ·obtain rfl:k=n:=by omega
   clear hk g b2 D a7;go_wp2_with fail
   go_loopw [3,6] (qL rL r 58 (marks iD) xs k us w) (fun _ i _=>12-(intOf i).toNat)
   case atStart=>exact⟨_,0,[],rfl,by omega,rfl,rfl,by rw[List.append_nil,q.o];exact x.o,y.o,by omega,by have:=bc.o;rw[ER (by rw[HN.o];exact EA _)]at this;exact this,Rd.cells_nil⟩
   case round =>
    obtain⟨W3,m,vs,rfl,hm,rfl,rfl,d,D,bk,s,bl⟩:=hrel;rw[q.o]at d;have z:=Hd d;have A:=Hd D;have O:=Hd s;have Q:=Hd bl;have ca:(0:Int)≤m:=by omega
    clear d s D bl
    by_cases g:m<12
    ·have cc:(m:Int)<12:=by omega
     go_wp2_with fail
     refine EJ (HM.o m _ (by omega)) ?_;rintro e W4 ⟨rfl,H⟩;have ak:=ownsRow_below z.o H;have R:=H.size;have bn:=Hd H;clear H;go_wp2_with (at_builtin;go_must (refine wpList_append_own_spare _ rfl (.tmp 30) (.tmp 33) 36 rfl w.heap.size 58 i0 4 Tryz.underlying36 T U w.heap.size (k+m) (k+12) (us++vs) rfl (ak.alloc _) ⟨W4.heap.size,0,none⟩ 1 1 [int .u8 0,int i64 (8000024+(m:Int)),int i64 0,slice none 0 0] rfl rfl (by exact iz W4 [int .u8 0,int i64 (8000024+(m:Int)),int i64 0,slice none 0 0] 58) (by simp[Value.oneCell']) (by omega) ?_);intro w7 l a)
     have ad:=a.size;simp only[World.size_alloc]at ad;have f:Ft W4 (W4.alloc (.cells #[int .u8 0,int i64 (8000024+(m:Int)),int i64 0,slice none 0 0] 58)):=(EB _ W4).alloc (EA _) _;have af:Ft w w7:=below_grown ((A.o.trans (bn.o.mono A.o.size)).trans (f.mono (EG A.o.size R))) (EG A.o.size (EG R f.size)) a (EA _);refine⟨⟨w7,m+1,vs++[int .u8 0,int i64 (8000024+(m:Int)),int i64 0,slice none 0 0],rfl,by omega,rfl,by go_num,by rw[←List.append_assoc,q.o];exact l,af,by omega,dF (bA (bA O.o bn.o) f) a,gC iD Q.o g (bR.o m g _)⟩,by simp[intOf];omega⟩
    ·obtain rfl:m=12:=by omega
     clear g;go_wp2_with fail
     go_ret;exact iv (by rw[b1.o,q.o]) HN.o (dQ _) (by rw[q.o];exact z.o) A.o bk O.o Q.o
theorem CC:(Tryz.prog.info? 52).map (fun i=>(i.zero,i.size,i.bytes))=some (some (.agg #[int .u8 0,int i64 0,slice none 0 0,int .u8 0,int .u8 0,int i64 0,.string ByteArray.empty,int i64 0,int .u8 0,slice none 0 0]),10,120):=by kernel_rfl
theorem uR(F:Nat→Prop)(rL r:Rd aC)(a6:rL.n=10)(a7:r.n=10)(hle:rL.Le r)(a8:∀w F t vs,r.at_ w F t vs→∃K L M N O Q,vs=[int .u8 t.kind,int i64 t.type,.slice K L M,int .u8 t.test.kind,int .u8 t.test.val.kind,int i64 t.test.val.num,.string t.test.val.text,int i64 t.test.var,int .u8 t.test.op,.slice N O Q])
  (ba:∀m,m<12→∀w,r.at_ w (fun _=>False) (jn (db m)) [int .u8 0,int i64 (8000024+(m:Int)),slice none 0 0,int .u8 0,int .u8 0,int i64 0,string ⟨#[]⟩,int i64 0,int .u8 0,slice none 0 0]) (xs:List aC) (v:Value) (w:World) (h:r.row w F xs v) (hF:∀b,F b→b<w.heap.size) (hn:xs.length≤20000)
  (bb:∀t∈xs,∀W K L M N O Q,Ft w W→r.at_ W F t [int .u8 t.kind,int i64 t.type,.slice K L M,int .u8 t.test.kind,int .u8 t.test.val.kind,int i64 t.test.val.num,.string t.test.val.text,int i64 t.test.var,int .u8 t.test.op,.slice N O Q]→Calls Tryz.prog 84 #[.agg #[int .u8 t.kind,int i64 t.type,.slice K L M,int .u8 t.test.kind,int .u8 t.test.val.kind,int i64 t.test.val.num,.string t.test.val.text,int i64 t.test.var,int .u8 t.test.op,.slice N O Q]] W (fM rL t W)) :
  Calls Tryz.prog 55 #[v] w (eS (bJ rL r (marks jn)) xs w):=by
 obtain⟨p,c,hv⟩:=Rd.row_shape h;obtain⟨n,Y⟩:=zzy (xs.length);rw[Y]at hv hn;subst hv;obtain⟨i0,Z,b0,ad,b1⟩:=info_parts CC;obtain⟨C,hC⟩:=zzy (madeCells (Value.cells (.agg #[int .u8 0,int i64 0,slice none 0 0,int .u8 0,int .u8 0,int i64 0,.string ByteArray.empty,int i64 0,int .u8 0,slice none 0 0])) ((n+12)*10));have bc:C.size=(n+12)*10:=by rw[←hC];exact size_madeCells _ _
 have bd:∀W:World,(Instr.makeSlice 35 (int i64 0) (int i64 ((n:Int)+12))).run Tryz.prog W=.ok (slice (some ⟨W.heap.size,0,none⟩) 0 (n+12)) (W.alloc (.cells C 52)):=by
  intro W;have h:=run_make (P:=Tryz.prog) W 35 52 i0 _ Tryz.underlying35 Z b0 i64 i64 0 ((n:Int)+12) (by omega) (by omega) (by rw[b1];omega) (by omega);rw[h,ad,show ((n:Int)+12).toNat=n+12 by omega,hC];rfl
 have R:=Hd (World.ownsRow_made (base:=w.heap.size) (e:=52) (size:=10) w C (n+12) (EA _) (by unfold maxLen;omega) bc);obtain⟨W0,G⟩:=zzx (w.alloc (.cells C 52));have bk:Ft w W0:=by rw[G];exact (EB _ w).alloc (EA _) _
 have cc:w.heap.size<W0.heap.size:=by rw[G];simp
 rw[←G]at R;have b2:=Hd bk;have HN:=Hd Y;have bl:=Hd h;have b3:=Hd bb;have HF:=Hd hF;have b4:=Hd ba;have bn:=Hd a8;have b5:=Hd hle;have q:=Hd a7;have b6:=Hd a6;have HM:=Hd (fun j W (hj:j≤100)=>mq j W hj);clear h bb hF ba a8 hle a7 a6 Y hC bc bk
 go_enter Tryz.func55,Tryz.ntmps55
 go_wp2_with fail
 rw[←G]
 go_loopw [3,4] (yi rL 52 10 xs n w W0) (fun _ i _=>n-(intOf i).toNat)
 case atStart=>exact⟨_,0,[],rfl,EM _,rfl,rfl,R.o,b2.o,EA _,Rd.cells_nil⟩
 case round =>
  obtain⟨s,k,us,rfl,hk,rfl,rfl,d,H,ch,x⟩:=hrel;have b7:(0:Int)≤k:=by omega
  have y:=Hd d;have z:=Hd H;have bq:=Hd x;clear d x
  by_cases g:k<n
  ·obtain⟨t,ht⟩:∃t,xs[k]?=some t:=⟨xs[k]'(by rw[HN.o];exact g),EE (by rw[HN.o];exact g)⟩;have S:t∈xs:=EU ht;obtain⟨b,off,cap,vs,hv,_,_,b8,b9,af,ak⟩:=Rd.row_at bl.o ht;injection hv with e1 e2 e3
   subst e1;obtain⟨K,L,M,N,O,Q,rfl⟩:=bn.o _ _ _ _ af;rw[q.o]at ak;have A:∀j u,[int .u8 t.kind,int i64 t.type,.slice K L M,int .u8 t.test.kind,int .u8 t.test.val.kind,int i64 t.test.val.num,.string t.test.val.text,int i64 t.test.var,int .u8 t.test.op,.slice N O Q][j]?=some u→s.cell? ⟨b,off+k*10+j,none⟩=some u:=fun j u hj=>(H.cell (p:=⟨b,off+k*10+j,none⟩) b9).trans (ak j u hj)
   have d0:s.cell? ⟨b,off+k*10,none⟩=some (int .u8 t.kind):=A 0 _ rfl;have d1:s.cell? ⟨b,off+k*10+1,none⟩=some (int i64 t.type):=A 1 _ rfl;have d2:s.cell? ⟨b,off+k*10+2,none⟩=some (.slice K L M):=A 2 _ rfl;have d3:s.cell? ⟨b,off+k*10+3,none⟩=some (int .u8 t.test.kind):=A 3 _ rfl;have d4:s.cell? ⟨b,off+k*10+4,none⟩=some (int .u8 t.test.val.kind):=A 4 _ rfl;have d5:s.cell? ⟨b,off+k*10+5,none⟩=some (int i64 t.test.val.num):=A 5 _ rfl;have d6:s.cell? ⟨b,off+k*10+6,none⟩=some (.string t.test.val.text):=A 6 _ rfl;have d7:s.cell? ⟨b,off+k*10+7,none⟩=some (int i64 t.test.var):=A 7 _ rfl;have d8:s.cell? ⟨b,off+k*10+8,none⟩=some (int .u8 t.test.op):=A 8 _ rfl;have d9:s.cell? ⟨b,off+k*10+9,none⟩=some (.slice N O Q):=A 9 _ rfl;have HT:=Hd ht;have ck:(k:Int)<n:=by omega
   have an:=Hd (b3.o t S s K L M N O Q H (Rd.below af HF.o H));clear ht S H af ak A e2 e3 b8;go_wp2_with fail
   refine an.o.mono ?_;rintro e W2 ⟨cl,rfl,I,hl⟩;obtain⟨q2,l2,c2,x2,y2,z2,rfl⟩:=bn.o _ _ _ _ (b5.o _ _ _ _ hl);have br:=Hd I;have HL:=Hd hl;have aq:=ownsRow_below y.o I;have T:=I.size;clear I hl;go_wp2_with (at_builtin;go_must (refine wpList_append_own_spare _ rfl (.tmp 22) (.tmp 24) 35 rfl w.heap.size 52 i0 10 Tryz.underlying35 Z ad w.heap.size k (n+12) us rfl ((aq.alloc _).alloc _) ⟨W2.heap.size+1,0,none⟩ 1 1 [int .u8 t.kind,int i64 t.type,.slice q2 l2 c2,int .u8 t.test.kind,int .u8 t.test.val.kind,int i64 t.test.val.num,.string t.test.val.text,int i64 t.test.var,int .u8 t.test.op,.slice x2 y2 z2] rfl rfl (by exact kp W2 _ [int .u8 t.kind,int i64 t.type,.slice q2 l2 c2,int .u8 t.test.kind,int .u8 t.test.val.kind,int i64 t.test.val.num,.string t.test.val.text,int i64 t.test.var,int .u8 t.test.op,.slice x2 y2 z2] 52) (by simp[Value.oneCell']) (by omega) ?_);intro w7 l a)
   have ar:=a.size;simp only[World.size_alloc]at ar;have f:Ft W2 ((W2.alloc (.cells #[int .u8 t.kind,int i64 t.type,.slice q2 l2 c2,int .u8 t.test.kind,int .u8 t.test.val.kind,int i64 t.test.val.num,.string t.test.val.text,int i64 t.test.var,int .u8 t.test.op,.slice x2 y2 z2] 52)).alloc (.cells #[int .u8 t.kind,int i64 t.type,.slice q2 l2 c2,int .u8 t.test.kind,int .u8 t.test.val.kind,int i64 t.test.val.num,.string t.test.val.text,int i64 t.test.var,int .u8 t.test.op,.slice x2 y2 z2] 52)):=((EB _ W2).alloc (EA _) _).alloc (by simp) _;have av:Ft w w7:=below_grown ((z.o.trans (br.o.mono z.o.size)).trans (f.mono (EG z.o.size T))) (EG z.o.size (EG T f.size)) a (EA _);have ca:rL.at_ w7 (fun b=>w.heap.size<b∧b<w7.heap.size) t [int .u8 t.kind,int i64 t.type,.slice q2 l2 c2,int .u8 t.test.kind,int .u8 t.test.val.kind,int i64 t.test.val.num,.string t.test.val.text,int i64 t.test.var,int .u8 t.test.op,.slice x2 y2 z2]:=rL.sub (fun b h=>⟨by have:=h.1;omega,by have:=h.2;omega⟩)
    (rL.keep (fun b h o ho=>(a.block b (by have:=h.2;have:=f.size;omega) (by intro e;simp at e;have:=h.1;omega)).trans ((f.block b h.2).trans ho)) HL.o)
   refine⟨⟨w7,k+1,us++[int .u8 t.kind,int i64 t.type,.slice q2 l2 c2,int .u8 t.test.kind,int .u8 t.test.val.kind,int i64 t.test.val.num,.string t.test.val.text,int i64 t.test.var,int .u8 t.test.op,.slice x2 y2 z2],rfl,by omega,rfl,by go_num,l,av,by omega,?_⟩,by simp[intOf];omega⟩;rw[Fg,HT.o];exact Rd.cells_snoc (dF (bA (bA bq.o br.o) f) a) ca
  ·obtain rfl:k=n:=by omega
   clear hk g b7 H bd;go_wp2_with fail
   go_loopw [3,6] (qL rL r 52 (marks jn) xs k us w) (fun _ i _=>12-(intOf i).toNat)
   case atStart=>exact⟨_,0,[],rfl,by omega,rfl,rfl,by rw[List.append_nil,q.o];exact y.o,z.o,by omega,by have:=bq.o;rw[ER (by rw[HN.o];exact EA _)]at this;exact this,Rd.cells_nil⟩
   case round =>
    obtain⟨W3,m,vs,rfl,hm,rfl,rfl,d,H,bt,x,bB⟩:=hrel;rw[q.o]at d;have B:=Hd d;have D:=Hd H;have U:=Hd x;have V:=Hd bB;have cq:(0:Int)≤m:=by omega
    clear d x H bB
    by_cases g:m<12
    ·have cr:(m:Int)<12:=by omega
     go_wp2_with fail
     refine EJ (HM.o m _ (by omega)) ?_;rintro e W4 ⟨rfl,J⟩;have a1:=ownsRow_below B.o J;have X:=J.size;have bR:=Hd J;clear J;go_wp2_with (at_builtin;go_must (refine wpList_append_own_spare _ rfl (.tmp 30) (.tmp 33) 35 rfl w.heap.size 52 i0 10 Tryz.underlying35 Z ad w.heap.size (k+m) (k+12) (us++vs) rfl (a1.alloc _) ⟨W4.heap.size,0,none⟩ 1 1 [int .u8 0,int i64 (8000024+(m:Int)),slice none 0 0,int .u8 0,int .u8 0,int i64 0,string ⟨#[]⟩,int i64 0,int .u8 0,slice none 0 0] rfl rfl (by exact iz W4 [int .u8 0,int i64 (8000024+(m:Int)),slice none 0 0,int .u8 0,int .u8 0,int i64 0,string ⟨#[]⟩,int i64 0,int .u8 0,slice none 0 0] 52) (by simp[Value.oneCell']) (by omega) ?_);intro w7 l a)
     have ar:=a.size;simp only[World.size_alloc]at ar;have f:Ft W4 (W4.alloc (.cells #[int .u8 0,int i64 (8000024+(m:Int)),slice none 0 0,int .u8 0,int .u8 0,int i64 0,string ⟨#[]⟩,int i64 0,int .u8 0,slice none 0 0] 52)):=(EB _ W4).alloc (EA _) _;have av:Ft w w7:=below_grown ((D.o.trans (bR.o.mono D.o.size)).trans (f.mono (EG D.o.size X))) (EG D.o.size (EG X f.size)) a (EA _);refine⟨⟨w7,m+1,vs++[int .u8 0,int i64 (8000024+(m:Int)),slice none 0 0,int .u8 0,int .u8 0,int i64 0,string ⟨#[]⟩,int i64 0,int .u8 0,slice none 0 0],rfl,by omega,rfl,by go_num,by rw[←List.append_assoc,q.o];exact l,av,by omega,dF (bA (bA U.o bR.o) f) a,gC jn V.o g (b4.o m g _)⟩,by simp[intOf];omega⟩
    ·obtain rfl:m=12:=by omega
     clear g;go_wp2_with fail
     go_ret;exact iv (by rw[b6.o,q.o]) HN.o (dQ _) (by rw[q.o];exact B.o) D.o bt U.o V.o
theorem Bo:(Tryz.prog.info? 38).map (fun i=>(i.zero,i.size,i.bytes))=some (some (.agg #[.string ByteArray.empty,int i64 0,int i64 0,slice none 0 0,slice none 0 0]),5,80):=by kernel_rfl
theorem qE(F:Nat→Prop)(rL r:Rd aj)(a1:rL.n=5)(a6:r.n=5)(hle:rL.Le r)(a7:∀w F t vs,r.at_ w F t vs→∃I J K L M N,vs=[.string t.name,int i64 t.sal,int i64 t.vars,.slice I J K,.slice L M N])
  (a8:∀m,m<12→∀w,r.at_ w (fun _=>False) (fP (db m)) [string ⟨#[]⟩,int i64 0,int i64 (8000024+(m:Int)),slice none 0 0,slice none 0 0]) (xs:List aj) (v:Value) (w:World) (h:r.row w F xs v) (hF:∀b,F b→b<w.heap.size) (hn:xs.length≤20000)
  (ba:∀t∈xs,∀W I J K L M N,Ft w W→r.at_ W F t [.string t.name,int i64 t.sal,int i64 t.vars,.slice I J K,.slice L M N]→Calls Tryz.prog 26 #[.agg #[.string t.name,int i64 t.sal,int i64 t.vars,.slice I J K,.slice L M N]] W (fM rL t W)) :
  Calls Tryz.prog 13 #[v] w (eS (bJ rL r (marks fP)) xs w):=by
 obtain⟨p,c,hv⟩:=Rd.row_shape h;obtain⟨n,V⟩:=zzy (xs.length);rw[V]at hv hn;subst hv;obtain⟨i0,X,bR,Y,b0⟩:=info_parts Bo;obtain⟨C,hC⟩:=zzy (madeCells (Value.cells (.agg #[.string ByteArray.empty,int i64 0,int i64 0,slice none 0 0,slice none 0 0])) ((n+12)*5));have bb:C.size=(n+12)*5:=by rw[←hC];exact size_madeCells _ _
 have bc:∀W:World,(Instr.makeSlice 23 (int i64 0) (int i64 ((n:Int)+12))).run Tryz.prog W=.ok (slice (some ⟨W.heap.size,0,none⟩) 0 (n+12)) (W.alloc (.cells C 38)):=by
  intro W;have h:=run_make (P:=Tryz.prog) W 23 38 i0 _ Tryz.underlying23 X bR i64 i64 0 ((n:Int)+12) (by omega) (by omega) (by rw[b0];omega) (by omega);rw[h,Y,show ((n:Int)+12).toNat=n+12 by omega,hC];rfl
 have O:=Hd (World.ownsRow_made (base:=w.heap.size) (e:=38) (size:=5) w C (n+12) (EA _) (by unfold maxLen;omega) bb);obtain⟨W0,B⟩:=zzx (w.alloc (.cells C 38));have bd:Ft w W0:=by rw[B];exact (EB _ w).alloc (EA _) _
 have ca:w.heap.size<W0.heap.size:=by rw[B];simp
 rw[←B]at O;have b1:=Hd bd;have HN:=Hd V;have bk:=Hd h;have b2:=Hd ba;have HF:=Hd hF;have b3:=Hd a8;have bl:=Hd a7;have b4:=Hd hle;have q:=Hd a6;have b5:=Hd a1;have HM:=Hd (fun j W (hj:j≤100)=>mJ j W hj);clear h ba hF a8 a7 hle a6 a1 V hC bb bd
 go_enter Tryz.func13,Tryz.ntmps13
 go_wp2_with fail
 rw[←B]
 go_loopw [3,4] (yi rL 38 5 xs n w W0) (fun _ i _=>n-(intOf i).toNat)
 case atStart=>exact⟨_,0,[],rfl,EM _,rfl,rfl,O.o,b1.o,EA _,Rd.cells_nil⟩
 case round =>
  obtain⟨Z,k,us,rfl,hk,rfl,rfl,d,D,cc,s⟩:=hrel;have b6:(0:Int)≤k:=by omega
  have x:=Hd d;have y:=Hd D;have bn:=Hd s;clear d s
  by_cases g:k<n
  ·obtain⟨t,ht⟩:∃t,xs[k]?=some t:=⟨xs[k]'(by rw[HN.o];exact g),EE (by rw[HN.o];exact g)⟩;have Q:t∈xs:=EU ht;obtain⟨b,off,cap,vs,hv,_,_,b7,b8,ad,af⟩:=Rd.row_at bk.o ht;injection hv with e1 e2 e3
   subst e1;obtain⟨I,J,K,L,M,N,rfl⟩:=bl.o _ _ _ _ ad;rw[q.o]at af;have ec:∀j u,[.string t.name,int i64 t.sal,int i64 t.vars,.slice I J K,.slice L M N][j]?=some u→Z.cell? ⟨b,off+k*5+j,none⟩=some u:=fun j u hj=>(D.cell (p:=⟨b,off+k*5+j,none⟩) b8).trans (af j u hj)
   have d0:Z.cell? ⟨b,off+k*5,none⟩=some (.string t.name):=ec 0 _ rfl;have d1:Z.cell? ⟨b,off+k*5+1,none⟩=some (int i64 t.sal):=ec 1 _ rfl;have d2:Z.cell? ⟨b,off+k*5+2,none⟩=some (int i64 t.vars):=ec 2 _ rfl;have d3:Z.cell? ⟨b,off+k*5+3,none⟩=some (.slice I J K):=ec 3 _ rfl;have d4:Z.cell? ⟨b,off+k*5+4,none⟩=some (.slice L M N):=ec 4 _ rfl;have HT:=Hd ht;have ch:(k:Int)<n:=by omega
   have ak:=Hd (b2.o t Q Z I J K L M N D (Rd.below ad HF.o D));clear ht Q D ad af ec e2 e3 b7;go_wp2_with fail
   refine ak.o.mono ?_;rintro e W2 ⟨ck,rfl,G,hl⟩;obtain⟨q2,l2,c2,x2,y2,z2,rfl⟩:=bl.o _ _ _ _ (b4.o _ _ _ _ hl);have bq:=Hd G;have HL:=Hd hl;have an:=ownsRow_below x.o G;have R:=G.size;clear G hl;go_wp2_with (at_builtin;go_must (refine wpList_append_own_spare _ rfl (.tmp 22) (.tmp 24) 23 rfl w.heap.size 38 i0 5 Tryz.underlying23 X Y w.heap.size k (n+12) us rfl ((an.alloc _).alloc _) ⟨W2.heap.size+1,0,none⟩ 1 1 [.string t.name,int i64 t.sal,int i64 t.vars,.slice q2 l2 c2,.slice x2 y2 z2] rfl rfl (by exact kp W2 _ [.string t.name,int i64 t.sal,int i64 t.vars,.slice q2 l2 c2,.slice x2 y2 z2] 38) (by simp[Value.oneCell']) (by omega) ?_);intro w7 l a)
   have aq:=a.size;simp only[World.size_alloc]at aq;have f:Ft W2 ((W2.alloc (.cells #[.string t.name,int i64 t.sal,int i64 t.vars,.slice q2 l2 c2,.slice x2 y2 z2] 38)).alloc (.cells #[.string t.name,int i64 t.sal,int i64 t.vars,.slice q2 l2 c2,.slice x2 y2 z2] 38)):=((EB _ W2).alloc (EA _) _).alloc (by simp) _;have ar:Ft w w7:=below_grown ((y.o.trans (bq.o.mono y.o.size)).trans (f.mono (EG y.o.size R))) (EG y.o.size (EG R f.size)) a (EA _);have b9:rL.at_ w7 (fun b=>w.heap.size<b∧b<w7.heap.size) t [.string t.name,int i64 t.sal,int i64 t.vars,.slice q2 l2 c2,.slice x2 y2 z2]:=rL.sub (fun b h=>⟨by have:=h.1;omega,by have:=h.2;omega⟩)
    (rL.keep (fun b h o ho=>(a.block b (by have:=h.2;have:=f.size;omega) (by intro e;simp at e;have:=h.1;omega)).trans ((f.block b h.2).trans ho)) HL.o)
   refine⟨⟨w7,k+1,us++[.string t.name,int i64 t.sal,int i64 t.vars,.slice q2 l2 c2,.slice x2 y2 z2],rfl,by omega,rfl,by go_num,l,ar,by omega,?_⟩,by simp[intOf];omega⟩;rw[Fg,HT.o];exact Rd.cells_snoc (dF (bA (bA bn.o bq.o) f) a) b9
  ·obtain rfl:k=n:=by omega
   clear hk g b6 D bc;go_wp2_with fail
   go_loopw [3,6] (qL rL r 38 (marks fP) xs k us w) (fun _ i _=>12-(intOf i).toNat)
   case atStart=>exact⟨_,0,[],rfl,by omega,rfl,rfl,by rw[List.append_nil,q.o];exact x.o,y.o,by omega,by have:=bn.o;rw[ER (by rw[HN.o];exact EA _)]at this;exact this,Rd.cells_nil⟩
   case round =>
    obtain⟨W3,m,vs,rfl,hm,rfl,rfl,d,D,br,s,bt⟩:=hrel;rw[q.o]at d;have z:=Hd d;have A:=Hd D;have S:=Hd s;have T:=Hd bt;have cl:(0:Int)≤m:=by omega
    clear d s D bt
    by_cases g:m<12
    ·have cq:(m:Int)<12:=by omega
     go_wp2_with fail
     refine EJ (HM.o m _ (by omega)) ?_;rintro e W4 ⟨rfl,H⟩;have av:=ownsRow_below z.o H;have U:=H.size;have bB:=Hd H;clear H;go_wp2_with (at_builtin;go_must (refine wpList_append_own_spare _ rfl (.tmp 30) (.tmp 33) 23 rfl w.heap.size 38 i0 5 Tryz.underlying23 X Y w.heap.size (k+m) (k+12) (us++vs) rfl (av.alloc _) ⟨W4.heap.size,0,none⟩ 1 1 [string ⟨#[]⟩,int i64 0,int i64 (8000024+(m:Int)),slice none 0 0,slice none 0 0] rfl rfl (by exact iz W4 [string ⟨#[]⟩,int i64 0,int i64 (8000024+(m:Int)),slice none 0 0,slice none 0 0] 38) (by simp[Value.oneCell']) (by omega) ?_);intro w7 l a)
     have aq:=a.size;simp only[World.size_alloc]at aq;have f:Ft W4 (W4.alloc (.cells #[string ⟨#[]⟩,int i64 0,int i64 (8000024+(m:Int)),slice none 0 0,slice none 0 0] 38)):=(EB _ W4).alloc (EA _) _;have ar:Ft w w7:=below_grown ((A.o.trans (bB.o.mono A.o.size)).trans (f.mono (EG A.o.size U))) (EG A.o.size (EG U f.size)) a (EA _);refine⟨⟨w7,m+1,vs++[string ⟨#[]⟩,int i64 0,int i64 (8000024+(m:Int)),slice none 0 0,slice none 0 0],rfl,by omega,rfl,by go_num,by rw[←List.append_assoc,q.o];exact l,ar,by omega,dF (bA (bA S.o bB.o) f) a,gC fP T.o g (b3.o m g _)⟩,by simp[intOf];omega⟩
    ·obtain rfl:m=12:=by omega
     clear g;go_wp2_with fail
     go_ret;exact iv (by rw[b5.o,q.o]) HN.o (dQ _) (by rw[q.o];exact z.o) A.o br S.o T.o
