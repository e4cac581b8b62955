/- Parts of one proof, joined; conditions stand in each theorem. -/
import Derived.Test.YtoahnjkclckodaaGreatDoorMC
import Derived.Test.YtoahnjkclckodaaGreatDoorMG
import Derived.Laws.EntriesVeiled
open Option renaming some→A,none→Y
open Go.Value renaming int→I,string→tS,slice→O,tuple→y9,agg→xk,bool→xv,func→z7,pointer→vv
open Go.IntKind renaming u8→tF,i64→U
open Go renaming World→J,Value→tT,Calls→wg,Ending→AR,wpQuiet_nil→xL,undef→wF
open Go.Proofs.Tryz renaming prog→vo
open Go.Ending renaming returned→wj
open Bool renaming false→va,true→ur
open Or renaming inl→wD,inr→wP
open Go.Obj renaming cells→r9
open Decidable renaming decide→xn
namespace Go.Proofs.YtoahnjkclckodaaGreatDoor
set_option maxHeartbeats 2000000
set_option maxRecDepth 100000
open Go.RowKit
theorem vM(l:List Tok)(i:Nat)(t:Tok)(h:l[i]?=A t):(bI l)[3*i]?=A (I tF t.1)∧(bI l)[3*i+1]?=A (tS t.2.1)∧(bI l)[3*i+2]?=A (I U t.2.2):=by
 induction l generalizing i with
 | nil=>simp at h
 | cons a r c =>
  have e:bI (a::r)=fP a++bI r:=rfl;have b:(fP a).length=3:=rfl
  cases i with
  | zero =>
   obtain rfl:a=t:=by simpa using h
   rw[e];exact⟨Z,Z,Z⟩
  | succ i =>
   have d:r[i]?=A t:=by simpa using h
   obtain⟨a1,a2,a3⟩:=c i d;rw[e];refine⟨?_,?_,?_⟩
   ·rw[F7 (by omega),b,show 3*(i+1)-3=3*i from by omega];exact a1
   ·rw[F7 (by omega),b,show 3*(i+1)+1-3=3*i+1 from by omega];exact a2
   ·rw[F7 (by omega),b,show 3*(i+1)+2-3=3*i+2 from by omega];exact a3
theorem EK{w:J}{B n:Nat}{v:tT}{l:List Tok}(h:w.ownsRow B 192 3 v n (bI l))(q:0<n) :
  ∃g cap,v=O (A ⟨g,0,Y⟩) n cap∧g<w.heap.size∧B≤g∧∀i t,l[i]?=A t→w.cell? ⟨g,i*3,Y⟩=A (I tF t.1)∧w.cell? ⟨g,i*3+1,Y⟩=A (tS t.2.1)∧w.cell? ⟨g,i*3+2,Y⟩=A (I U t.2.2):=by
 obtain⟨g,cap,rfl,hB,a⟩:∃g cap,v=O (A ⟨g,0,Y⟩) n cap∧B≤g∧g<w.heap.size:=by
  rcases h.2 with ⟨_,rfl⟩|⟨g,cap,cur,rfl,m,o,_⟩
  ·omega
  ·exact⟨g,cap,Z,m,(Fx.1 o).1⟩
 refine⟨g,cap,Z,a,hB,fun i t p=>?_⟩;obtain⟨a1,a2,a3⟩:=vM l i t p;have b:=h.cells (g:=g) Z;have e:∀j,((⟨g,0,Y⟩:Addr).add j)=⟨g,j,Y⟩:=fun j=>by
  unfold Addr.add
  by_cases c:j=0
  ·rw[oE c,c]
  ·rw[oB c];simp
 have d:=b _ _ a1;have f:=b _ _ a2;have k:=b _ _ a3;rw[e]at d f k;rw[Nat.mul_comm 3 i]at d f k;exact⟨d,f,k⟩
theorem Ah(s:ByteArray)(w:J)(a:s.size≤16384)(b:aB w)(o:List Tok×Option (Nat×Nat))(c:au s 0=o) :
  wg vo 91 #[tS s] w fun e W=>Gl w W∧
   ((o.2=Y∧∃v,e=wj (y9 #[v,xk #[I U 0,I U 0]])∧W.ownsRow w.heap.size 192 3 v (o.1.length+1) (bI (o.1++[(7,⟨#[]⟩,s.size)])))∨
    ∃er pl,o.2=A (er,pl)∧e=wj (y9 #[O Y 0 0,xk #[I U er,I U pl]])):=by
 subst c;exact qC s w a b
theorem Bt(s:ByteArray):∀(f k er pl:Nat),(toks f s k).2=A (er,pl)→er≠0:=by
 intro f
 induction f with
 | zero=>intro k er pl h;cases h
 | succ f a =>
  intro k er pl h;unfold toks at h
  split at h
  ·split at h
   ·exact a _ _ _ h
   ·rename_i b
    injection h with h
    injection h with c d
    subst c;exact b
  ·cases h
theorem tL(s:ByteArray)(k er pl:Nat)(h:(au s k).2=A (er,pl)):er≠0:=Bt s _ k er pl h
def A6(t:ByteArray) (w:J) (e:AR) (w':J):Prop:=
 Gl w w'∧∃p n c er at',e=wj (y9 #[O p n c,xk #[I U er,I U at']])∧(0:Int)≤er∧
  ((er≠0∧jv t=va)∨(er=0∧n≠2∧jv t=va)∨(er=0∧n=2∧∃g tx,p=A ⟨g,0,Y⟩∧g<w'.heap.size∧w'.cell? ⟨g,1,Y⟩=A (tS tx)∧jv t=(tx.toList==t.toList)))
theorem zU(t:ByteArray)(w:J)(m:aB w):wg vo 91 #[tS (aM t)] w (A6 t w):=by
 by_cases j:(aM t).size≤16384
 ·refine (Ah (aM t) w j m _ Z).mono ?_;rintro e W ⟨c,(⟨a,v,rfl,b⟩|⟨er,pl,a,rfl⟩)⟩
  ·obtain⟨g,cap,rfl,n,_,k⟩:=EK b (by omega);refine⟨c,_,_,_,_,_,Z,by omega,?_⟩
   right
   by_cases d:(au (aM t) 0).1.length=1
   ·right
    refine⟨Z,by omega,?_⟩;generalize i:au (aM t) 0=o at *;obtain⟨l,f⟩:=o;dsimp only at a d k
    match l,d with
    | [x],_ =>
     refine⟨g,x.2.1,Z,n,(k 0 x Z).2.1,?_⟩;unfold jv;rw[i];dsimp only;rw[a];simp[ByteArray.toList_eq]
   ·left
    refine⟨Z,by omega,?_⟩;unfold jv;rw[Bool.and_eq_false_iff]
    right
    rw[pb];intro h;have:=o8 List.length h;rw[List.length_map]at this;exact d this
  ·refine⟨c,_,_,_,_,_,Z,by omega,wD ⟨by have:=tL _ _ _ _ a;omega,?_⟩⟩;unfold jv;rw[a];rfl
 ·refine (px (aM t) w (by omega)).mono ?_;rintro e W ⟨rfl,c⟩;refine⟨c,_,_,_,_,_,Z,by omega,wD ⟨by omega,?_⟩⟩;rw[fX,vP _ (by rw[lR]at j;omega)]
theorem Eg{w:J}{T:Nat}{a b:tT}{t:TypeId}(h:w.heap[T]?=A (r9 #[a,b] t (0,0))) :
  w.cell? ⟨T,0,Y⟩=A a∧w.cell? ⟨T,1,Y⟩=A b∧w.frozen? ⟨T,0,Y⟩=va∧w.frozen? ⟨T,1,Y⟩=false:=by
 simp[World.cell?,World.frozen?,h]
theorem zF(t:ByteArray):aM t=(⟨#[39]⟩:ByteArray)++t:=by
 apply ByteArray.ext;apply Array.toList_inj.1;rw[pp,ByteArray.data_append,Array.toList_append];rfl
theorem tB(kd:Nat)(t:ByteArray)(nm pl:Int)(p:Option Addr)(n c:Nat)(word:Bool)(w:J)(N:aB w)(P:t.size≤72007) :
  wg vo 183 #[xk #[I tF kd,tS t,I U nm,I U pl,O p n c],xv word] w (aV (dP t.data.toList&&(word||!km t.data.toList)) w):=by
 have k:Gl w (w.alloc (r9 #[I tF kd,tS t,I U nm,I U pl,O p n c] 232)):=(Fz _ w).alloc (Fy _) _;have h0:=oA w (r9 #[I tF kd,tS t,I U nm,I U pl,O p n c] 232);have z:w.heap.size<(w.alloc (r9 #[I tF kd,tS t,I U nm,I U pl,O p n c] 232)).heap.size:=by simp
 have Q:=zU t _ (N.C k);rw[zF]at Q;have HQ:=Hd Q;clear Q;obtain⟨B,H0,u,C⟩:=zz4 (N.C k) h0 k z;clear N h0 k z
 go_enter Tryz.func183,Tryz.ntmps183
 go_wp2_with fail
 refine FN HQ.o ?_;rintro e w1 ⟨l,p',n',c',er,at',rfl,R,i⟩;obtain⟨a,H1,v,D⟩:=zz4 i (aa l H0.o C.o) (u.o.trans (l.mono u.o.size)) (B.o.C l);clear i l HQ B;go_wp2_with fail
 have j:=(Fz _ w1).alloc (Fy _) (r9 #[I U er,I U at'] 109);have E:w.heap.size<w1.heap.size:=(Fx.1 H1.o).1;obtain⟨S,T,d,V,F⟩:=zz5 (aa j H1.o E) (oA w1 (r9 #[I U er,I U at'] 109)) (v.o.trans (j.mono v.o.size)) (D.o.C j) (fun g tx (m:g<w1.heap.size) (r:w1.cell? ⟨g,1,Y⟩=A (tS tx))=>(j.cell (p:=⟨g,1,Y⟩) m).trans r);generalize w1.alloc (r9 #[I U er,I U at'] 109)=h at *;obtain⟨f0,f1,_,_⟩:=Eg T.o;obtain⟨b0,y,b2,b3,b4⟩:=cells5 S.o;have G:=fun x:Wb h=>x.h f0
 have H:=fun x:Wb h=>x.h y
 clear j f1 b0 b2 b3 b4;rcases a.o with ⟨m,r⟩|⟨m,r,q⟩|⟨m,r,g,tx,rfl,hg,M,q⟩
 ·have he:(er==0)=false:=by simpa using m
  have s:=Hd r;clear m r a f0 y;refine al (by kernel_rfl) (by kernel_rfl) ?_
  repeat (go_big_quiet_step (fail))
  refine xL ?_;intro W2 b;have f:=Hd (d.o.trans ((bw b).mono d.o.size));clear b G H;go_wp2_with fail
  go_ret;exact⟨bF (by rw[←fX,s.o];rfl),f.o⟩
 ·have he:(er==0)=true:=by simpa using m
  have aq:((n':Int)==2)=false:=by simp;omega
  have s:=Hd q;clear m r q a f0 y;refine al (by kernel_rfl) (by kernel_rfl) ?_
  repeat (go_big_quiet_step (fail))
  refine xL ?_;intro W2 b;have f:=Hd (d.o.trans ((bw b).mono d.o.size));clear b G H;go_wp2_with fail
  go_ret;exact⟨bF (by rw[←fX,s.o];rfl),f.o⟩
 ·subst m;subst r;have gc:=F.o g tx hg M;have W:=fun x:Wb h=>x.h gc
  cases K:(tx.toList==t.toList)
  ·rw[K]at q;have s:=Hd q;clear q a f0 y M gc;refine al (by kernel_rfl) (by kernel_rfl) ?_
   repeat (go_big_quiet_step (fail))
   refine xL ?_;intro W2 b;have f:=Hd (d.o.trans ((bw b).mono d.o.size));clear b G H W;go_wp2_with fail
   go_ret;exact⟨bF (by rw[←fX,s.o];rfl),f.o⟩
  ·rw[K]at q;have s:=Hd q;clear q a
   cases word
   ·clear G H W;have X:w.heap.size<h.heap.size:=(Fx.1 S.o).1;have ad:w1.heap.size<h.heap.size:=(Fx.1 T.o).1;have af:g<h.heap.size:=by omega
    clear F u C H0 H1 v D S T E hg P R
    go_region_held3 (fun w'=>w'.cell? ⟨w.heap.size,1,Y⟩=A (tS t)∧w'.cell? ⟨w1.heap.size,0,Y⟩=A (I U 0)∧w'.cell? ⟨g,1,Y⟩=A (tS tx))
     (first
      | (exact⟨by assumption,by assumption,by assumption⟩)
      | (exact⟨(World.cell?_alloc_lt h _ ⟨w.heap.size,1,Y⟩ X).trans y,(World.cell?_alloc_lt h _ ⟨w1.heap.size,0,Y⟩ ad).trans f0,(World.cell?_alloc_lt h _ ⟨g,1,Y⟩ af).trans gc⟩))
     (first
      | (go_at_call 171;refine (tn _ (V.o.C (Fz _ _).drew)).mono ?_;rintro e w6 ⟨rfl,rfl⟩)
      | (go_at_call 170;refine (ma _ _ t _ (by exact oA h _)).mono ?_;rintro e w6 ⟨rfl,rfl⟩))
    have L:Gl h (h.alloc (r9 (gp.map tS).toArray 9)).drew:=((Fz _ h).alloc (Fy _) _).drew;have f:=Hd (d.o.trans (L.mono d.o.size));clear L y f0 gc M;go_wp2_with fail
    go_ret;exact⟨bF (by rw[←fX,s.o];rfl),f.o⟩
   ·clear f0 y M gc;refine al (by kernel_rfl) (by kernel_rfl) ?_
    repeat (go_big_quiet_step (fail))
    refine xL ?_;intro W2 b;have f:=Hd (d.o.trans ((bw b).mono d.o.size));clear b G H W;go_wp2_with fail
    go_ret;exact⟨bF (by rw[←fX,s.o];rfl),f.o⟩
theorem yv(L:List ByteArray)(x:ByteArray):Lib.containsS L x=io L x.data.toList:=by
 rw[Ga,Lib.containsS_iff,io,List.any_eq_true]
 constructor
 ·intro h;exact⟨x,h,by simp⟩
 ·rintro ⟨y,c,he⟩;have e:y=x:=by
   have a:y.data.toList=x.data.toList:=by simpa using he
   have b:y.data=x.data:=Array.toList_inj.1 a;exact ByteArray.ext b
  rwa [←e]
theorem ob(L:List ByteArray)(n B c:Nat)(t:TypeId)(x:ByteArray)(w:J)(d:L.length=n)(b:n≤100)(h:w.heap[B]?=A (r9 (L.map tS).toArray t (0,0))) :
  wg vo 170 #[O (A ⟨B,0,Y⟩) n c,tS x] w fun e w'=>e=wj (xv (io L x.data.toList))∧Gl w w':=by
 refine (Tryz.slices_Contains_string B 0 n c L x w (by omega) (by omega) (fun j f=>?_)).mono ?_
 ·rw[Nat.zero_add,Gk _ _ _ _ _ _ h];have a:j<L.length:=by omega
  simp[List.getD_eq_getElem?_getD,List.getElem?_eq_getElem a]
 ·rintro e w' ⟨rfl,rfl⟩;refine⟨?_,Fz _ _⟩;rw[FW (by omega),yv]
def opB(k:Nat) (t:List UInt8):Bool:=(k==1&&io rQ t)||(k==2&&io so t)
theorem Wb.heap{w:J}(x:Wb w){b:Nat}{o:Obj}(h:w.heap[b]?=A o):x.1.heap[b]?=A o:=aa x.2 h (Fx.1 h).1
theorem AO(w:J)(a b d:Obj):(((w.alloc a).alloc b).alloc d).heap[w.heap.size]?=A a∧(((w.alloc a).alloc b).alloc d).heap[w.heap.size+1]?=A b∧(((w.alloc a).alloc b).alloc d).heap[w.heap.size+1+1]?=A d∧Gl w (((w.alloc a).alloc b).alloc d):=by refine⟨?_,?_,?_,(((Fz _ w).alloc (Fy _) _).alloc (by simp) _).alloc (by simp;omega) _⟩<;>(simp only[gY,o5];repeat (first|rw[oE trivial] | rw[oB (by omega)] | rw[oE (by omega)]))
theorem yh(kd:Nat)(t:ByteArray)(nm pl:Int)(p:Option Addr)(n c:Nat)(w:J) :
  wg vo 185 #[xk #[I tF kd,tS t,I U nm,I U pl,O p n c]] w (aV (opB n t.data.toList) w):=by
 obtain⟨q,r,s,u⟩:=AO w (r9 #[I tF kd,tS t,I U nm,I U pl,O p n c] 232) (r9 #[tS ⟨#[45]⟩,tS ⟨#[110,111,116]⟩] 308)
  (r9 #[tS ⟨#[111,114]⟩,tS ⟨#[97,110,100]⟩,tS ⟨#[61]⟩,tS ⟨#[33,61]⟩,tS ⟨#[60]⟩,tS ⟨#[60,61]⟩,tS ⟨#[62]⟩,tS ⟨#[62,61]⟩,tS ⟨#[43]⟩,tS ⟨#[45]⟩,tS ⟨#[42]⟩] 309)
 obtain⟨H1,y,d⟩:=zz3 r s u;obtain⟨E,z,F,G,H⟩:=cells5 q;have g:Hid (opB n t.data.toList=((n==1&&io rQ t.data.toList)||(n==2&&io so t.data.toList))):=rfl;have i:=Hd (fun W (h:W.heap[w.heap.size+1]?=A (r9 (rQ.map tS).toArray 308 (0,0)))=>ob rQ 2 (w.heap.size+1) 2 308 t W Z (by omega) h);have j:=Hd (fun W (h:W.heap[w.heap.size+1+1]?=A (r9 (so.map tS).toArray 309 (0,0)))=>ob so 11 (w.heap.size+1+1) 11 309 t W Z (by omega) h);clear q r s u;generalize opB n t.data.toList=o at *;generalize io rQ t.data.toList=v at *;generalize io so t.data.toList=B at *;have k:=fun x:Wb _=>x.h z
 go_enter Tryz.func185,Tryz.ntmps185
 by_cases l:n=1
 ·subst l;go_wp2_with fail
  refine al (by kernel_rfl) (by kernel_rfl) ?_
  repeat (go_big_quiet_step ((go_at_call 170;exact Calls.h (i.o _ (Wb.heap _ H1.o)))))
  refine xL ?_;intro W2 a;have b:=Hd (d.o.trans ((bw a).mono d.o.size));clear a k;go_wp2_with fail
  go_ret;exact⟨bF (by rw[g.o];cases v<;>rfl),b.o⟩
 ·have K:((n:Int)==1)=false:=by simp;omega
  have e:(n==1)=false:=by simp;omega
  have C:=Hd e;clear e
  by_cases m:n=2
  ·subst m;go_wp2_with fail
   refine al (by kernel_rfl) (by kernel_rfl) ?_
   repeat (go_big_quiet_step ((go_at_call 170;exact Calls.h (j.o _ (Wb.heap _ y.o)))))
   refine xL ?_;intro W2 a;have b:=Hd (d.o.trans ((bw a).mono d.o.size));clear a k;go_wp2_with fail
   go_ret;exact⟨bF (by rw[g.o];cases v<;>cases B<;>rfl),b.o⟩
  ·have L:((n:Int)==2)=false:=by simp;omega
   have f:(n==2)=false:=by simp;omega
   have D:=Hd f;clear f k;go_wp2_with fail
   go_ret;exact⟨bF (by rw[g.o,C.o,D.o];rfl),d.o⟩
theorem El(c:UInt8)(r:List UInt8)(h:c≠45):fe (c::r)=false:=by
 unfold fe
 split
 ·rename_i heq;injection heq with a;exact absurd a h
 ·rfl
theorem Du(c:UInt8)(r:List UInt8)(h:c≠45):strip (c::r)=c::r:=by
 unfold strip
 split
 ·rename_i heq;injection heq with a;exact absurd a h
 ·rfl
theorem yX(l:List UInt8):Lib.trimPrefix l [45]=strip l:=by
 unfold Lib.trimPrefix;rw[m9]
 cases l with
 | nil=>rfl
 | cons c r =>
  by_cases h:c=45
  ·subst h;rfl
  ·rw[El c r h,Du c r h];rfl
theorem Bv(l:List UInt8):(strip l).length≤l.length:=by
 unfold strip
 split
 ·simp
 ·exact Fy _
def textF(f:Nat) (t:List UInt8) (n:Nat):Bool:=
 if f==1 then dP t&&!km t else if f==2 then dP t else if f==3 then (number (strip t)).isSome else if f==4 then opB n t else t.isEmpty
theorem tD(t:ByteArray):(t.toList==(⟨#[]⟩:ByteArray).toList)=t.data.toList.isEmpty:=by
 rw[FS,FS]
 cases t.data.toList<;>rfl
theorem uX(kd:Nat)(t:ByteArray)(nm pl:Int)(p:Option Addr)(n c f:Nat)(w:J)(l:aB w)(h:t.size≤72007)(s:f≤4) :
  wg vo 149 #[xk #[I tF kd,tS t,I U nm,I U pl,O p n c],I U f] w (aV (textF f t.data.toList n) w):=by
 have g:Gl w (w.alloc (r9 #[I tF kd,tS t,I U nm,I U pl,O p n c] 232)):=(Fz _ w).alloc (Fy _) _;have m:=oA w (r9 #[I tF kd,tS t,I U nm,I U pl,O p n c] 232);obtain⟨v,x,y,z,B⟩:=cells5 m;obtain⟨q,i,a,j⟩:=zz4 (fun b=>tB kd t nm pl p n c b _ (l.C g) h) (fun W=>yh kd t nm pl p n c W) g (fun W=>(Tryz.strings_TrimPrefix t ⟨#[45]⟩ W).mono (R':=fun e w'=>e=wj (tS ⟨(strip t.data.toList).toArray⟩)∧W=w') (fun e w' r=>⟨by rw[r.1];show wj (tS ⟨(Lib.trimPrefix t.data.toList [45]).toArray⟩)=_;rw[yX],r.2.symm⟩))
 have k:=Hd (fun W=>mH ⟨(strip t.data.toList).toArray⟩ W (by
  show (strip t.data.toList).toArray.size≤100000
  have C:=Bv t.data.toList;have D:t.data.toList.length=t.data.size:=F6;have E:t.size=t.data.size:=rfl;simp only[List.size_toArray]
  omega))
 clear l m g h
 match f,s with
 | 0,_ =>
  have u:=Hd (tD t)
  go_enter Tryz.func149,Tryz.ntmps149
  go_wp2_with fail
  go_ret;exact⟨bF (by show _=t.data.toList.isEmpty;rw[←u.o,FS,FS];cases t.data.toList<;>rfl),a.o⟩
 | 1,_ =>
  go_enter Tryz.func149,Tryz.ntmps149
  go_wp2_with fail
  refine FN (q.o va) ?_;rintro e W2 ⟨rfl,d⟩;go_wp2_with fail
  go_ret;exact⟨bF Z,a.o.trans (d.mono a.o.size)⟩
 | 2,_ =>
  go_enter Tryz.func149,Tryz.ntmps149
  go_wp2_with fail
  refine FN (q.o ur) ?_;rintro e W2 ⟨rfl,d⟩;go_wp2_with fail
  go_ret;exact⟨bF Z,a.o.trans (d.mono a.o.size)⟩
 | 3,_ =>
  go_enter Tryz.func149,Tryz.ntmps149
  go_wp2_with fail
  refine FN (j.o _) ?_;rintro e W2 ⟨rfl,rfl⟩;go_wp2_with fail
  refine FN (k.o _) ?_;rintro e W2 ⟨rfl,d⟩;go_wp2_with fail
  go_ret;exact⟨Z,a.o.trans (d.mono a.o.size)⟩
 | 4,_ =>
  go_enter Tryz.func149,Tryz.ntmps149
  go_wp2_with fail
  refine FN (i.o _) ?_;rintro e W2 ⟨rfl,d⟩;go_wp2_with fail
  go_ret;exact⟨Z,a.o.trans (d.mono a.o.size)⟩
def eM(kd:Nat):Nat×Int×Int:=
 if kd==2||kd==3||kd==5||kd==6||kd==8 then (1,0,0)
 else if kd==4 then (1,-2147483647,2147483647)
 else if kd==9 then (0,0,2147483647)
 else if kd==13||kd==15 then (2,0,0)
 else if kd==14 then (3,0,0)
 else if kd==16 then (4,0,0)
 else (0,0,0)
def kY(L:Nat) (w W:J):Prop:=w.heap.size≤W.heap.size∧∀b,L≤b→b<w.heap.size→W.heap[b]?=w.heap[b]?
def ry(L:Nat) (w:J) (kd:Nat) (fn:tT):Prop:=
 (∃g:FuncId,fn=z7 (.func g) #[] #[]∧(∀(args:Array tT) (w:J),(callFunc g args).run vo w=.ok (.enter g args) w)∧∀(W:J) (d B:Nat) (ks:List ac) (v:tT),kY L w W→ap W B d ks v→B≤W.heap.size→ks.length≤20000→wg vo g #[v] W (aV (fY kd ks) W))∨
 (∃b:Nat,fn=z7 (.func 205) #[] #[vv (A ⟨b,0,Y⟩)]∧∀(W:J) (d B:Nat) (ks:List ac) (v:tT),kY L w W→ap W B d ks v→B≤W.heap.size→ks.length≤20000→wg vo 205 #[v,vv (A ⟨b,0,Y⟩)] W (aV (fY kd ks) W))
theorem Dh{w:J}{b n:Nat}{S:List Nat}{arr:Array tT}(h:w.heap[b]?=A (r9 arr 142 (0,0)))(a:arr=(S.map fun k:Nat=>I tF (k:Int)).toArray)(c:S.length≤100)(d:S.length=n):gy w S (O (A ⟨b,0,Y⟩) n n):=by
 subst a;subst d;refine wP ⟨b,0,S.length,Z,c,(Fx.1 h).1,fun i k e=>?_⟩;rw[Gk _ _ _ _ _ _ h];simp[e]
theorem js{L b b' n kd:Nat}{w:J}{S:List Nat}{arr:Array tT}(l:L≤b)(e:L≤b')(i:w.heap[b]?=A (r9 #[O (A ⟨b',0,Y⟩) n n] 306 (0,0)))(j:w.heap[b']?=A (r9 arr 142 (0,0)))(m:arr=(S.map fun k:Nat=>I tF (k:Int)).toArray)(o:S.length≤100)(p:S.length=n)
  (h:∀ks,fY kd ks=dm S ks):ry L w kd (z7 (.func 205) #[] #[vv (A ⟨b,0,Y⟩)]):=by
 have a:b<w.heap.size:=(Fx.1 i).1;have c:b'<w.heap.size:=(Fx.1 j).1;refine wP ⟨b,Z,fun W d B ks v f q hB g=>?_⟩;rw[h ks];exact jM S ks v _ d B b W q hB g (Dh ((f.2 b' e c).trans j) m o p) (FG a f.1) (Gk _ _ 0 _ _ _ ((f.2 b l a).trans i))
theorem fS{L b kd:Nat}{w:J}(g:L≤b)(e:w.heap[b]?=A (r9 #[O Y 0 0] 306 (0,0)))(h:∀ks,fY kd ks=dm [] ks) :
  ry L w kd (z7 (.func 205) #[] #[vv (A ⟨b,0,Y⟩)]):=by
 have a:b<w.heap.size:=(Fx.1 e).1;refine wP ⟨b,Z,fun W d B ks v f i hB c=>?_⟩;rw[h ks];exact jM [] ks v _ d B b W i hB c (wD ⟨Z,Z⟩) (FG a f.1) (Gk _ _ 0 _ _ _ ((f.2 b g a).trans e))
theorem il(ks:List ac):ks.isEmpty=dm [] ks:=by
 cases ks with
 | nil=>rfl
 | cons x l=>unfold dm;simp
def ei(kd:Nat) (w:J) (e:AR) (w':J):Prop:=
 ∃fn,e=wj (y9 #[xk #[I U ((eM kd).1:Nat),I U (eM kd).2.1,I U (eM kd).2.2,fn],xv ur])∧Gl w w'∧ry w.heap.size w' kd fn
theorem bS(W:J)(h:AR→J→Prop)(T:Nat)(a b c d v3:tT)(e:W.heap[T]?=A (r9 #[a,b,c,d] 253 (0,0)))
  (tmps:Array tT) (i:tmps.getD 2 wF=vv (A ⟨T,0,Y⟩)) (j:tmps.getD 3 wF=v3) (k:h (wj (y9 #[xk #[a,b,c,d],v3])) W) :
  bodyPost vo Tryz.f148 h .ret ⟨tmps,[]⟩ W:=by
 have l:=Gk _ _ 0 _ _ _ e;have m:=Gk _ _ 1 _ _ _ e;have c2:=Gk _ _ 2 _ _ _ e;have n:=Gk _ _ 3 _ _ _ e;have f:tmps[2]?.getD wF=vv (A ⟨T,0,Y⟩):=by simpa using i
 have g:tmps[3]?.getD wF=v3:=by simpa using j
 refine bodyPost_ret (v:=y9 #[xk #[a,b,c,d],v3]) ?_ Z k;simp[results,Tryz.results148,go_sem,f,g,l,m,c2,n]
theorem dZ(w:J)(a b:Obj):((w.alloc a).alloc b).heap[w.heap.size]?=A a∧((w.alloc a).alloc b).heap[w.heap.size+1]?=A b∧Gl w ((w.alloc a).alloc b):=
 ⟨(aW w a b).1,(aW w a b).2.1,lB w a b⟩
theorem lz(w:J)(a b c d:Obj):((((w.alloc a).alloc b).alloc c).alloc d).heap[w.heap.size]?=A a∧((((w.alloc a).alloc b).alloc c).alloc d).heap[w.heap.size+1+1]?=A c∧
  ((((w.alloc a).alloc b).alloc c).alloc d).heap[w.heap.size+1+1+1]?=A d∧Gl w ((((w.alloc a).alloc b).alloc c).alloc d):=by
 refine⟨?_,?_,?_,((((Fz _ w).alloc (Fy _) _).alloc (by simp) _).alloc (by simp;omega) _).alloc (by simp;omega) _⟩<;>(simp only[gY,o5];repeat (first|rw[oE trivial] | rw[oB (by omega)] | rw[oE (by omega)]))
theorem Cq(w:J):wg vo 148 #[I tF 1] w (ei 1 w):=by
 go_enter Tryz.func148,Tryz.ntmps148
 go_wp2_with (go_at_call 178;refine (aN _ _ _ _).mono ?_;rintro e f ⟨rfl,rfl⟩)
 obtain⟨a,b,c,d⟩:=lz w (r9 #[I U 0,I U (0),I U 0,z7 (.func 205) #[] #[vv (A ⟨w.heap.size+1+1+1,0,Y⟩)]] 253) (r9 #[O Y 0 0] 306) (r9 #[I tF 2,I tF 4] 142) (r9 #[O (A ⟨w.heap.size+1+1,0,Y⟩) 2 2] 306);exact bS _ _ w.heap.size _ _ _ _ _ a _ Z Z ⟨_,Z,d,js (S:=[2,4]) (by omega) (by omega) c b Z (by decide) Z (fun ks=>rfl)⟩
theorem DC(w:J):wg vo 148 #[I tF 2] w (ei 2 w):=by
 go_enter Tryz.func148,Tryz.ntmps148
 go_wp2_with (go_at_call 178;refine (aN _ _ _ _).mono ?_;rintro e f ⟨rfl,rfl⟩)
 obtain⟨a,b,c,d⟩:=lz w (r9 #[I U 1,I U (0),I U 0,z7 (.func 205) #[] #[vv (A ⟨w.heap.size+1+1+1,0,Y⟩)]] 253) (r9 #[O Y 0 0] 306) (r9 #[I tF 3] 142) (r9 #[O (A ⟨w.heap.size+1+1,0,Y⟩) 1 1] 306);exact bS _ _ w.heap.size _ _ _ _ _ a _ Z Z ⟨_,Z,d,js (S:=[3]) (by omega) (by omega) c b Z (by decide) Z (fun ks=>rfl)⟩
theorem Dl(w:J):wg vo 148 #[I tF 3] w (ei 3 w):=by
 go_enter Tryz.func148,Tryz.ntmps148
 go_wp2_with (go_at_call 178;refine (aN _ _ _ _).mono ?_;rintro e d ⟨rfl,rfl⟩)
 obtain⟨a,b,c⟩:=dZ w (r9 #[I U 1,I U (0),I U 0,z7 (.func 205) #[] #[vv (A ⟨w.heap.size+1,0,Y⟩)]] 253) (r9 #[O Y 0 0] 306);exact bS _ _ w.heap.size _ _ _ _ _ a _ Z Z ⟨_,Z,c,fS (by omega) b (fun ks=>(show ks.isEmpty=_ from il ks))⟩
theorem Cg(w:J):wg vo 148 #[I tF 4] w (ei 4 w):=by
 go_enter Tryz.func148,Tryz.ntmps148
 go_wp2_with (go_at_call 178;refine (aN _ _ _ _).mono ?_;rintro e g ⟨rfl,rfl⟩)
 obtain⟨a,h,b⟩:=dZ w (r9 #[I U 1,I U (-2147483647),I U 2147483647,z7 (.func 179) #[] #[]] 253) (r9 #[O Y 0 0] 306);exact bS _ _ w.heap.size _ _ _ _ _ a _ Z Z ⟨_,Z,b,wD ⟨_,Z,enters_of Tryz.func179 (by kernel_rfl) Z,fun W d B ks v _ c hB f=>wH ks v d B W c hB f⟩⟩
theorem CG(w:J):wg vo 148 #[I tF 5] w (ei 5 w):=by
 go_enter Tryz.func148,Tryz.ntmps148
 go_wp2_with (go_at_call 178;refine (aN _ _ _ _).mono ?_;rintro e f ⟨rfl,rfl⟩)
 obtain⟨a,b,c,d⟩:=lz w (r9 #[I U 1,I U (0),I U 0,z7 (.func 205) #[] #[vv (A ⟨w.heap.size+1+1+1,0,Y⟩)]] 253) (r9 #[O Y 0 0] 306) (r9 #[I tF 12,I tF 13,I tF 14,I tF 15] 142) (r9 #[O (A ⟨w.heap.size+1+1,0,Y⟩) 4 4] 306);exact bS _ _ w.heap.size _ _ _ _ _ a _ Z Z ⟨_,Z,d,js (S:=[12,13,14,15]) (by omega) (by omega) c b Z (by decide) Z (fun ks=>rfl)⟩
theorem Dj(w:J):wg vo 148 #[I tF 6] w (ei 6 w):=by
 go_enter Tryz.func148,Tryz.ntmps148
 go_wp2_with (go_at_call 178;refine (aN _ _ _ _).mono ?_;rintro e f ⟨rfl,rfl⟩)
 obtain⟨a,b,c,d⟩:=lz w (r9 #[I U 1,I U (0),I U 0,z7 (.func 205) #[] #[vv (A ⟨w.heap.size+1+1+1,0,Y⟩)]] 253) (r9 #[O Y 0 0] 306) (r9 #[I tF 12,I tF 13,I tF 14,I tF 15] 142) (r9 #[O (A ⟨w.heap.size+1+1,0,Y⟩) 4 4] 306);exact bS _ _ w.heap.size _ _ _ _ _ a _ Z Z ⟨_,Z,d,js (S:=[12,13,14,15]) (by omega) (by omega) c b Z (by decide) Z (fun ks=>rfl)⟩
theorem CU(w:J):wg vo 148 #[I tF 7] w (ei 7 w):=by
 go_enter Tryz.func148,Tryz.ntmps148
 go_wp2_with (go_at_call 178;refine (aN _ _ _ _).mono ?_;rintro e g ⟨rfl,rfl⟩)
 obtain⟨a,h,b⟩:=dZ w (r9 #[I U 0,I U (0),I U 0,z7 (.func 180) #[] #[]] 253) (r9 #[O Y 0 0] 306);exact bS _ _ w.heap.size _ _ _ _ _ a _ Z Z ⟨_,Z,b,wD ⟨_,Z,enters_of Tryz.func180 (by kernel_rfl) Z,fun W d B ks v _ c hB f=>wv ks v d B W c hB f⟩⟩
theorem C5(w:J):wg vo 148 #[I tF 8] w (ei 8 w):=by
 go_enter Tryz.func148,Tryz.ntmps148
 go_wp2_with (go_at_call 178;refine (aN _ _ _ _).mono ?_;rintro e g ⟨rfl,rfl⟩)
 obtain⟨a,h,b⟩:=dZ w (r9 #[I U 1,I U (0),I U 0,z7 (.func 181) #[] #[]] 253) (r9 #[O Y 0 0] 306);exact bS _ _ w.heap.size _ _ _ _ _ a _ Z Z ⟨_,Z,b,wD ⟨_,Z,enters_of Tryz.func181 (by kernel_rfl) Z,fun W d B ks v _ c hB f=>iO ks v d B W c hB f⟩⟩
theorem BY(w:J):wg vo 148 #[I tF 9] w (ei 9 w):=by
 go_enter Tryz.func148,Tryz.ntmps148
 go_wp2_with (go_at_call 178;refine (aN _ _ _ _).mono ?_;rintro e d ⟨rfl,rfl⟩)
 obtain⟨a,b,c⟩:=dZ w (r9 #[I U 0,I U (0),I U 2147483647,z7 (.func 205) #[] #[vv (A ⟨w.heap.size+1,0,Y⟩)]] 253) (r9 #[O Y 0 0] 306);exact bS _ _ w.heap.size _ _ _ _ _ a _ Z Z ⟨_,Z,c,fS (by omega) b (fun ks=>(show ks.isEmpty=_ from il ks))⟩
theorem Aw(w:J):wg vo 148 #[I tF 10] w (ei 10 w):=by
 go_enter Tryz.func148,Tryz.ntmps148
 go_wp2_with (go_at_call 178;refine (aN _ _ _ _).mono ?_;rintro e g ⟨rfl,rfl⟩)
 obtain⟨a,h,b⟩:=dZ w (r9 #[I U 0,I U (0),I U 0,z7 (.func 182) #[] #[]] 253) (r9 #[O Y 0 0] 306);exact bS _ _ w.heap.size _ _ _ _ _ a _ Z Z ⟨_,Z,b,wD ⟨_,Z,enters_of Tryz.func182 (by kernel_rfl) Z,fun W d B ks v _ c hB f=>v8 ks v d B W c hB f⟩⟩
theorem BJ(w:J):wg vo 148 #[I tF 11] w (ei 11 w):=by
 go_enter Tryz.func148,Tryz.ntmps148
 go_wp2_with (go_at_call 178;refine (aN _ _ _ _).mono ?_;rintro e d ⟨rfl,rfl⟩)
 obtain⟨a,b,c⟩:=dZ w (r9 #[I U 0,I U (0),I U 0,z7 (.func 205) #[] #[vv (A ⟨w.heap.size+1,0,Y⟩)]] 253) (r9 #[O Y 0 0] 306);exact bS _ _ w.heap.size _ _ _ _ _ a _ Z Z ⟨_,Z,c,fS (by omega) b (fun ks=>(show ks.isEmpty=_ from il ks))⟩
theorem As(w:J):wg vo 148 #[I tF 12] w (ei 12 w):=by
 go_enter Tryz.func148,Tryz.ntmps148
 go_wp2_with (go_at_call 178;refine (aN _ _ _ _).mono ?_;rintro e d ⟨rfl,rfl⟩)
 obtain⟨a,b,c⟩:=dZ w (r9 #[I U 0,I U (0),I U 0,z7 (.func 205) #[] #[vv (A ⟨w.heap.size+1,0,Y⟩)]] 253) (r9 #[O Y 0 0] 306);exact bS _ _ w.heap.size _ _ _ _ _ a _ Z Z ⟨_,Z,c,fS (by omega) b (fun ks=>(show ks.isEmpty=_ from il ks))⟩
theorem AH(w:J):wg vo 148 #[I tF 13] w (ei 13 w):=by
 go_enter Tryz.func148,Tryz.ntmps148
 go_wp2_with (go_at_call 178;refine (aN _ _ _ _).mono ?_;rintro e d ⟨rfl,rfl⟩)
 obtain⟨a,b,c⟩:=dZ w (r9 #[I U 2,I U (0),I U 0,z7 (.func 205) #[] #[vv (A ⟨w.heap.size+1,0,Y⟩)]] 253) (r9 #[O Y 0 0] 306);exact bS _ _ w.heap.size _ _ _ _ _ a _ Z Z ⟨_,Z,c,fS (by omega) b (fun ks=>(show ks.isEmpty=_ from il ks))⟩
theorem AA(w:J):wg vo 148 #[I tF 14] w (ei 14 w):=by
 go_enter Tryz.func148,Tryz.ntmps148
 go_wp2_with (go_at_call 178;refine (aN _ _ _ _).mono ?_;rintro e d ⟨rfl,rfl⟩)
 obtain⟨a,b,c⟩:=dZ w (r9 #[I U 3,I U (0),I U 0,z7 (.func 205) #[] #[vv (A ⟨w.heap.size+1,0,Y⟩)]] 253) (r9 #[O Y 0 0] 306);exact bS _ _ w.heap.size _ _ _ _ _ a _ Z Z ⟨_,Z,c,fS (by omega) b (fun ks=>(show ks.isEmpty=_ from il ks))⟩
theorem BK(w:J):wg vo 148 #[I tF 15] w (ei 15 w):=by
 go_enter Tryz.func148,Tryz.ntmps148
 go_wp2_with (go_at_call 178;refine (aN _ _ _ _).mono ?_;rintro e d ⟨rfl,rfl⟩)
 obtain⟨a,b,c⟩:=dZ w (r9 #[I U 2,I U (0),I U 0,z7 (.func 205) #[] #[vv (A ⟨w.heap.size+1,0,Y⟩)]] 253) (r9 #[O Y 0 0] 306);exact bS _ _ w.heap.size _ _ _ _ _ a _ Z Z ⟨_,Z,c,fS (by omega) b (fun ks=>(show ks.isEmpty=_ from il ks))⟩
theorem BC(w:J):wg vo 148 #[I tF 16] w (ei 16 w):=by
 go_enter Tryz.func148,Tryz.ntmps148
 go_wp2_with (go_at_call 178;refine (aN _ _ _ _).mono ?_;rintro e g ⟨rfl,rfl⟩)
 obtain⟨a,h,b⟩:=dZ w (r9 #[I U 4,I U (0),I U 0,z7 (.func 181) #[] #[]] 253) (r9 #[O Y 0 0] 306);exact bS _ _ w.heap.size _ _ _ _ _ a _ Z Z ⟨_,Z,b,wD ⟨_,Z,enters_of Tryz.func181 (by kernel_rfl) Z,fun W d B ks v _ c hB f=>iO ks v d B W c hB f⟩⟩
theorem vU(k:Nat)(w:J)(h:k=0∨16<k):wg vo 148 #[I tF k] w fun e w'=>e=wj (y9 #[xk #[I U 0,I U 0,I U 0,.nilFunc],xv va])∧Gl w w':=by
 have m:((k:Int)==1)=false:=by simp;omega
 have n:((k:Int)==2)=false:=by simp;omega
 have o:((k:Int)==3)=false:=by simp;omega
 have p:((k:Int)==4)=false:=by simp;omega
 have q:((k:Int)==5)=false:=by simp;omega
 have r:((k:Int)==6)=false:=by simp;omega
 have s:((k:Int)==7)=false:=by simp;omega
 have t:((k:Int)==8)=false:=by simp;omega
 have u:((k:Int)==9)=false:=by simp;omega
 have a:((k:Int)==10)=false:=by simp;omega
 have b:((k:Int)==11)=false:=by simp;omega
 have c:((k:Int)==12)=false:=by simp;omega
 have d:((k:Int)==13)=false:=by simp;omega
 have f:((k:Int)==14)=false:=by simp;omega
 have g:((k:Int)==15)=false:=by simp;omega
 have i:((k:Int)==16)=false:=by simp;omega
 clear h
 go_enter Tryz.func148,Tryz.ntmps148
 go_wp2_with (go_at_call 178;refine (aN _ _ _ _).mono ?_;rintro e v ⟨rfl,rfl⟩)
 obtain⟨j,x,l⟩:=dZ w (r9 #[I U 0,I U 0,I U 0,.nilFunc] 253) (r9 #[O Y 0 0] 306);exact bS _ _ w.heap.size _ _ _ _ _ j _ Z Z ⟨Z,l⟩
theorem zo(k:Nat)(w:J)(b:1≤k)(c:k≤16):wg vo 148 #[I tF k] w (ei k w):=by
 have a:k=1∨k=2∨k=3∨k=4∨k=5∨k=6∨k=7∨k=8∨k=9∨k=10∨k=11∨k=12∨k=13∨k=14∨k=15∨k=16:=by omega
 rcases a with rfl|rfl|rfl|rfl|rfl|rfl|rfl|rfl|rfl|rfl|rfl|rfl|rfl|rfl|rfl|rfl
 ·exact Cq w
 ·exact DC w
 ·exact Dl w
 ·exact Cg w
 ·exact CG w
 ·exact Dj w
 ·exact CU w
 ·exact C5 w
 ·exact BY w
 ·exact Aw w
 ·exact BJ w
 ·exact As w
 ·exact AH w
 ·exact AA w
 ·exact BK w
 ·exact BC w
theorem wo(k:Nat)(b:1≤k)(c:k≤16)(t:List UInt8)(n:Nat):uE k t n=textF (eM k).1 t n:=by
 have a:k=1∨k=2∨k=3∨k=4∨k=5∨k=6∨k=7∨k=8∨k=9∨k=10∨k=11∨k=12∨k=13∨k=14∨k=15∨k=16:=by omega
 rcases a with rfl|rfl|rfl|rfl|rfl|rfl|rfl|rfl|rfl|rfl|rfl|rfl|rfl|rfl|rfl|rfl
 ·exact Z
 ·exact Z
 ·exact Z
 ·exact Z
 ·exact Z
 ·exact Z
 ·exact Z
 ·exact Z
 ·exact Z
 ·exact Z
 ·exact Z
 ·exact Z
 ·exact Z
 ·exact Z
 ·exact Z
 ·exact Z
theorem zB(k:Nat)(c:1≤k)(d:k≤16)(x:Int):t7 k x=(xn ((eM k).2.1≤x)&&xn (x≤(eM k).2.2)):=by
 have a:(x==0)=(xn (0≤x)&&xn (x≤0)):=by rw[Ga];simp;omega
 have b:k=1∨k=2∨k=3∨k=4∨k=5∨k=6∨k=7∨k=8∨k=9∨k=10∨k=11∨k=12∨k=13∨k=14∨k=15∨k=16:=by omega
 rcases b with rfl|rfl|rfl|rfl|rfl|rfl|rfl|rfl|rfl|rfl|rfl|rfl|rfl|rfl|rfl|rfl
 ·exact a
 ·exact a
 ·exact a
 ·exact Z
 ·exact a
 ·exact a
 ·exact a
 ·exact a
 ·exact Z
 ·exact a
 ·exact a
 ·exact a
 ·exact a
 ·exact a
 ·exact a
 ·exact a
theorem Ed(k:Nat)(b:1≤k)(c:k≤16):(eM k).1≤4∧-2147483647≤(eM k).2.1∧(eM k).2.2≤2147483647:=by
 have a:k=1∨k=2∨k=3∨k=4∨k=5∨k=6∨k=7∨k=8∨k=9∨k=10∨k=11∨k=12∨k=13∨k=14∨k=15∨k=16:=by omega
 rcases a with rfl|rfl|rfl|rfl|rfl|rfl|rfl|rfl|rfl|rfl|rfl|rfl|rfl|rfl|rfl|rfl
 ·decide
 ·decide
 ·decide
 ·decide
 ·decide
 ·decide
 ·decide
 ·decide
 ·decide
 ·decide
 ·decide
 ·decide
 ·decide
 ·decide
 ·decide
 ·decide
def dL(d:Nat) (T:ac) (deep left:Nat):Bool:=okF d T&&xn (deep+fW d T≤31)&&xn (dI d T≤left)
def jP(d:Nat) (deep:Nat) (t:ac):Bool:=okF d t&&xn (deep+1+fW d t≤31)
def sumF(d:Nat) (ks:List ac):Nat:=(ks.map (dI d)).foldl (· + ·) 0
theorem EP(d:Nat)(T:ac)(h:d=0→T.z=[]):okF d T=(cz T&&T.z.all (okF (d-1))):=by
 cases d with
 | zero=>rw[h Z];show cz T=(cz T&&ur);rw[Bool.and_true]
 | succ d=>rfl
theorem CN(d:Nat)(T:ac)(h:d=0→T.z=[]):fW d T=(T.z.map (fW (d-1))).foldl Nat.max 0+1:=by
 cases d with
 | zero=>rw[h Z];rfl
 | succ d=>rfl
theorem uT(d:Nat)(T:ac)(h:d=0→T.z=[]):dI d T=sumF (d-1) T.z+1:=by
 cases d with
 | zero=>rw[h Z];rfl
 | succ d=>show (T.z.map (dI d)).foldl (· + ·) 1=_;rw[sE,Nat.add_comm];rfl
theorem max_le(f:ac→Nat)(m:Nat):∀(l:List ac) (a:Nat),(xn ((l.map f).foldl Nat.max a≤m))=(xn (a≤m)&&l.all fun t=>xn (f t≤m)):=by
 intro l
 induction l with
 | nil=>intro a;simp
 | cons x l b =>
  intro a;rw[List.map_cons,List.foldl_cons,b,List.all_cons];have:xn (Nat.max a (f x)≤m)=(xn (a≤m)&&xn (f x≤m)):=by rw[Ga];simp only[oX,FV];exact Nat.max_le
  rw[this,Bool.and_assoc]
theorem Cu(d:Nat)(T:ac)(deep left:Nat)(h:d=0→T.z=[]) :
  dL d T deep left=(cz T&&xn (deep≤30)&&T.z.all (jP (d-1) deep)&&xn (sumF (d-1) T.z+1≤left)):=by
 unfold dL;rw[EP d T h,CN d T h,uT d T h]
 by_cases b:deep≤30
 ·have e:xn (deep+((T.z.map (fW (d-1))).foldl Nat.max 0+1)≤31)=xn ((T.z.map (fW (d-1))).foldl Nat.max 0≤30-deep):=by
   rw[Ga];simp only[oX];omega
  rw[e,max_le];have c:xn (0≤30-deep)=true:=by simp
  have a:xn (deep≤30)=true:=by simpa using b
  rw[c,a,Bool.true_and,Bool.and_true];have f:T.z.all (jP (d-1) deep)=(T.z.all (okF (d-1))&&T.z.all fun t=>xn (fW (d-1) t≤30-deep)):=by
   induction T.z with
   | nil=>rfl
   | cons x l g =>
    rw[List.all_cons,List.all_cons,List.all_cons,g];unfold jP;have:xn (deep+1+fW (d-1) x≤31)=xn (fW (d-1) x≤30-deep):=by rw[Ga];simp only[oX];omega
    rw[this]
    cases okF (d-1) x<;>cases xn (fW (d-1) x≤30-deep)<;>simp
  rw[f];simp only[Bool.and_assoc]
 ·have i:xn (deep+((T.z.map (fW (d-1))).foldl Nat.max 0+1)≤31)=false:=by simp;omega
  have a:xn (deep≤30)=false:=by simpa using b
  rw[i,a];simp
theorem sG(d:Nat)(ks:List ac)(k:Nat)(t:ac)(h:ks[k]?=A t):sumF d (ks.take (k+1))=sumF d (ks.take k)+dI d t:=by
 unfold sumF;rw[Gd,h,List.map_append,List.foldl_append];rfl
theorem DT(d:Nat)(ks:List ac)(k:Nat):sumF d (ks.take k)≤sumF d ks:=by
 have h:sumF d ks=sumF d (ks.take k)+sumF d (ks.drop k):=by
  unfold sumF
  conv=>lhs;rw[←List.take_append_drop k ks]
  rw[List.map_append,List.foldl_append,sE]
 omega
def j1(d:Nat) (T:ac) (deep left a:Nat) (w:J) (e:AR) (w':J):Prop:=
 e=wj (xv (dL d T deep left))∧w.grownBy w' (A a)∧∃x:Int,w'.heap[a]?=A (r9 #[I U x] 3 (0,0))∧(dL d T deep left=ur→x=(left:Int)-dI d T)
def Bh(d:Nat):Prop:=∀(T:ac) (v:tT) (deep left a B:Nat) (w:J),fi w B d T v→B≤a→B≤w.heap.size→jx d T→aB w→3≠a→
 w.heap[a]?=A (r9 #[I U left] 3 (0,0))→1≤deep→deep≤31→left≤4096→wg vo 123 #[v,I U deep,vv (A ⟨a,0,Y⟩)] w (j1 d T deep left a w)
theorem below_of_grown{B g:Nat}{w W:J}(a:w.grownBy W (A g))(b:B≤g)(hB:B≤w.heap.size):Below B w W:=
 ⟨a.os,a.tape,a.output,a.size,fun i hi=>a.block i (FG hi hB) (by intro e;simp at e;omega)⟩
def Dx(w:J) (d:Nat) (ks:List ac) (deep left b n:Nat) (i:tT) (W:J):Prop:=
 ∃(a:J) (k m:Nat),a=W∧k≤n∧i=I U k∧w.grownBy a (A b)∧a.heap[b]?=A (r9 #[I U m] 3 (0,0))∧m+sumF d (ks.take k)+1=left∧(ks.take k).all (jP d deep)=ur
theorem gx{a b c:J}{row:Option Nat}(h:a.grownBy b row)(d:b.grownBy c row):a.grownBy c row:=
 ⟨d.os.trans h.os,d.tape.trans h.tape,d.output.trans h.output,FH h.size d.size,fun k f e=>(d.block k (FG f h.size) e).trans (h.block k f e)⟩
theorem right_stop{d:Nat}{ks:List ac}{k m deep left:Nat}{t:ac}(c:ks[k]?=A t)(hm:m+sumF d (ks.take k)+1=left)(h:dL d t (deep+1) m=va):(ks.all (jP d deep)&&xn (sumF d ks+1≤left))=false:=by
 by_cases a:jP d deep t=ur
 ·have f:m<dI d t:=by
   unfold dL at h;unfold jP at a;rw[a,Bool.true_and]at h
   simpa using h
  have g:=sG d ks k t c;have i:=DT d ks (k+1);have e:xn (sumF d ks+1≤left)=false:=by simp;omega
  rw[e,Bool.and_false]
 ·have b:jP d deep t=false:=by simpa using a
  have e:ks.all (jP d deep)=false:=by rw[List.all_eq_false];exact⟨t,FZ c,by simp[b]⟩
  rw[e,Bool.false_and]
theorem Cz{d:Nat}{ks:List ac}{k m deep:Nat}{t:ac}(b:ks[k]?=A t)(a:(ks.take k).all (jP d deep)=ur)(h:dL d t (deep+1) m=ur):(ks.take (k+1)).all (jP d deep)=ur∧dI d t≤m:=by
 unfold dL at h;rw[FV]at h;refine⟨?_,by simpa using h.2⟩;rw[Gd,b,List.all_append,a]
 simpa [jP]using h.1
theorem dY{d deep left b:Nat}{T:ac}{w W:J}{x:Int}(a:dL d T deep left=va)(c:w.grownBy W (A b))(e:W.heap[b]?=A (r9 #[I U x] 3 (0,0))) :
  j1 d T deep left b w (wj (xv va)) W:=⟨bF a.symm,c,x,e,fun h=>by rw[a]at h;cases h⟩
theorem tg{w:J}{a:Nat}{x:tT}{t:TypeId}(h:w.heap[a]?=A (r9 #[x] t (0,0)))(y:tT)(o:Obj):((w.setCell ⟨a,0,Y⟩ y).alloc o).heap[a]?=A (r9 #[y] t (0,0)):=by
 have b:=heap_set h 0 y;have c:a<(w.setCell ⟨a,0,Y⟩ y).heap.size:=(Fx.1 b).1;rw[gY,oB (by omega)];exact b
theorem nh(d:Nat)(T:ac)(v:tT)(deep left f B:Nat)(w:J)(D:fi w B d T v)(_hB:B≤w.heap.size)(r:w.heap[f]?=A (r9 #[I U left] 3 (0,0)))(E:left≤4096)
  (t:T.q=0∨16<T.q):wg vo 123 #[v,I U deep,vv (A ⟨f,0,Y⟩)] w (j1 d T deep left f w):=by
 obtain⟨_,s,rfl,g⟩:=D;obtain⟨p,n,c,rfl⟩:=g.q;have i:dL d T deep left=false:=by
  have z:cz T=false:=by
   unfold cz;rcases t with h|h
   ·have e:xn (1≤T.q)=false:=by simp;omega
    rw[e];rfl
   ·have e:xn (T.q≤16)=false:=by simp;omega
    rw[e];simp
  unfold dL;have:okF d T=false:=by
   cases d with
   | zero=>exact z
   | succ d=>show (cz T&&_)=va;rw[z];rfl
  rw[this];rfl
 have u:=Hd i;have x:f<w.heap.size:=(Fx.1 r).1;have F:(0:Int)≤left:=by omega
 have G:(left:Int)≤4096:=by omega
 have y:=Hd (fun W=>vU T.q W t);have j:Gl w (w.alloc (r9 #[I tF T.q,tS T.h,I U T.u,I U T.t,O p n c] 232)):=(Fz _ w).alloc (Fy _) _;obtain⟨H,K,L,M,N⟩:=cells5 (oA w (r9 #[I tF T.q,tS T.h,I U T.u,I U T.t,O p n c] 232));obtain⟨k,P⟩:=zz2 j r;clear t g i r j
 go_enter Tryz.func123,Tryz.ntmps123
 go_wp2_with fail
 refine FN (y.o _) ?_;rintro e w1 ⟨rfl,l⟩;have a:=Hd (k.o.trans (l.mono k.o.size));have q:=aa a.o P.o x;have m:f<w1.heap.size:=(Fx.1 q).1;have b:Gl w1 (w1.alloc (r9 #[I U 0,I U 0,I U 0,.nilFunc] 253)):=(Fz _ w1).alloc (Fy _) _;obtain⟨C,Q,R⟩:=zz3 (aa b q m) q (a.o.trans (b.mono a.o.size));have c2:=Gk _ _ 0 _ _ _ C.o;have f2:=ax C.o 0;clear H K L M N l q b;go_wp2_with fail
 go_ret;exact dY u.o (grown_below (dO (az a.o (A f)) 0 _) ((Fz _ _).alloc (Fy _) _)) (tg Q.o _ _)
