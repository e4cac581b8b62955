/- Several texts joined, each with its own sentence and conditions ahead of it: SmA, SmB. -/
import Derived.Test.YtglbjooofdnbkaaGreatDoorME
import Derived.Test.YtglbjooofdnbkaaGreatDoorNJ
namespace Go.Proofs.YtglbjooofdnbkaaGreatDoor
set_option maxHeartbeats 2000000
set_option maxRecDepth 100000
open Go.RowKit
def SameOf {α:Type} (r:Rd α) (f:Nat):Prop:=∀(x:α) (vs vs':List Value) (w:World),r.at_ w (fun b=>b<w.heap.size) x vs→r.at_ w (fun b=>b<w.heap.size) x vs'→Calls Tryz.prog f #[.agg vs.toArray,.agg vs'.toArray] w (TruePost w)
theorem sameTypes_any (l:List CType)(u v:Value)(w:World)(hu:typeRd.row w (fun b=>b<w.heap.size) l u)(hv:typeRd.row w (fun b=>b<w.heap.size) l v):Calls Tryz.prog 18 #[u,v] w (TruePost w):=by
 obtain⟨p,c,hpu⟩:=Rd.row_shape hu
 obtain⟨q,c',hpv⟩:=Rd.row_shape hv
 have hmx:=Rd.row_len hu
 subst hpu;subst hpv
 obtain⟨n,hn⟩:∃n,l.length=n:=⟨_,rfl⟩
 have HU:=Hd (fun W (hW:Below w.heap.size w W)=>Rd.row_below hu (fun _ h=>h) hW)
 have HV:=Hd (fun W (hW:Below w.heap.size w W)=>Rd.row_below hv (fun _ h=>h) hW)
 rw[hn] at HU HV hmx ⊢
 have HN:=Hd hn
 have hn3:(n:Int)≤9223372036854775807:=by unfold maxLen at hmx;omega
 clear hu hv hn hmx
 go_enter Tryz.func18,Tryz.ntmps18
 go_wp2
 go_loopw [5] (UpRel w n) (fun i _=>n-(intOf i).toNat)
 case atStart=>exact⟨_,0,rfl,Nat.zero_le _,rfl,Below.refl _ _⟩
 case round =>
  obtain⟨W1,k,rfl,hk,rfl,hb⟩:=hrel
  by_cases hlt:k<n
  ·obtain⟨x,hx⟩:∃x,l[k]? = some x:=⟨_,List.getElem?_eq_getElem (by rw[HN.out];exact hlt)⟩
   have hvs:=Rd.row_at (HU.out W1 hb) hx
   rw[HN.out] at hvs
   obtain⟨b,off,cap,vs,hev,_,_,_,_,hat,hcell⟩:=hvs
   injection hev with e1 _ e3
   subst e1;subst e3
   have hcell:∀m z,vs[m]? = some z→W1.cell? ⟨b,off+k*2+m,none⟩=some z:=hcell
   have hvs':=Rd.row_at (HV.out W1 hb) hx
   rw[HN.out] at hvs'
   obtain⟨b',off',cap',vs',hev',_,_,_,_,hat',hcell'⟩:=hvs'
   injection hev' with e1' _ e3'
   subst e1';subst e3'
   have hcell':∀m z,vs'[m]? = some z→W1.cell? ⟨b',off'+k*2+m,none⟩=some z:=hcell'
   obtain⟨rfl,_,_⟩:=type_at.1 hat
   obtain⟨rfl,_,_⟩:=type_at.1 hat'
   have d0:W1.cell? ⟨b,off+k*2,none⟩=some (.string x.name):=hcell 0 _ rfl
   have d1:W1.cell? ⟨b,off+k*2+1,none⟩=some (.int .i64 x.fields):=hcell 1 _ rfl
   have e0:W1.cell? ⟨b',off'+k*2,none⟩=some (.string x.name):=hcell' 0 _ rfl
   have e1:W1.cell? ⟨b',off'+k*2+1,none⟩=some (.int .i64 x.fields):=hcell' 1 _ rfl
   have hdr:Below W1.heap.size W1 W1.drew:=(Below.refl _ W1).drew
   have HBb:=Hd (hb.trans (hdr.mono hb.size))
   have hk0:(0:Int)≤k:=by omega
   have hk2:(k:Int)<n:=by omega
   clear hat hat' hcell hcell' hx hdr hb
   go_wp2
   go_still_tail 8,(by kernel_rfl)
   change wpList _ _ _ _ _ W1.drew
   generalize W1.drew=W2 at *
   clear d0 d1 e0 e1
   go_wp2_with fail
   exact⟨⟨_,k+1,rfl,by omega,by go_num,HBb.out⟩,by simp[intOf];omega⟩
  ·obtain rfl:k=n:=by omega
   have HBb:=Hd hb
   clear hb
   go_wp2
   go_ret
   exact⟨rfl,HBb.out⟩
theorem sameArgs_any (l:List CArg)(u v:Value)(w:World)(hu:argRd.row w (fun b=>b<w.heap.size) l u)(hv:argRd.row w (fun b=>b<w.heap.size) l v):Calls Tryz.prog 111 #[u,v] w (TruePost w):=by
 obtain⟨p,c,hpu⟩:=Rd.row_shape hu
 obtain⟨q,c',hpv⟩:=Rd.row_shape hv
 have hmx:=Rd.row_len hu
 subst hpu;subst hpv
 obtain⟨n,hn⟩:∃n,l.length=n:=⟨_,rfl⟩
 have HU:=Hd (fun W (hW:Below w.heap.size w W)=>Rd.row_below hu (fun _ h=>h) hW)
 have HV:=Hd (fun W (hW:Below w.heap.size w W)=>Rd.row_below hv (fun _ h=>h) hW)
 rw[hn] at HU HV hmx ⊢
 have HN:=Hd hn
 have hn3:(n:Int)≤9223372036854775807:=by unfold maxLen at hmx;omega
 clear hu hv hn hmx
 go_enter Tryz.func111,Tryz.ntmps111
 go_wp2
 go_loopw [5] (UpRel w n) (fun i _=>n-(intOf i).toNat)
 case atStart=>exact⟨_,0,rfl,Nat.zero_le _,rfl,Below.refl _ _⟩
 case round =>
  obtain⟨W1,k,rfl,hk,rfl,hb⟩:=hrel
  by_cases hlt:k<n
  ·obtain⟨x,hx⟩:∃x,l[k]? = some x:=⟨_,List.getElem?_eq_getElem (by rw[HN.out];exact hlt)⟩
   have hvs:=Rd.row_at (HU.out W1 hb) hx
   rw[HN.out] at hvs
   obtain⟨b,off,cap,vs,hev,_,_,_,_,hat,hcell⟩:=hvs
   injection hev with e1 _ e3
   subst e1;subst e3
   have hcell:∀m z,vs[m]? = some z→W1.cell? ⟨b,off+k*5+m,none⟩=some z:=hcell
   have hvs':=Rd.row_at (HV.out W1 hb) hx
   rw[HN.out] at hvs'
   obtain⟨b',off',cap',vs',hev',_,_,_,_,hat',hcell'⟩:=hvs'
   injection hev' with e1' _ e3'
   subst e1';subst e3'
   have hcell':∀m z,vs'[m]? = some z→W1.cell? ⟨b',off'+k*5+m,none⟩=some z:=hcell'
   obtain⟨rfl,_⟩:=arg_at.1 hat
   obtain⟨rfl,_⟩:=arg_at.1 hat'
   have d0:W1.cell? ⟨b,off+k*5,none⟩=some (.int .u8 x.kind):=hcell 0 _ rfl
   have d1:W1.cell? ⟨b,off+k*5+1,none⟩=some (.int .i64 x.var):=hcell 1 _ rfl
   have d2:W1.cell? ⟨b,off+k*5+2,none⟩=some (.int .u8 x.val.kind):=hcell 2 _ rfl
   have d3:W1.cell? ⟨b,off+k*5+3,none⟩=some (.int .i64 x.val.num):=hcell 3 _ rfl
   have d4:W1.cell? ⟨b,off+k*5+4,none⟩=some (.string x.val.text):=hcell 4 _ rfl
   have e0:W1.cell? ⟨b',off'+k*5,none⟩=some (.int .u8 x.kind):=hcell' 0 _ rfl
   have e1:W1.cell? ⟨b',off'+k*5+1,none⟩=some (.int .i64 x.var):=hcell' 1 _ rfl
   have e2:W1.cell? ⟨b',off'+k*5+2,none⟩=some (.int .u8 x.val.kind):=hcell' 2 _ rfl
   have e3:W1.cell? ⟨b',off'+k*5+3,none⟩=some (.int .i64 x.val.num):=hcell' 3 _ rfl
   have e4:W1.cell? ⟨b',off'+k*5+4,none⟩=some (.string x.val.text):=hcell' 4 _ rfl
   have hdr:Below W1.heap.size W1 W1.drew:=(Below.refl _ W1).drew
   have HBb:=Hd (hb.trans (hdr.mono hb.size))
   have hk0:(0:Int)≤k:=by omega
   have hk2:(k:Int)<n:=by omega
   clear hat hat' hcell hcell' hx hdr hb
   go_wp2
   go_still_tail 8,(by kernel_rfl)
   change wpList _ _ _ _ _ W1.drew
   generalize W1.drew=W2 at *
   clear d0 d1 d2 d3 d4 e0 e1 e2 e3 e4
   go_wp2_with fail
   exact⟨⟨_,k+1,rfl,by omega,by go_num,HBb.out⟩,by simp[intOf];omega⟩
  ·obtain rfl:k=n:=by omega
   have HBb:=Hd hb
   clear hb
   go_wp2
   go_ret
   exact⟨rfl,HBb.out⟩
theorem sameExprs_any (d:Nat)(l:List CExpr)(hf:l=[]∨SameOf (exprRd d) 112)(u v:Value)(w:World)(hu:(exprRd d).row w (fun b=>b<w.heap.size) l u)(hv:(exprRd d).row w (fun b=>b<w.heap.size) l v):Calls Tryz.prog 113 #[u,v] w (TruePost w):=by
 obtain⟨p,c,hpu⟩:=Rd.row_shape hu
 obtain⟨q,c',hpv⟩:=Rd.row_shape hv
 have hmx:=Rd.row_len hu
 subst hpu;subst hpv
 obtain⟨n,hn⟩:∃n,l.length=n:=⟨_,rfl⟩
 have HU:=Hd (fun W (hW:Below w.heap.size w W)=>Rd.row_below hu (fun _ h=>h) hW)
 have HV:=Hd (fun W (hW:Below w.heap.size w W)=>Rd.row_below hv (fun _ h=>h) hW)
 have HF:=Hd hf
 rw[hn] at HU HV hmx ⊢
 have HN:=Hd hn
 have hn3:(n:Int)≤9223372036854775807:=by unfold maxLen at hmx;omega
 clear hu hv hn hmx hf
 go_enter Tryz.func113,Tryz.ntmps113
 go_wp2
 go_loopw [5] (UpRel w n) (fun i _=>n-(intOf i).toNat)
 case atStart=>exact⟨_,0,rfl,Nat.zero_le _,rfl,Below.refl _ _⟩
 case round =>
  obtain⟨W1,k,rfl,hk,rfl,hb⟩:=hrel
  by_cases hlt:k<n
  ·obtain⟨x,hx⟩:∃x,l[k]? = some x:=⟨_,List.getElem?_eq_getElem (by rw[HN.out];exact hlt)⟩
   have hvs:=Rd.row_at (HU.out W1 hb) hx
   rw[HN.out] at hvs
   obtain⟨b,off,cap,vs,hev,_,_,_,_,hat,hcell⟩:=hvs
   injection hev with e1 _ e3
   subst e1;subst e3
   have hcell:∀m z,vs[m]? = some z→W1.cell? ⟨b,off+k*7+m,none⟩=some z:=by simpa only [exprRd_n] using hcell
   have hvs':=Rd.row_at (HV.out W1 hb) hx
   rw[HN.out] at hvs'
   obtain⟨b',off',cap',vs',hev',_,_,_,_,hat',hcell'⟩:=hvs'
   injection hev' with e1' _ e3'
   subst e1';subst e3'
   have hcell':∀m z,vs'[m]? = some z→W1.cell? ⟨b',off'+k*7+m,none⟩=some z:=by simpa only [exprRd_n] using hcell'
   have hat0:=hat
   have hat0':=hat'
   obtain⟨_,s0,rfl,hs0⟩:=expr_at.1 hat
   obtain⟨ps0,cs0,hhs0⟩:=ekids_shape hs0
   obtain⟨_,s0',rfl,hs0'⟩:=expr_at.1 hat'
   obtain⟨ps0',cs0',hhs0'⟩:=ekids_shape hs0'
   obtain⟨ns0,hns0⟩:∃m,x.kids.length=m:=⟨_,rfl⟩
   rw[hns0] at hhs0
   subst hhs0
   rw[hns0] at hhs0'
   subst hhs0'
   have d0:W1.cell? ⟨b,off+k*7,none⟩=some (.int .u8 x.kind):=hcell 0 _ rfl
   have d1:W1.cell? ⟨b,off+k*7+1,none⟩=some (.int .u8 x.val.kind):=hcell 1 _ rfl
   have d2:W1.cell? ⟨b,off+k*7+2,none⟩=some (.int .i64 x.val.num):=hcell 2 _ rfl
   have d3:W1.cell? ⟨b,off+k*7+3,none⟩=some (.string x.val.text):=hcell 3 _ rfl
   have d4:W1.cell? ⟨b,off+k*7+4,none⟩=some (.int .i64 x.var):=hcell 4 _ rfl
   have d5:W1.cell? ⟨b,off+k*7+5,none⟩=some (.int .u8 x.op):=hcell 5 _ rfl
   have d6:W1.cell? ⟨b,off+k*7+6,none⟩=some (.slice ps0 ns0 cs0):=hcell 6 _ rfl
   have e0:W1.cell? ⟨b',off'+k*7,none⟩=some (.int .u8 x.kind):=hcell' 0 _ rfl
   have e1:W1.cell? ⟨b',off'+k*7+1,none⟩=some (.int .u8 x.val.kind):=hcell' 1 _ rfl
   have e2:W1.cell? ⟨b',off'+k*7+2,none⟩=some (.int .i64 x.val.num):=hcell' 2 _ rfl
   have e3:W1.cell? ⟨b',off'+k*7+3,none⟩=some (.string x.val.text):=hcell' 3 _ rfl
   have e4:W1.cell? ⟨b',off'+k*7+4,none⟩=some (.int .i64 x.var):=hcell' 4 _ rfl
   have e5:W1.cell? ⟨b',off'+k*7+5,none⟩=some (.int .u8 x.op):=hcell' 5 _ rfl
   have e6:W1.cell? ⟨b',off'+k*7+6,none⟩=some (.slice ps0' ns0 cs0'):=hcell' 6 _ rfl
   have hdr:Below W1.heap.size W1 W1.drew:=(Below.refl _ W1).drew
   have hk1:∀b,(b<w.heap.size)→b<W1.drew.heap.size:=fun b h=>Nat.lt_of_lt_of_le h (Nat.le_trans hb.size hdr.size)
   have hkp:∀b,b<w.heap.size→∀o,W1.heap[b]? = some o→W1.drew.heap[b]? = some o:=fun b h o ho=>(hdr.block b (Nat.lt_of_lt_of_le h hb.size)).trans ho
   have HCall:Hid (Calls Tryz.prog 112 #[.agg #[.int .u8 x.kind,.int .u8 x.val.kind,.int .i64 x.val.num,.string x.val.text,.int .i64 x.var,.int .u8 x.op,.slice ps0 ns0 cs0],.agg #[.int .u8 x.kind,.int .u8 x.val.kind,.int .i64 x.val.num,.string x.val.text,.int .i64 x.var,.int .u8 x.op,.slice ps0' ns0 cs0']] W1.drew (TruePost W1.drew)):=(HF.out.resolve_left (fun h=>by rw[h] at hx;simp at hx)) x _ _ W1.drew ((exprRd d).sub hk1 ((exprRd d).keep hkp hat0)) ((exprRd d).sub hk1 ((exprRd d).keep hkp hat0'))
   have HBb:=Hd (hb.trans (hdr.mono hb.size))
   have hk0:(0:Int)≤k:=by omega
   have hk2:(k:Int)<n:=by omega
   clear hat hat' hcell hcell' hx hdr hb hs0 hs0' hns0 hat0 hat0' hk1 hkp
   go_wp2
   go_still_tail 8,(by kernel_rfl)
   change wpList _ _ _ _ _ W1.drew
   generalize W1.drew=W2 at *
   clear d0 d1 d2 d3 d4 d5 d6 e0 e1 e2 e3 e4 e5 e6
   go_wp2_with fail
   refine HCall.out.mono ?_
   rintro e W3 ⟨rfl,hb2⟩
   go_wp2_with fail
   exact⟨⟨_,k+1,rfl,by omega,by go_num,HBb.out.trans (hb2.mono HBb.out.size)⟩,by simp[intOf];omega⟩
  ·obtain rfl:k=n:=by omega
   have HBb:=Hd hb
   clear hb
   go_wp2
   go_ret
   exact⟨rfl,HBb.out⟩
theorem sameExpr_of (d:Nat)(hk:∀(l:List CExpr)(u v:Value)(w:World),ekidsAt w (fun b=>b<w.heap.size) d l u→ekidsAt w (fun b=>b<w.heap.size) d l v→Calls Tryz.prog 113 #[u,v] w (TruePost w)):SameOf (exprRd d) 112:=by
 intro x vs vs' w hat hat'
 obtain⟨_,s0,rfl,hs0⟩:=expr_at.1 hat
 obtain⟨_,s0',rfl,hs0'⟩:=expr_at.1 hat'
 have hb:Below w.heap.size w ((w.alloc (.cells #[.int .u8 x.kind,.int .u8 x.val.kind,.int .i64 x.val.num,.string x.val.text,.int .i64 x.var,.int .u8 x.op,s0] 58)).alloc (.cells #[.int .u8 x.kind,.int .u8 x.val.kind,.int .i64 x.val.num,.string x.val.text,.int .i64 x.var,.int .u8 x.op,s0'] 58)):=((Below.refl _ w).alloc (Nat.le_refl _) _).alloc (by simp) _
 have hk1:∀b,(b<w.heap.size)→b<((w.alloc (.cells #[.int .u8 x.kind,.int .u8 x.val.kind,.int .i64 x.val.num,.string x.val.text,.int .i64 x.var,.int .u8 x.op,s0] 58)).alloc (.cells #[.int .u8 x.kind,.int .u8 x.val.kind,.int .i64 x.val.num,.string x.val.text,.int .i64 x.var,.int .u8 x.op,s0'] 58)).heap.size:=fun b h=>Nat.lt_of_lt_of_le h hb.size
 have hkp:∀b,b<w.heap.size→∀o,w.heap[b]? = some o→((w.alloc (.cells #[.int .u8 x.kind,.int .u8 x.val.kind,.int .i64 x.val.num,.string x.val.text,.int .i64 x.var,.int .u8 x.op,s0] 58)).alloc (.cells #[.int .u8 x.kind,.int .u8 x.val.kind,.int .i64 x.val.num,.string x.val.text,.int .i64 x.var,.int .u8 x.op,s0'] 58)).heap[b]? = some o:=fun b h o ho=>(hb.block b h).trans ho
 have HC:=Hd (hk x.kids s0 s0' _ (ekids_sub hk1 (ekids_keep hkp hs0)) (ekids_sub hk1 (ekids_keep hkp hs0')))
 have HB:=Hd hb
 obtain⟨ps0,cs0,hhs0⟩:=ekids_shape hs0
 obtain⟨ps0',cs0',hhs0'⟩:=ekids_shape hs0'
 obtain⟨ns0,hns0⟩:∃m,x.kids.length=m:=⟨_,rfl⟩
 rw[hns0] at hhs0
 subst hhs0
 rw[hns0] at hhs0'
 subst hhs0'
 clear hb hk1 hkp hat hat' hs0 hs0' hns0
 show Calls Tryz.prog 112 #[.agg #[.int .u8 x.kind,.int .u8 x.val.kind,.int .i64 x.val.num,.string x.val.text,.int .i64 x.var,.int .u8 x.op,.slice ps0 ns0 cs0],.agg #[.int .u8 x.kind,.int .u8 x.val.kind,.int .i64 x.val.num,.string x.val.text,.int .i64 x.var,.int .u8 x.op,.slice ps0' ns0 cs0']] w (TruePost w)
 go_enter Tryz.func112,Tryz.ntmps112
 go_wp2_with fail
 refine HC.out.mono ?_
 rintro e W ⟨rfl,hb2⟩
 have HB2:=Hd (HB.out.trans (hb2.mono HB.out.size))
 clear hb2 HC
 go_wp2_with fail
 go_ret
 exact⟨rfl,HB2.out⟩
theorem sameKids_all:∀(d:Nat)(l:List CExpr)(u v:Value)(w:World),ekidsAt w (fun b=>b<w.heap.size) d l u→ekidsAt w (fun b=>b<w.heap.size) d l v→Calls Tryz.prog 113 #[u,v] w (TruePost w)
 | 0,l,u,v,w,hu,hv=>by
  obtain⟨rfl,p,c,rfl⟩:=hu
  obtain⟨_,q,c',rfl⟩:=hv
  exact sameExprs_any 0 [] (Or.inl rfl) _ _ w Rd.row_nil Rd.row_nil
 | d+1,l,u,v,w,hu,hv=>sameExprs_any d l (Or.inr (sameExpr_of d (sameKids_all d))) u v w hu hv
theorem sameExpr_all (d:Nat):SameOf (exprRd d) 112:=sameExpr_of d (sameKids_all d)
theorem sameExprs_all (d:Nat)(l:List CExpr)(u v:Value)(w:World)(hu:(exprRd d).row w (fun b=>b<w.heap.size) l u)(hv:(exprRd d).row w (fun b=>b<w.heap.size) l v):Calls Tryz.prog 113 #[u,v] w (TruePost w):=sameExprs_any d l (Or.inr (sameExpr_all d)) u v w hu hv
theorem sameCond_of (d:Nat):SameOf (condRd d) 90:=by
 intro x vs vs' w hat hat'
 obtain⟨_,_,hfit,s0,s1,rfl,hs0,hs1⟩:=cond_at.1 hat
 obtain⟨_,_,hfit',s0',s1',rfl,hs0',hs1'⟩:=cond_at.1 hat'
 have hb:Below w.heap.size w ((w.alloc (.cells #[.int .u8 x.kind,.int .i64 x.type,s0,.int .u8 x.test.kind,.int .u8 x.test.val.kind,.int .i64 x.test.val.num,.string x.test.val.text,.int .i64 x.test.var,.int .u8 x.test.op,s1] 60)).alloc (.cells #[.int .u8 x.kind,.int .i64 x.type,s0',.int .u8 x.test.kind,.int .u8 x.test.val.kind,.int .i64 x.test.val.num,.string x.test.val.text,.int .i64 x.test.var,.int .u8 x.test.op,s1'] 60)):=((Below.refl _ w).alloc (Nat.le_refl _) _).alloc (by simp) _
 have hk1:∀b,(b<w.heap.size)→b<((w.alloc (.cells #[.int .u8 x.kind,.int .i64 x.type,s0,.int .u8 x.test.kind,.int .u8 x.test.val.kind,.int .i64 x.test.val.num,.string x.test.val.text,.int .i64 x.test.var,.int .u8 x.test.op,s1] 60)).alloc (.cells #[.int .u8 x.kind,.int .i64 x.type,s0',.int .u8 x.test.kind,.int .u8 x.test.val.kind,.int .i64 x.test.val.num,.string x.test.val.text,.int .i64 x.test.var,.int .u8 x.test.op,s1'] 60)).heap.size:=fun b h=>Nat.lt_of_lt_of_le h hb.size
 have hkp:∀b,b<w.heap.size→∀o,w.heap[b]? = some o→((w.alloc (.cells #[.int .u8 x.kind,.int .i64 x.type,s0,.int .u8 x.test.kind,.int .u8 x.test.val.kind,.int .i64 x.test.val.num,.string x.test.val.text,.int .i64 x.test.var,.int .u8 x.test.op,s1] 60)).alloc (.cells #[.int .u8 x.kind,.int .i64 x.type,s0',.int .u8 x.test.kind,.int .u8 x.test.val.kind,.int .i64 x.test.val.num,.string x.test.val.text,.int .i64 x.test.var,.int .u8 x.test.op,s1'] 60)).heap[b]? = some o:=fun b h o ho=>(hb.block b h).trans ho
 have HC:=Hd (sameArgs_any x.args s0 s0' _ (Rd.row_sub hk1 (Rd.row_keep hkp hs0)) (Rd.row_sub hk1 (Rd.row_keep hkp hs0')))
 have HC2:=Hd (fun W (hW:Below _ ((w.alloc (.cells #[.int .u8 x.kind,.int .i64 x.type,s0,.int .u8 x.test.kind,.int .u8 x.test.val.kind,.int .i64 x.test.val.num,.string x.test.val.text,.int .i64 x.test.var,.int .u8 x.test.op,s1] 60)).alloc (.cells #[.int .u8 x.kind,.int .i64 x.type,s0',.int .u8 x.test.kind,.int .u8 x.test.val.kind,.int .i64 x.test.val.num,.string x.test.val.text,.int .i64 x.test.var,.int .u8 x.test.op,s1'] 60)) W)=>sameExpr_all d x.test _ _ W (expr_at.2 ⟨hfit,s1,rfl,ekids_sub (fun b h=>Nat.lt_of_lt_of_le (hk1 b h) hW.size) (ekids_keep (fun b h o ho=>(hW.block b (hk1 b h)).trans (hkp b h o ho)) hs1)⟩) (expr_at.2 ⟨hfit,s1',rfl,ekids_sub (fun b h=>Nat.lt_of_lt_of_le (hk1 b h) hW.size) (ekids_keep (fun b h o ho=>(hW.block b (hk1 b h)).trans (hkp b h o ho)) hs1')⟩))
 have HB:=Hd hb
 obtain⟨ps0,cs0,hhs0⟩:=Rd.row_shape hs0
 obtain⟨ps0',cs0',hhs0'⟩:=Rd.row_shape hs0'
 obtain⟨ns0,hns0⟩:∃m,x.args.length=m:=⟨_,rfl⟩
 rw[hns0] at hhs0
 subst hhs0
 rw[hns0] at hhs0'
 subst hhs0'
 obtain⟨ps1,cs1,hhs1⟩:=ekids_shape hs1
 obtain⟨ps1',cs1',hhs1'⟩:=ekids_shape hs1'
 obtain⟨ns1,hns1⟩:∃m,x.test.kids.length=m:=⟨_,rfl⟩
 rw[hns1] at hhs1
 subst hhs1
 rw[hns1] at hhs1'
 subst hhs1'
 clear hb hk1 hkp hat hat' hs0 hs0' hs1 hs1' hns0 hns1
 show Calls Tryz.prog 90 #[.agg #[.int .u8 x.kind,.int .i64 x.type,.slice ps0 ns0 cs0,.int .u8 x.test.kind,.int .u8 x.test.val.kind,.int .i64 x.test.val.num,.string x.test.val.text,.int .i64 x.test.var,.int .u8 x.test.op,.slice ps1 ns1 cs1],.agg #[.int .u8 x.kind,.int .i64 x.type,.slice ps0' ns0 cs0',.int .u8 x.test.kind,.int .u8 x.test.val.kind,.int .i64 x.test.val.num,.string x.test.val.text,.int .i64 x.test.var,.int .u8 x.test.op,.slice ps1' ns1 cs1']] w (TruePost w)
 go_enter Tryz.func90,Tryz.ntmps90
 go_wp2_with fail
 refine HC.out.mono ?_
 rintro e W ⟨rfl,hb2⟩
 have HB2:=Hd (HB.out.trans (hb2.mono HB.out.size))
 have HD:=Hd (HC2.out W hb2)
 have k0:W.cell? ⟨w.heap.size,0,none⟩=some (.int .u8 x.kind):=(hb2.cell (p:=⟨w.heap.size,0,none⟩) (by simp<;>omega)).trans (cell_of_row _ _ 0 _ _ _ (two_new' w (.cells #[.int .u8 x.kind,.int .i64 x.type,.slice ps0 ns0 cs0,.int .u8 x.test.kind,.int .u8 x.test.val.kind,.int .i64 x.test.val.num,.string x.test.val.text,.int .i64 x.test.var,.int .u8 x.test.op,.slice ps1 ns1 cs1] 60) (.cells #[.int .u8 x.kind,.int .i64 x.type,.slice ps0' ns0 cs0',.int .u8 x.test.kind,.int .u8 x.test.val.kind,.int .i64 x.test.val.num,.string x.test.val.text,.int .i64 x.test.var,.int .u8 x.test.op,.slice ps1' ns1 cs1'] 60)).1)
 have k1:W.cell? ⟨w.heap.size,1,none⟩=some (.int .i64 x.type):=(hb2.cell (p:=⟨w.heap.size,1,none⟩) (by simp<;>omega)).trans (cell_of_row _ _ 1 _ _ _ (two_new' w (.cells #[.int .u8 x.kind,.int .i64 x.type,.slice ps0 ns0 cs0,.int .u8 x.test.kind,.int .u8 x.test.val.kind,.int .i64 x.test.val.num,.string x.test.val.text,.int .i64 x.test.var,.int .u8 x.test.op,.slice ps1 ns1 cs1] 60) (.cells #[.int .u8 x.kind,.int .i64 x.type,.slice ps0' ns0 cs0',.int .u8 x.test.kind,.int .u8 x.test.val.kind,.int .i64 x.test.val.num,.string x.test.val.text,.int .i64 x.test.var,.int .u8 x.test.op,.slice ps1' ns1 cs1'] 60)).1)
 have k2:W.cell? ⟨w.heap.size,2,none⟩=some (.slice ps0 ns0 cs0):=(hb2.cell (p:=⟨w.heap.size,2,none⟩) (by simp<;>omega)).trans (cell_of_row _ _ 2 _ _ _ (two_new' w (.cells #[.int .u8 x.kind,.int .i64 x.type,.slice ps0 ns0 cs0,.int .u8 x.test.kind,.int .u8 x.test.val.kind,.int .i64 x.test.val.num,.string x.test.val.text,.int .i64 x.test.var,.int .u8 x.test.op,.slice ps1 ns1 cs1] 60) (.cells #[.int .u8 x.kind,.int .i64 x.type,.slice ps0' ns0 cs0',.int .u8 x.test.kind,.int .u8 x.test.val.kind,.int .i64 x.test.val.num,.string x.test.val.text,.int .i64 x.test.var,.int .u8 x.test.op,.slice ps1' ns1 cs1'] 60)).1)
 have k3:W.cell? ⟨w.heap.size,3,none⟩=some (.int .u8 x.test.kind):=(hb2.cell (p:=⟨w.heap.size,3,none⟩) (by simp<;>omega)).trans (cell_of_row _ _ 3 _ _ _ (two_new' w (.cells #[.int .u8 x.kind,.int .i64 x.type,.slice ps0 ns0 cs0,.int .u8 x.test.kind,.int .u8 x.test.val.kind,.int .i64 x.test.val.num,.string x.test.val.text,.int .i64 x.test.var,.int .u8 x.test.op,.slice ps1 ns1 cs1] 60) (.cells #[.int .u8 x.kind,.int .i64 x.type,.slice ps0' ns0 cs0',.int .u8 x.test.kind,.int .u8 x.test.val.kind,.int .i64 x.test.val.num,.string x.test.val.text,.int .i64 x.test.var,.int .u8 x.test.op,.slice ps1' ns1 cs1'] 60)).1)
 have k4:W.cell? ⟨w.heap.size,4,none⟩=some (.int .u8 x.test.val.kind):=(hb2.cell (p:=⟨w.heap.size,4,none⟩) (by simp<;>omega)).trans (cell_of_row _ _ 4 _ _ _ (two_new' w (.cells #[.int .u8 x.kind,.int .i64 x.type,.slice ps0 ns0 cs0,.int .u8 x.test.kind,.int .u8 x.test.val.kind,.int .i64 x.test.val.num,.string x.test.val.text,.int .i64 x.test.var,.int .u8 x.test.op,.slice ps1 ns1 cs1] 60) (.cells #[.int .u8 x.kind,.int .i64 x.type,.slice ps0' ns0 cs0',.int .u8 x.test.kind,.int .u8 x.test.val.kind,.int .i64 x.test.val.num,.string x.test.val.text,.int .i64 x.test.var,.int .u8 x.test.op,.slice ps1' ns1 cs1'] 60)).1)
 have k5:W.cell? ⟨w.heap.size,5,none⟩=some (.int .i64 x.test.val.num):=(hb2.cell (p:=⟨w.heap.size,5,none⟩) (by simp<;>omega)).trans (cell_of_row _ _ 5 _ _ _ (two_new' w (.cells #[.int .u8 x.kind,.int .i64 x.type,.slice ps0 ns0 cs0,.int .u8 x.test.kind,.int .u8 x.test.val.kind,.int .i64 x.test.val.num,.string x.test.val.text,.int .i64 x.test.var,.int .u8 x.test.op,.slice ps1 ns1 cs1] 60) (.cells #[.int .u8 x.kind,.int .i64 x.type,.slice ps0' ns0 cs0',.int .u8 x.test.kind,.int .u8 x.test.val.kind,.int .i64 x.test.val.num,.string x.test.val.text,.int .i64 x.test.var,.int .u8 x.test.op,.slice ps1' ns1 cs1'] 60)).1)
 have k6:W.cell? ⟨w.heap.size,6,none⟩=some (.string x.test.val.text):=(hb2.cell (p:=⟨w.heap.size,6,none⟩) (by simp<;>omega)).trans (cell_of_row _ _ 6 _ _ _ (two_new' w (.cells #[.int .u8 x.kind,.int .i64 x.type,.slice ps0 ns0 cs0,.int .u8 x.test.kind,.int .u8 x.test.val.kind,.int .i64 x.test.val.num,.string x.test.val.text,.int .i64 x.test.var,.int .u8 x.test.op,.slice ps1 ns1 cs1] 60) (.cells #[.int .u8 x.kind,.int .i64 x.type,.slice ps0' ns0 cs0',.int .u8 x.test.kind,.int .u8 x.test.val.kind,.int .i64 x.test.val.num,.string x.test.val.text,.int .i64 x.test.var,.int .u8 x.test.op,.slice ps1' ns1 cs1'] 60)).1)
 have k7:W.cell? ⟨w.heap.size,7,none⟩=some (.int .i64 x.test.var):=(hb2.cell (p:=⟨w.heap.size,7,none⟩) (by simp<;>omega)).trans (cell_of_row _ _ 7 _ _ _ (two_new' w (.cells #[.int .u8 x.kind,.int .i64 x.type,.slice ps0 ns0 cs0,.int .u8 x.test.kind,.int .u8 x.test.val.kind,.int .i64 x.test.val.num,.string x.test.val.text,.int .i64 x.test.var,.int .u8 x.test.op,.slice ps1 ns1 cs1] 60) (.cells #[.int .u8 x.kind,.int .i64 x.type,.slice ps0' ns0 cs0',.int .u8 x.test.kind,.int .u8 x.test.val.kind,.int .i64 x.test.val.num,.string x.test.val.text,.int .i64 x.test.var,.int .u8 x.test.op,.slice ps1' ns1 cs1'] 60)).1)
 have k8:W.cell? ⟨w.heap.size,8,none⟩=some (.int .u8 x.test.op):=(hb2.cell (p:=⟨w.heap.size,8,none⟩) (by simp<;>omega)).trans (cell_of_row _ _ 8 _ _ _ (two_new' w (.cells #[.int .u8 x.kind,.int .i64 x.type,.slice ps0 ns0 cs0,.int .u8 x.test.kind,.int .u8 x.test.val.kind,.int .i64 x.test.val.num,.string x.test.val.text,.int .i64 x.test.var,.int .u8 x.test.op,.slice ps1 ns1 cs1] 60) (.cells #[.int .u8 x.kind,.int .i64 x.type,.slice ps0' ns0 cs0',.int .u8 x.test.kind,.int .u8 x.test.val.kind,.int .i64 x.test.val.num,.string x.test.val.text,.int .i64 x.test.var,.int .u8 x.test.op,.slice ps1' ns1 cs1'] 60)).1)
 have k9:W.cell? ⟨w.heap.size,9,none⟩=some (.slice ps1 ns1 cs1):=(hb2.cell (p:=⟨w.heap.size,9,none⟩) (by simp<;>omega)).trans (cell_of_row _ _ 9 _ _ _ (two_new' w (.cells #[.int .u8 x.kind,.int .i64 x.type,.slice ps0 ns0 cs0,.int .u8 x.test.kind,.int .u8 x.test.val.kind,.int .i64 x.test.val.num,.string x.test.val.text,.int .i64 x.test.var,.int .u8 x.test.op,.slice ps1 ns1 cs1] 60) (.cells #[.int .u8 x.kind,.int .i64 x.type,.slice ps0' ns0 cs0',.int .u8 x.test.kind,.int .u8 x.test.val.kind,.int .i64 x.test.val.num,.string x.test.val.text,.int .i64 x.test.var,.int .u8 x.test.op,.slice ps1' ns1 cs1'] 60)).1)
 have k0':W.cell? ⟨w.heap.size+1,0,none⟩=some (.int .u8 x.kind):=(hb2.cell (p:=⟨w.heap.size+1,0,none⟩) (by simp<;>omega)).trans (cell_of_row _ _ 0 _ _ _ (two_new' w (.cells #[.int .u8 x.kind,.int .i64 x.type,.slice ps0 ns0 cs0,.int .u8 x.test.kind,.int .u8 x.test.val.kind,.int .i64 x.test.val.num,.string x.test.val.text,.int .i64 x.test.var,.int .u8 x.test.op,.slice ps1 ns1 cs1] 60) (.cells #[.int .u8 x.kind,.int .i64 x.type,.slice ps0' ns0 cs0',.int .u8 x.test.kind,.int .u8 x.test.val.kind,.int .i64 x.test.val.num,.string x.test.val.text,.int .i64 x.test.var,.int .u8 x.test.op,.slice ps1' ns1 cs1'] 60)).2.1)
 have k1':W.cell? ⟨w.heap.size+1,1,none⟩=some (.int .i64 x.type):=(hb2.cell (p:=⟨w.heap.size+1,1,none⟩) (by simp<;>omega)).trans (cell_of_row _ _ 1 _ _ _ (two_new' w (.cells #[.int .u8 x.kind,.int .i64 x.type,.slice ps0 ns0 cs0,.int .u8 x.test.kind,.int .u8 x.test.val.kind,.int .i64 x.test.val.num,.string x.test.val.text,.int .i64 x.test.var,.int .u8 x.test.op,.slice ps1 ns1 cs1] 60) (.cells #[.int .u8 x.kind,.int .i64 x.type,.slice ps0' ns0 cs0',.int .u8 x.test.kind,.int .u8 x.test.val.kind,.int .i64 x.test.val.num,.string x.test.val.text,.int .i64 x.test.var,.int .u8 x.test.op,.slice ps1' ns1 cs1'] 60)).2.1)
 have k2':W.cell? ⟨w.heap.size+1,2,none⟩=some (.slice ps0' ns0 cs0'):=(hb2.cell (p:=⟨w.heap.size+1,2,none⟩) (by simp<;>omega)).trans (cell_of_row _ _ 2 _ _ _ (two_new' w (.cells #[.int .u8 x.kind,.int .i64 x.type,.slice ps0 ns0 cs0,.int .u8 x.test.kind,.int .u8 x.test.val.kind,.int .i64 x.test.val.num,.string x.test.val.text,.int .i64 x.test.var,.int .u8 x.test.op,.slice ps1 ns1 cs1] 60) (.cells #[.int .u8 x.kind,.int .i64 x.type,.slice ps0' ns0 cs0',.int .u8 x.test.kind,.int .u8 x.test.val.kind,.int .i64 x.test.val.num,.string x.test.val.text,.int .i64 x.test.var,.int .u8 x.test.op,.slice ps1' ns1 cs1'] 60)).2.1)
 have k3':W.cell? ⟨w.heap.size+1,3,none⟩=some (.int .u8 x.test.kind):=(hb2.cell (p:=⟨w.heap.size+1,3,none⟩) (by simp<;>omega)).trans (cell_of_row _ _ 3 _ _ _ (two_new' w (.cells #[.int .u8 x.kind,.int .i64 x.type,.slice ps0 ns0 cs0,.int .u8 x.test.kind,.int .u8 x.test.val.kind,.int .i64 x.test.val.num,.string x.test.val.text,.int .i64 x.test.var,.int .u8 x.test.op,.slice ps1 ns1 cs1] 60) (.cells #[.int .u8 x.kind,.int .i64 x.type,.slice ps0' ns0 cs0',.int .u8 x.test.kind,.int .u8 x.test.val.kind,.int .i64 x.test.val.num,.string x.test.val.text,.int .i64 x.test.var,.int .u8 x.test.op,.slice ps1' ns1 cs1'] 60)).2.1)
 have k4':W.cell? ⟨w.heap.size+1,4,none⟩=some (.int .u8 x.test.val.kind):=(hb2.cell (p:=⟨w.heap.size+1,4,none⟩) (by simp<;>omega)).trans (cell_of_row _ _ 4 _ _ _ (two_new' w (.cells #[.int .u8 x.kind,.int .i64 x.type,.slice ps0 ns0 cs0,.int .u8 x.test.kind,.int .u8 x.test.val.kind,.int .i64 x.test.val.num,.string x.test.val.text,.int .i64 x.test.var,.int .u8 x.test.op,.slice ps1 ns1 cs1] 60) (.cells #[.int .u8 x.kind,.int .i64 x.type,.slice ps0' ns0 cs0',.int .u8 x.test.kind,.int .u8 x.test.val.kind,.int .i64 x.test.val.num,.string x.test.val.text,.int .i64 x.test.var,.int .u8 x.test.op,.slice ps1' ns1 cs1'] 60)).2.1)
 have k5':W.cell? ⟨w.heap.size+1,5,none⟩=some (.int .i64 x.test.val.num):=(hb2.cell (p:=⟨w.heap.size+1,5,none⟩) (by simp<;>omega)).trans (cell_of_row _ _ 5 _ _ _ (two_new' w (.cells #[.int .u8 x.kind,.int .i64 x.type,.slice ps0 ns0 cs0,.int .u8 x.test.kind,.int .u8 x.test.val.kind,.int .i64 x.test.val.num,.string x.test.val.text,.int .i64 x.test.var,.int .u8 x.test.op,.slice ps1 ns1 cs1] 60) (.cells #[.int .u8 x.kind,.int .i64 x.type,.slice ps0' ns0 cs0',.int .u8 x.test.kind,.int .u8 x.test.val.kind,.int .i64 x.test.val.num,.string x.test.val.text,.int .i64 x.test.var,.int .u8 x.test.op,.slice ps1' ns1 cs1'] 60)).2.1)
 have k6':W.cell? ⟨w.heap.size+1,6,none⟩=some (.string x.test.val.text):=(hb2.cell (p:=⟨w.heap.size+1,6,none⟩) (by simp<;>omega)).trans (cell_of_row _ _ 6 _ _ _ (two_new' w (.cells #[.int .u8 x.kind,.int .i64 x.type,.slice ps0 ns0 cs0,.int .u8 x.test.kind,.int .u8 x.test.val.kind,.int .i64 x.test.val.num,.string x.test.val.text,.int .i64 x.test.var,.int .u8 x.test.op,.slice ps1 ns1 cs1] 60) (.cells #[.int .u8 x.kind,.int .i64 x.type,.slice ps0' ns0 cs0',.int .u8 x.test.kind,.int .u8 x.test.val.kind,.int .i64 x.test.val.num,.string x.test.val.text,.int .i64 x.test.var,.int .u8 x.test.op,.slice ps1' ns1 cs1'] 60)).2.1)
 have k7':W.cell? ⟨w.heap.size+1,7,none⟩=some (.int .i64 x.test.var):=(hb2.cell (p:=⟨w.heap.size+1,7,none⟩) (by simp<;>omega)).trans (cell_of_row _ _ 7 _ _ _ (two_new' w (.cells #[.int .u8 x.kind,.int .i64 x.type,.slice ps0 ns0 cs0,.int .u8 x.test.kind,.int .u8 x.test.val.kind,.int .i64 x.test.val.num,.string x.test.val.text,.int .i64 x.test.var,.int .u8 x.test.op,.slice ps1 ns1 cs1] 60) (.cells #[.int .u8 x.kind,.int .i64 x.type,.slice ps0' ns0 cs0',.int .u8 x.test.kind,.int .u8 x.test.val.kind,.int .i64 x.test.val.num,.string x.test.val.text,.int .i64 x.test.var,.int .u8 x.test.op,.slice ps1' ns1 cs1'] 60)).2.1)
 have k8':W.cell? ⟨w.heap.size+1,8,none⟩=some (.int .u8 x.test.op):=(hb2.cell (p:=⟨w.heap.size+1,8,none⟩) (by simp<;>omega)).trans (cell_of_row _ _ 8 _ _ _ (two_new' w (.cells #[.int .u8 x.kind,.int .i64 x.type,.slice ps0 ns0 cs0,.int .u8 x.test.kind,.int .u8 x.test.val.kind,.int .i64 x.test.val.num,.string x.test.val.text,.int .i64 x.test.var,.int .u8 x.test.op,.slice ps1 ns1 cs1] 60) (.cells #[.int .u8 x.kind,.int .i64 x.type,.slice ps0' ns0 cs0',.int .u8 x.test.kind,.int .u8 x.test.val.kind,.int .i64 x.test.val.num,.string x.test.val.text,.int .i64 x.test.var,.int .u8 x.test.op,.slice ps1' ns1 cs1'] 60)).2.1)
 have k9':W.cell? ⟨w.heap.size+1,9,none⟩=some (.slice ps1' ns1 cs1'):=(hb2.cell (p:=⟨w.heap.size+1,9,none⟩) (by simp<;>omega)).trans (cell_of_row _ _ 9 _ _ _ (two_new' w (.cells #[.int .u8 x.kind,.int .i64 x.type,.slice ps0 ns0 cs0,.int .u8 x.test.kind,.int .u8 x.test.val.kind,.int .i64 x.test.val.num,.string x.test.val.text,.int .i64 x.test.var,.int .u8 x.test.op,.slice ps1 ns1 cs1] 60) (.cells #[.int .u8 x.kind,.int .i64 x.type,.slice ps0' ns0 cs0',.int .u8 x.test.kind,.int .u8 x.test.val.kind,.int .i64 x.test.val.num,.string x.test.val.text,.int .i64 x.test.var,.int .u8 x.test.op,.slice ps1' ns1 cs1'] 60)).2.1)
 clear hb2 HC HC2
 go_wp2_with fail
 refine HD.out.mono ?_
 rintro e W2 ⟨rfl,hb3⟩
 have HB3:=Hd (HB2.out.trans (hb3.mono HB2.out.size))
 clear hb3 HD
 go_wp2_with fail
 go_ret
 exact⟨rfl,HB3.out⟩
theorem sameAct_of (d:Nat):SameOf (actRd d) 91:=by
 intro x vs vs' w hat hat'
 obtain⟨_,_,_,s0,rfl,hs0⟩:=act_at.1 hat
 obtain⟨_,_,_,s0',rfl,hs0'⟩:=act_at.1 hat'
 have hb:Below w.heap.size w ((w.alloc (.cells #[.int .u8 x.kind,.int .i64 x.type,.int .i64 x.which,s0] 66)).alloc (.cells #[.int .u8 x.kind,.int .i64 x.type,.int .i64 x.which,s0'] 66)):=((Below.refl _ w).alloc (Nat.le_refl _) _).alloc (by simp) _
 have hk1:∀b,(b<w.heap.size)→b<((w.alloc (.cells #[.int .u8 x.kind,.int .i64 x.type,.int .i64 x.which,s0] 66)).alloc (.cells #[.int .u8 x.kind,.int .i64 x.type,.int .i64 x.which,s0'] 66)).heap.size:=fun b h=>Nat.lt_of_lt_of_le h hb.size
 have hkp:∀b,b<w.heap.size→∀o,w.heap[b]? = some o→((w.alloc (.cells #[.int .u8 x.kind,.int .i64 x.type,.int .i64 x.which,s0] 66)).alloc (.cells #[.int .u8 x.kind,.int .i64 x.type,.int .i64 x.which,s0'] 66)).heap[b]? = some o:=fun b h o ho=>(hb.block b h).trans ho
 have HC:=Hd (sameExprs_all d x.exprs s0 s0' _ (Rd.row_sub hk1 (Rd.row_keep hkp hs0)) (Rd.row_sub hk1 (Rd.row_keep hkp hs0')))
 have HB:=Hd hb
 obtain⟨ps0,cs0,hhs0⟩:=Rd.row_shape hs0
 obtain⟨ps0',cs0',hhs0'⟩:=Rd.row_shape hs0'
 obtain⟨ns0,hns0⟩:∃m,x.exprs.length=m:=⟨_,rfl⟩
 rw[hns0] at hhs0
 subst hhs0
 rw[hns0] at hhs0'
 subst hhs0'
 clear hb hk1 hkp hat hat' hs0 hs0' hns0
 show Calls Tryz.prog 91 #[.agg #[.int .u8 x.kind,.int .i64 x.type,.int .i64 x.which,.slice ps0 ns0 cs0],.agg #[.int .u8 x.kind,.int .i64 x.type,.int .i64 x.which,.slice ps0' ns0 cs0']] w (TruePost w)
 go_enter Tryz.func91,Tryz.ntmps91
 go_wp2_with fail
 refine HC.out.mono ?_
 rintro e W ⟨rfl,hb2⟩
 have HB2:=Hd (HB.out.trans (hb2.mono HB.out.size))
 clear hb2 HC
 go_wp2_with fail
 go_ret
 exact⟨rfl,HB2.out⟩
theorem sameConds_any (d:Nat)(l:List CCond)(u v:Value)(w:World)(hu:(condRd d).row w (fun b=>b<w.heap.size) l u)(hv:(condRd d).row w (fun b=>b<w.heap.size) l v):Calls Tryz.prog 63 #[u,v] w (TruePost w):=by
 obtain⟨p,c,hpu⟩:=Rd.row_shape hu
 obtain⟨q,c',hpv⟩:=Rd.row_shape hv
 have hmx:=Rd.row_len hu
 subst hpu;subst hpv
 obtain⟨n,hn⟩:∃n,l.length=n:=⟨_,rfl⟩
 have HU:=Hd (fun W (hW:Below w.heap.size w W)=>Rd.row_below hu (fun _ h=>h) hW)
 have HV:=Hd (fun W (hW:Below w.heap.size w W)=>Rd.row_below hv (fun _ h=>h) hW)
 have HF:=Hd (sameCond_of d)
 rw[hn] at HU HV hmx ⊢
 have HN:=Hd hn
 have hn3:(n:Int)≤9223372036854775807:=by unfold maxLen at hmx;omega
 clear hu hv hn hmx
 go_enter Tryz.func63,Tryz.ntmps63
 go_wp2
 go_loopw [5] (UpRel w n) (fun i _=>n-(intOf i).toNat)
 case atStart=>exact⟨_,0,rfl,Nat.zero_le _,rfl,Below.refl _ _⟩
 case round =>
  obtain⟨W1,k,rfl,hk,rfl,hb⟩:=hrel
  by_cases hlt:k<n
  ·obtain⟨x,hx⟩:∃x,l[k]? = some x:=⟨_,List.getElem?_eq_getElem (by rw[HN.out];exact hlt)⟩
   have hvs:=Rd.row_at (HU.out W1 hb) hx
   rw[HN.out] at hvs
   obtain⟨b,off,cap,vs,hev,_,_,_,_,hat,hcell⟩:=hvs
   injection hev with e1 _ e3
   subst e1;subst e3
   have hcell:∀m z,vs[m]? = some z→W1.cell? ⟨b,off+k*10+m,none⟩=some z:=by simpa only [condRd_n] using hcell
   have hvs':=Rd.row_at (HV.out W1 hb) hx
   rw[HN.out] at hvs'
   obtain⟨b',off',cap',vs',hev',_,_,_,_,hat',hcell'⟩:=hvs'
   injection hev' with e1' _ e3'
   subst e1';subst e3'
   have hcell':∀m z,vs'[m]? = some z→W1.cell? ⟨b',off'+k*10+m,none⟩=some z:=by simpa only [condRd_n] using hcell'
   have hat0:=hat
   have hat0':=hat'
   obtain⟨_,_,_,s0,s1,rfl,hs0,hs1⟩:=cond_at.1 hat
   obtain⟨ps0,cs0,hhs0⟩:=Rd.row_shape hs0
   obtain⟨ps1,cs1,hhs1⟩:=ekids_shape hs1
   obtain⟨_,_,_,s0',s1',rfl,hs0',hs1'⟩:=cond_at.1 hat'
   obtain⟨ps0',cs0',hhs0'⟩:=Rd.row_shape hs0'
   obtain⟨ps1',cs1',hhs1'⟩:=ekids_shape hs1'
   obtain⟨ns0,hns0⟩:∃m,x.args.length=m:=⟨_,rfl⟩
   rw[hns0] at hhs0
   subst hhs0
   rw[hns0] at hhs0'
   subst hhs0'
   obtain⟨ns1,hns1⟩:∃m,x.test.kids.length=m:=⟨_,rfl⟩
   rw[hns1] at hhs1
   subst hhs1
   rw[hns1] at hhs1'
   subst hhs1'
   have d0:W1.cell? ⟨b,off+k*10,none⟩=some (.int .u8 x.kind):=hcell 0 _ rfl
   have d1:W1.cell? ⟨b,off+k*10+1,none⟩=some (.int .i64 x.type):=hcell 1 _ rfl
   have d2:W1.cell? ⟨b,off+k*10+2,none⟩=some (.slice ps0 ns0 cs0):=hcell 2 _ rfl
   have d3:W1.cell? ⟨b,off+k*10+3,none⟩=some (.int .u8 x.test.kind):=hcell 3 _ rfl
   have d4:W1.cell? ⟨b,off+k*10+4,none⟩=some (.int .u8 x.test.val.kind):=hcell 4 _ rfl
   have d5:W1.cell? ⟨b,off+k*10+5,none⟩=some (.int .i64 x.test.val.num):=hcell 5 _ rfl
   have d6:W1.cell? ⟨b,off+k*10+6,none⟩=some (.string x.test.val.text):=hcell 6 _ rfl
   have d7:W1.cell? ⟨b,off+k*10+7,none⟩=some (.int .i64 x.test.var):=hcell 7 _ rfl
   have d8:W1.cell? ⟨b,off+k*10+8,none⟩=some (.int .u8 x.test.op):=hcell 8 _ rfl
   have d9:W1.cell? ⟨b,off+k*10+9,none⟩=some (.slice ps1 ns1 cs1):=hcell 9 _ rfl
   have e0:W1.cell? ⟨b',off'+k*10,none⟩=some (.int .u8 x.kind):=hcell' 0 _ rfl
   have e1:W1.cell? ⟨b',off'+k*10+1,none⟩=some (.int .i64 x.type):=hcell' 1 _ rfl
   have e2:W1.cell? ⟨b',off'+k*10+2,none⟩=some (.slice ps0' ns0 cs0'):=hcell' 2 _ rfl
   have e3:W1.cell? ⟨b',off'+k*10+3,none⟩=some (.int .u8 x.test.kind):=hcell' 3 _ rfl
   have e4:W1.cell? ⟨b',off'+k*10+4,none⟩=some (.int .u8 x.test.val.kind):=hcell' 4 _ rfl
   have e5:W1.cell? ⟨b',off'+k*10+5,none⟩=some (.int .i64 x.test.val.num):=hcell' 5 _ rfl
   have e6:W1.cell? ⟨b',off'+k*10+6,none⟩=some (.string x.test.val.text):=hcell' 6 _ rfl
   have e7:W1.cell? ⟨b',off'+k*10+7,none⟩=some (.int .i64 x.test.var):=hcell' 7 _ rfl
   have e8:W1.cell? ⟨b',off'+k*10+8,none⟩=some (.int .u8 x.test.op):=hcell' 8 _ rfl
   have e9:W1.cell? ⟨b',off'+k*10+9,none⟩=some (.slice ps1' ns1 cs1'):=hcell' 9 _ rfl
   have hdr:Below W1.heap.size W1 W1.drew:=(Below.refl _ W1).drew
   have hk1:∀b,(b<w.heap.size)→b<W1.drew.heap.size:=fun b h=>Nat.lt_of_lt_of_le h (Nat.le_trans hb.size hdr.size)
   have hkp:∀b,b<w.heap.size→∀o,W1.heap[b]? = some o→W1.drew.heap[b]? = some o:=fun b h o ho=>(hdr.block b (Nat.lt_of_lt_of_le h hb.size)).trans ho
   have HCall:Hid (Calls Tryz.prog 90 #[.agg #[.int .u8 x.kind,.int .i64 x.type,.slice ps0 ns0 cs0,.int .u8 x.test.kind,.int .u8 x.test.val.kind,.int .i64 x.test.val.num,.string x.test.val.text,.int .i64 x.test.var,.int .u8 x.test.op,.slice ps1 ns1 cs1],.agg #[.int .u8 x.kind,.int .i64 x.type,.slice ps0' ns0 cs0',.int .u8 x.test.kind,.int .u8 x.test.val.kind,.int .i64 x.test.val.num,.string x.test.val.text,.int .i64 x.test.var,.int .u8 x.test.op,.slice ps1' ns1 cs1']] W1.drew (TruePost W1.drew)):=HF.out x _ _ W1.drew ((condRd d).sub hk1 ((condRd d).keep hkp hat0)) ((condRd d).sub hk1 ((condRd d).keep hkp hat0'))
   have HBb:=Hd (hb.trans (hdr.mono hb.size))
   have hk0:(0:Int)≤k:=by omega
   have hk2:(k:Int)<n:=by omega
   clear hat hat' hcell hcell' hx hdr hb hs0 hs0' hs1 hs1' hns0 hns1 hat0 hat0' hk1 hkp
   go_wp2
   go_still_tail 8,(by kernel_rfl)
   change wpList _ _ _ _ _ W1.drew
   generalize W1.drew=W2 at *
   clear d0 d1 d2 d3 d4 d5 d6 d7 d8 d9 e0 e1 e2 e3 e4 e5 e6 e7 e8 e9
   go_wp2_with fail
   refine HCall.out.mono ?_
   rintro e W3 ⟨rfl,hb2⟩
   go_wp2_with fail
   exact⟨⟨_,k+1,rfl,by omega,by go_num,HBb.out.trans (hb2.mono HBb.out.size)⟩,by simp[intOf];omega⟩
  ·obtain rfl:k=n:=by omega
   have HBb:=Hd hb
   clear hb
   go_wp2
   go_ret
   exact⟨rfl,HBb.out⟩
theorem sameActs_any (d:Nat)(l:List CAct)(u v:Value)(w:World)(hu:(actRd d).row w (fun b=>b<w.heap.size) l u)(hv:(actRd d).row w (fun b=>b<w.heap.size) l v):Calls Tryz.prog 64 #[u,v] w (TruePost w):=by
 obtain⟨p,c,hpu⟩:=Rd.row_shape hu
 obtain⟨q,c',hpv⟩:=Rd.row_shape hv
 have hmx:=Rd.row_len hu
 subst hpu;subst hpv
 obtain⟨n,hn⟩:∃n,l.length=n:=⟨_,rfl⟩
 have HU:=Hd (fun W (hW:Below w.heap.size w W)=>Rd.row_below hu (fun _ h=>h) hW)
 have HV:=Hd (fun W (hW:Below w.heap.size w W)=>Rd.row_below hv (fun _ h=>h) hW)
 have HF:=Hd (sameAct_of d)
 rw[hn] at HU HV hmx ⊢
 have HN:=Hd hn
 have hn3:(n:Int)≤9223372036854775807:=by unfold maxLen at hmx;omega
 clear hu hv hn hmx
 go_enter Tryz.func64,Tryz.ntmps64
 go_wp2
 go_loopw [5] (UpRel w n) (fun i _=>n-(intOf i).toNat)
 case atStart=>exact⟨_,0,rfl,Nat.zero_le _,rfl,Below.refl _ _⟩
 case round =>
  obtain⟨W1,k,rfl,hk,rfl,hb⟩:=hrel
  by_cases hlt:k<n
  ·obtain⟨x,hx⟩:∃x,l[k]? = some x:=⟨_,List.getElem?_eq_getElem (by rw[HN.out];exact hlt)⟩
   have hvs:=Rd.row_at (HU.out W1 hb) hx
   rw[HN.out] at hvs
   obtain⟨b,off,cap,vs,hev,_,_,_,_,hat,hcell⟩:=hvs
   injection hev with e1 _ e3
   subst e1;subst e3
   have hcell:∀m z,vs[m]? = some z→W1.cell? ⟨b,off+k*4+m,none⟩=some z:=hcell
   have hvs':=Rd.row_at (HV.out W1 hb) hx
   rw[HN.out] at hvs'
   obtain⟨b',off',cap',vs',hev',_,_,_,_,hat',hcell'⟩:=hvs'
   injection hev' with e1' _ e3'
   subst e1';subst e3'
   have hcell':∀m z,vs'[m]? = some z→W1.cell? ⟨b',off'+k*4+m,none⟩=some z:=hcell'
   have hat0:=hat
   have hat0':=hat'
   obtain⟨_,_,_,s0,rfl,hs0⟩:=act_at.1 hat
   obtain⟨ps0,cs0,hhs0⟩:=Rd.row_shape hs0
   obtain⟨_,_,_,s0',rfl,hs0'⟩:=act_at.1 hat'
   obtain⟨ps0',cs0',hhs0'⟩:=Rd.row_shape hs0'
   obtain⟨ns0,hns0⟩:∃m,x.exprs.length=m:=⟨_,rfl⟩
   rw[hns0] at hhs0
   subst hhs0
   rw[hns0] at hhs0'
   subst hhs0'
   have d0:W1.cell? ⟨b,off+k*4,none⟩=some (.int .u8 x.kind):=hcell 0 _ rfl
   have d1:W1.cell? ⟨b,off+k*4+1,none⟩=some (.int .i64 x.type):=hcell 1 _ rfl
   have d2:W1.cell? ⟨b,off+k*4+2,none⟩=some (.int .i64 x.which):=hcell 2 _ rfl
   have d3:W1.cell? ⟨b,off+k*4+3,none⟩=some (.slice ps0 ns0 cs0):=hcell 3 _ rfl
   have e0:W1.cell? ⟨b',off'+k*4,none⟩=some (.int .u8 x.kind):=hcell' 0 _ rfl
   have e1:W1.cell? ⟨b',off'+k*4+1,none⟩=some (.int .i64 x.type):=hcell' 1 _ rfl
   have e2:W1.cell? ⟨b',off'+k*4+2,none⟩=some (.int .i64 x.which):=hcell' 2 _ rfl
   have e3:W1.cell? ⟨b',off'+k*4+3,none⟩=some (.slice ps0' ns0 cs0'):=hcell' 3 _ rfl
   have hdr:Below W1.heap.size W1 W1.drew:=(Below.refl _ W1).drew
   have hk1:∀b,(b<w.heap.size)→b<W1.drew.heap.size:=fun b h=>Nat.lt_of_lt_of_le h (Nat.le_trans hb.size hdr.size)
   have hkp:∀b,b<w.heap.size→∀o,W1.heap[b]? = some o→W1.drew.heap[b]? = some o:=fun b h o ho=>(hdr.block b (Nat.lt_of_lt_of_le h hb.size)).trans ho
   have HCall:Hid (Calls Tryz.prog 91 #[.agg #[.int .u8 x.kind,.int .i64 x.type,.int .i64 x.which,.slice ps0 ns0 cs0],.agg #[.int .u8 x.kind,.int .i64 x.type,.int .i64 x.which,.slice ps0' ns0 cs0']] W1.drew (TruePost W1.drew)):=HF.out x _ _ W1.drew ((actRd d).sub hk1 ((actRd d).keep hkp hat0)) ((actRd d).sub hk1 ((actRd d).keep hkp hat0'))
   have HBb:=Hd (hb.trans (hdr.mono hb.size))
   have hk0:(0:Int)≤k:=by omega
   have hk2:(k:Int)<n:=by omega
   clear hat hat' hcell hcell' hx hdr hb hs0 hs0' hns0 hat0 hat0' hk1 hkp
   go_wp2
   go_still_tail 8,(by kernel_rfl)
   change wpList _ _ _ _ _ W1.drew
   generalize W1.drew=W2 at *
   clear d0 d1 d2 d3 e0 e1 e2 e3
   go_wp2_with fail
   refine HCall.out.mono ?_
   rintro e W3 ⟨rfl,hb2⟩
   go_wp2_with fail
   exact⟨⟨_,k+1,rfl,by omega,by go_num,HBb.out.trans (hb2.mono HBb.out.size)⟩,by simp[intOf];omega⟩
  ·obtain rfl:k=n:=by omega
   have HBb:=Hd hb
   clear hb
   go_wp2
   go_ret
   exact⟨rfl,HBb.out⟩
theorem sameRule_of (d:Nat):SameOf (ruleRd d) 33:=by
 intro x vs vs' w hat hat'
 obtain⟨_,_,_,s0,s1,rfl,hs0,hs1⟩:=rule_at.1 hat
 obtain⟨_,_,_,s0',s1',rfl,hs0',hs1'⟩:=rule_at.1 hat'
 have hb:Below w.heap.size w ((w.alloc (.cells #[.string x.name,.int .i64 x.sal,.int .i64 x.vars,s0,s1] 46)).alloc (.cells #[.string x.name,.int .i64 x.sal,.int .i64 x.vars,s0',s1'] 46)):=((Below.refl _ w).alloc (Nat.le_refl _) _).alloc (by simp) _
 have hk1:∀b,(b<w.heap.size)→b<((w.alloc (.cells #[.string x.name,.int .i64 x.sal,.int .i64 x.vars,s0,s1] 46)).alloc (.cells #[.string x.name,.int .i64 x.sal,.int .i64 x.vars,s0',s1'] 46)).heap.size:=fun b h=>Nat.lt_of_lt_of_le h hb.size
 have hkp:∀b,b<w.heap.size→∀o,w.heap[b]? = some o→((w.alloc (.cells #[.string x.name,.int .i64 x.sal,.int .i64 x.vars,s0,s1] 46)).alloc (.cells #[.string x.name,.int .i64 x.sal,.int .i64 x.vars,s0',s1'] 46)).heap[b]? = some o:=fun b h o ho=>(hb.block b h).trans ho
 have HC:=Hd (sameConds_any d x.conds s0 s0' _ (Rd.row_sub hk1 (Rd.row_keep hkp hs0)) (Rd.row_sub hk1 (Rd.row_keep hkp hs0')))
 have HC2:=Hd (fun W (hW:Below _ ((w.alloc (.cells #[.string x.name,.int .i64 x.sal,.int .i64 x.vars,s0,s1] 46)).alloc (.cells #[.string x.name,.int .i64 x.sal,.int .i64 x.vars,s0',s1'] 46)) W)=>sameActs_any d x.acts s1 s1' W (Rd.row_sub (fun b h=>Nat.lt_of_lt_of_le (hk1 b h) hW.size) (Rd.row_keep (fun b h o ho=>(hW.block b (hk1 b h)).trans (hkp b h o ho)) hs1)) (Rd.row_sub (fun b h=>Nat.lt_of_lt_of_le (hk1 b h) hW.size) (Rd.row_keep (fun b h o ho=>(hW.block b (hk1 b h)).trans (hkp b h o ho)) hs1')))
 have HB:=Hd hb
 obtain⟨ps0,cs0,hhs0⟩:=Rd.row_shape hs0
 obtain⟨ps0',cs0',hhs0'⟩:=Rd.row_shape hs0'
 obtain⟨ns0,hns0⟩:∃m,x.conds.length=m:=⟨_,rfl⟩
 rw[hns0] at hhs0
 subst hhs0
 rw[hns0] at hhs0'
 subst hhs0'
 obtain⟨ps1,cs1,hhs1⟩:=Rd.row_shape hs1
 obtain⟨ps1',cs1',hhs1'⟩:=Rd.row_shape hs1'
 obtain⟨ns1,hns1⟩:∃m,x.acts.length=m:=⟨_,rfl⟩
 rw[hns1] at hhs1
 subst hhs1
 rw[hns1] at hhs1'
 subst hhs1'
 clear hb hk1 hkp hat hat' hs0 hs0' hs1 hs1' hns0 hns1
 show Calls Tryz.prog 33 #[.agg #[.string x.name,.int .i64 x.sal,.int .i64 x.vars,.slice ps0 ns0 cs0,.slice ps1 ns1 cs1],.agg #[.string x.name,.int .i64 x.sal,.int .i64 x.vars,.slice ps0' ns0 cs0',.slice ps1' ns1 cs1']] w (TruePost w)
 go_enter Tryz.func33,Tryz.ntmps33
 go_wp2_with fail
 refine HC.out.mono ?_
 rintro e W ⟨rfl,hb2⟩
 have HB2:=Hd (HB.out.trans (hb2.mono HB.out.size))
 have HD:=Hd (HC2.out W hb2)
 have k0:W.cell? ⟨w.heap.size,0,none⟩=some (.string x.name):=(hb2.cell (p:=⟨w.heap.size,0,none⟩) (by simp<;>omega)).trans (cell_of_row _ _ 0 _ _ _ (two_new' w (.cells #[.string x.name,.int .i64 x.sal,.int .i64 x.vars,.slice ps0 ns0 cs0,.slice ps1 ns1 cs1] 46) (.cells #[.string x.name,.int .i64 x.sal,.int .i64 x.vars,.slice ps0' ns0 cs0',.slice ps1' ns1 cs1'] 46)).1)
 have k1:W.cell? ⟨w.heap.size,1,none⟩=some (.int .i64 x.sal):=(hb2.cell (p:=⟨w.heap.size,1,none⟩) (by simp<;>omega)).trans (cell_of_row _ _ 1 _ _ _ (two_new' w (.cells #[.string x.name,.int .i64 x.sal,.int .i64 x.vars,.slice ps0 ns0 cs0,.slice ps1 ns1 cs1] 46) (.cells #[.string x.name,.int .i64 x.sal,.int .i64 x.vars,.slice ps0' ns0 cs0',.slice ps1' ns1 cs1'] 46)).1)
 have k2:W.cell? ⟨w.heap.size,2,none⟩=some (.int .i64 x.vars):=(hb2.cell (p:=⟨w.heap.size,2,none⟩) (by simp<;>omega)).trans (cell_of_row _ _ 2 _ _ _ (two_new' w (.cells #[.string x.name,.int .i64 x.sal,.int .i64 x.vars,.slice ps0 ns0 cs0,.slice ps1 ns1 cs1] 46) (.cells #[.string x.name,.int .i64 x.sal,.int .i64 x.vars,.slice ps0' ns0 cs0',.slice ps1' ns1 cs1'] 46)).1)
 have k3:W.cell? ⟨w.heap.size,3,none⟩=some (.slice ps0 ns0 cs0):=(hb2.cell (p:=⟨w.heap.size,3,none⟩) (by simp<;>omega)).trans (cell_of_row _ _ 3 _ _ _ (two_new' w (.cells #[.string x.name,.int .i64 x.sal,.int .i64 x.vars,.slice ps0 ns0 cs0,.slice ps1 ns1 cs1] 46) (.cells #[.string x.name,.int .i64 x.sal,.int .i64 x.vars,.slice ps0' ns0 cs0',.slice ps1' ns1 cs1'] 46)).1)
 have k4:W.cell? ⟨w.heap.size,4,none⟩=some (.slice ps1 ns1 cs1):=(hb2.cell (p:=⟨w.heap.size,4,none⟩) (by simp<;>omega)).trans (cell_of_row _ _ 4 _ _ _ (two_new' w (.cells #[.string x.name,.int .i64 x.sal,.int .i64 x.vars,.slice ps0 ns0 cs0,.slice ps1 ns1 cs1] 46) (.cells #[.string x.name,.int .i64 x.sal,.int .i64 x.vars,.slice ps0' ns0 cs0',.slice ps1' ns1 cs1'] 46)).1)
 have k0':W.cell? ⟨w.heap.size+1,0,none⟩=some (.string x.name):=(hb2.cell (p:=⟨w.heap.size+1,0,none⟩) (by simp<;>omega)).trans (cell_of_row _ _ 0 _ _ _ (two_new' w (.cells #[.string x.name,.int .i64 x.sal,.int .i64 x.vars,.slice ps0 ns0 cs0,.slice ps1 ns1 cs1] 46) (.cells #[.string x.name,.int .i64 x.sal,.int .i64 x.vars,.slice ps0' ns0 cs0',.slice ps1' ns1 cs1'] 46)).2.1)
 have k1':W.cell? ⟨w.heap.size+1,1,none⟩=some (.int .i64 x.sal):=(hb2.cell (p:=⟨w.heap.size+1,1,none⟩) (by simp<;>omega)).trans (cell_of_row _ _ 1 _ _ _ (two_new' w (.cells #[.string x.name,.int .i64 x.sal,.int .i64 x.vars,.slice ps0 ns0 cs0,.slice ps1 ns1 cs1] 46) (.cells #[.string x.name,.int .i64 x.sal,.int .i64 x.vars,.slice ps0' ns0 cs0',.slice ps1' ns1 cs1'] 46)).2.1)
 have k2':W.cell? ⟨w.heap.size+1,2,none⟩=some (.int .i64 x.vars):=(hb2.cell (p:=⟨w.heap.size+1,2,none⟩) (by simp<;>omega)).trans (cell_of_row _ _ 2 _ _ _ (two_new' w (.cells #[.string x.name,.int .i64 x.sal,.int .i64 x.vars,.slice ps0 ns0 cs0,.slice ps1 ns1 cs1] 46) (.cells #[.string x.name,.int .i64 x.sal,.int .i64 x.vars,.slice ps0' ns0 cs0',.slice ps1' ns1 cs1'] 46)).2.1)
 have k3':W.cell? ⟨w.heap.size+1,3,none⟩=some (.slice ps0' ns0 cs0'):=(hb2.cell (p:=⟨w.heap.size+1,3,none⟩) (by simp<;>omega)).trans (cell_of_row _ _ 3 _ _ _ (two_new' w (.cells #[.string x.name,.int .i64 x.sal,.int .i64 x.vars,.slice ps0 ns0 cs0,.slice ps1 ns1 cs1] 46) (.cells #[.string x.name,.int .i64 x.sal,.int .i64 x.vars,.slice ps0' ns0 cs0',.slice ps1' ns1 cs1'] 46)).2.1)
 have k4':W.cell? ⟨w.heap.size+1,4,none⟩=some (.slice ps1' ns1 cs1'):=(hb2.cell (p:=⟨w.heap.size+1,4,none⟩) (by simp<;>omega)).trans (cell_of_row _ _ 4 _ _ _ (two_new' w (.cells #[.string x.name,.int .i64 x.sal,.int .i64 x.vars,.slice ps0 ns0 cs0,.slice ps1 ns1 cs1] 46) (.cells #[.string x.name,.int .i64 x.sal,.int .i64 x.vars,.slice ps0' ns0 cs0',.slice ps1' ns1 cs1'] 46)).2.1)
 clear hb2 HC HC2
 go_wp2_with fail
 refine HD.out.mono ?_
 rintro e W2 ⟨rfl,hb3⟩
 have HB3:=Hd (HB2.out.trans (hb3.mono HB2.out.size))
 clear hb3 HD
 go_wp2_with fail
 go_ret
 exact⟨rfl,HB3.out⟩
theorem sameRuleRow_any (d:Nat)(l:List CRule)(u v:Value)(w:World)(hu:(ruleRd d).row w (fun b=>b<w.heap.size) l u)(hv:(ruleRd d).row w (fun b=>b<w.heap.size) l v):Calls Tryz.prog 19 #[u,v] w (TruePost w):=by
 obtain⟨p,c,hpu⟩:=Rd.row_shape hu
 obtain⟨q,c',hpv⟩:=Rd.row_shape hv
 have hmx:=Rd.row_len hu
 subst hpu;subst hpv
 obtain⟨n,hn⟩:∃n,l.length=n:=⟨_,rfl⟩
 have HU:=Hd (fun W (hW:Below w.heap.size w W)=>Rd.row_below hu (fun _ h=>h) hW)
 have HV:=Hd (fun W (hW:Below w.heap.size w W)=>Rd.row_below hv (fun _ h=>h) hW)
 have HF:=Hd (sameRule_of d)
 rw[hn] at HU HV hmx ⊢
 have HN:=Hd hn
 have hn3:(n:Int)≤9223372036854775807:=by unfold maxLen at hmx;omega
 clear hu hv hn hmx
 go_enter Tryz.func19,Tryz.ntmps19
 go_wp2
 go_loopw [5] (UpRel w n) (fun i _=>n-(intOf i).toNat)
 case atStart=>exact⟨_,0,rfl,Nat.zero_le _,rfl,Below.refl _ _⟩
 case round =>
  obtain⟨W1,k,rfl,hk,rfl,hb⟩:=hrel
  by_cases hlt:k<n
  ·obtain⟨x,hx⟩:∃x,l[k]? = some x:=⟨_,List.getElem?_eq_getElem (by rw[HN.out];exact hlt)⟩
   have hvs:=Rd.row_at (HU.out W1 hb) hx
   rw[HN.out] at hvs
   obtain⟨b,off,cap,vs,hev,_,_,_,_,hat,hcell⟩:=hvs
   injection hev with e1 _ e3
   subst e1;subst e3
   have hcell:∀m z,vs[m]? = some z→W1.cell? ⟨b,off+k*5+m,none⟩=some z:=hcell
   have hvs':=Rd.row_at (HV.out W1 hb) hx
   rw[HN.out] at hvs'
   obtain⟨b',off',cap',vs',hev',_,_,_,_,hat',hcell'⟩:=hvs'
   injection hev' with e1' _ e3'
   subst e1';subst e3'
   have hcell':∀m z,vs'[m]? = some z→W1.cell? ⟨b',off'+k*5+m,none⟩=some z:=hcell'
   have hat0:=hat
   have hat0':=hat'
   obtain⟨_,_,_,s0,s1,rfl,hs0,hs1⟩:=rule_at.1 hat
   obtain⟨ps0,cs0,hhs0⟩:=Rd.row_shape hs0
   obtain⟨ps1,cs1,hhs1⟩:=Rd.row_shape hs1
   obtain⟨_,_,_,s0',s1',rfl,hs0',hs1'⟩:=rule_at.1 hat'
   obtain⟨ps0',cs0',hhs0'⟩:=Rd.row_shape hs0'
   obtain⟨ps1',cs1',hhs1'⟩:=Rd.row_shape hs1'
   obtain⟨ns0,hns0⟩:∃m,x.conds.length=m:=⟨_,rfl⟩
   rw[hns0] at hhs0
   subst hhs0
   rw[hns0] at hhs0'
   subst hhs0'
   obtain⟨ns1,hns1⟩:∃m,x.acts.length=m:=⟨_,rfl⟩
   rw[hns1] at hhs1
   subst hhs1
   rw[hns1] at hhs1'
   subst hhs1'
   have d0:W1.cell? ⟨b,off+k*5,none⟩=some (.string x.name):=hcell 0 _ rfl
   have d1:W1.cell? ⟨b,off+k*5+1,none⟩=some (.int .i64 x.sal):=hcell 1 _ rfl
   have d2:W1.cell? ⟨b,off+k*5+2,none⟩=some (.int .i64 x.vars):=hcell 2 _ rfl
   have d3:W1.cell? ⟨b,off+k*5+3,none⟩=some (.slice ps0 ns0 cs0):=hcell 3 _ rfl
   have d4:W1.cell? ⟨b,off+k*5+4,none⟩=some (.slice ps1 ns1 cs1):=hcell 4 _ rfl
   have e0:W1.cell? ⟨b',off'+k*5,none⟩=some (.string x.name):=hcell' 0 _ rfl
   have e1:W1.cell? ⟨b',off'+k*5+1,none⟩=some (.int .i64 x.sal):=hcell' 1 _ rfl
   have e2:W1.cell? ⟨b',off'+k*5+2,none⟩=some (.int .i64 x.vars):=hcell' 2 _ rfl
   have e3:W1.cell? ⟨b',off'+k*5+3,none⟩=some (.slice ps0' ns0 cs0'):=hcell' 3 _ rfl
   have e4:W1.cell? ⟨b',off'+k*5+4,none⟩=some (.slice ps1' ns1 cs1'):=hcell' 4 _ rfl
   have hdr:Below W1.heap.size W1 W1.drew:=(Below.refl _ W1).drew
   have hk1:∀b,(b<w.heap.size)→b<W1.drew.heap.size:=fun b h=>Nat.lt_of_lt_of_le h (Nat.le_trans hb.size hdr.size)
   have hkp:∀b,b<w.heap.size→∀o,W1.heap[b]? = some o→W1.drew.heap[b]? = some o:=fun b h o ho=>(hdr.block b (Nat.lt_of_lt_of_le h hb.size)).trans ho
   have HCall:Hid (Calls Tryz.prog 33 #[.agg #[.string x.name,.int .i64 x.sal,.int .i64 x.vars,.slice ps0 ns0 cs0,.slice ps1 ns1 cs1],.agg #[.string x.name,.int .i64 x.sal,.int .i64 x.vars,.slice ps0' ns0 cs0',.slice ps1' ns1 cs1']] W1.drew (TruePost W1.drew)):=HF.out x _ _ W1.drew ((ruleRd d).sub hk1 ((ruleRd d).keep hkp hat0)) ((ruleRd d).sub hk1 ((ruleRd d).keep hkp hat0'))
   have HBb:=Hd (hb.trans (hdr.mono hb.size))
   have hk0:(0:Int)≤k:=by omega
   have hk2:(k:Int)<n:=by omega
   clear hat hat' hcell hcell' hx hdr hb hs0 hs0' hs1 hs1' hns0 hns1 hat0 hat0' hk1 hkp
   go_wp2
   go_still_tail 8,(by kernel_rfl)
   change wpList _ _ _ _ _ W1.drew
   generalize W1.drew=W2 at *
   clear d0 d1 d2 d3 d4 e0 e1 e2 e3 e4
   go_wp2_with fail
   refine HCall.out.mono ?_
   rintro e W3 ⟨rfl,hb2⟩
   go_wp2_with fail
   exact⟨⟨_,k+1,rfl,by omega,by go_num,HBb.out.trans (hb2.mono HBb.out.size)⟩,by simp[intOf];omega⟩
  ·obtain rfl:k=n:=by omega
   have HBb:=Hd hb
   clear hb
   go_wp2
   go_ret
   exact⟨rfl,HBb.out⟩
theorem sameRules_of (d:Nat):SameOf (rulesRd d) 10:=by
 intro x vs vs' w hat hat'
 obtain⟨s0,s1,rfl,hs0,hs1⟩:=rules_at.1 hat
 obtain⟨s0',s1',rfl,hs0',hs1'⟩:=rules_at.1 hat'
 have hb:Below w.heap.size w ((w.alloc (.cells #[s0,s1] 32)).alloc (.cells #[s0',s1'] 32)):=((Below.refl _ w).alloc (Nat.le_refl _) _).alloc (by simp) _
 have hk1:∀b,(b<w.heap.size)→b<((w.alloc (.cells #[s0,s1] 32)).alloc (.cells #[s0',s1'] 32)).heap.size:=fun b h=>Nat.lt_of_lt_of_le h hb.size
 have hkp:∀b,b<w.heap.size→∀o,w.heap[b]? = some o→((w.alloc (.cells #[s0,s1] 32)).alloc (.cells #[s0',s1'] 32)).heap[b]? = some o:=fun b h o ho=>(hb.block b h).trans ho
 have HC:=Hd (sameTypes_any x.types s0 s0' _ (Rd.row_sub hk1 (Rd.row_keep hkp hs0)) (Rd.row_sub hk1 (Rd.row_keep hkp hs0')))
 have HC2:=Hd (fun W (hW:Below _ ((w.alloc (.cells #[s0,s1] 32)).alloc (.cells #[s0',s1'] 32)) W)=>sameRuleRow_any d x.rules s1 s1' W (Rd.row_sub (fun b h=>Nat.lt_of_lt_of_le (hk1 b h) hW.size) (Rd.row_keep (fun b h o ho=>(hW.block b (hk1 b h)).trans (hkp b h o ho)) hs1)) (Rd.row_sub (fun b h=>Nat.lt_of_lt_of_le (hk1 b h) hW.size) (Rd.row_keep (fun b h o ho=>(hW.block b (hk1 b h)).trans (hkp b h o ho)) hs1')))
 have HB:=Hd hb
 obtain⟨ps0,cs0,hhs0⟩:=Rd.row_shape hs0
 obtain⟨ps0',cs0',hhs0'⟩:=Rd.row_shape hs0'
 obtain⟨ns0,hns0⟩:∃m,x.types.length=m:=⟨_,rfl⟩
 rw[hns0] at hhs0
 subst hhs0
 rw[hns0] at hhs0'
 subst hhs0'
 obtain⟨ps1,cs1,hhs1⟩:=Rd.row_shape hs1
 obtain⟨ps1',cs1',hhs1'⟩:=Rd.row_shape hs1'
 obtain⟨ns1,hns1⟩:∃m,x.rules.length=m:=⟨_,rfl⟩
 rw[hns1] at hhs1
 subst hhs1
 rw[hns1] at hhs1'
 subst hhs1'
 clear hb hk1 hkp hat hat' hs0 hs0' hs1 hs1' hns0 hns1
 show Calls Tryz.prog 10 #[.agg #[.slice ps0 ns0 cs0,.slice ps1 ns1 cs1],.agg #[.slice ps0' ns0 cs0',.slice ps1' ns1 cs1']] w (TruePost w)
 go_enter Tryz.func10,Tryz.ntmps10
 go_wp2_with fail
 refine HC.out.mono ?_
 rintro e W ⟨rfl,hb2⟩
 have HB2:=Hd (HB.out.trans (hb2.mono HB.out.size))
 have HD:=Hd (HC2.out W hb2)
 have k0:W.cell? ⟨w.heap.size,0,none⟩=some (.slice ps0 ns0 cs0):=(hb2.cell (p:=⟨w.heap.size,0,none⟩) (by simp<;>omega)).trans (cell_of_row _ _ 0 _ _ _ (two_new' w (.cells #[.slice ps0 ns0 cs0,.slice ps1 ns1 cs1] 32) (.cells #[.slice ps0' ns0 cs0',.slice ps1' ns1 cs1'] 32)).1)
 have k1:W.cell? ⟨w.heap.size,1,none⟩=some (.slice ps1 ns1 cs1):=(hb2.cell (p:=⟨w.heap.size,1,none⟩) (by simp<;>omega)).trans (cell_of_row _ _ 1 _ _ _ (two_new' w (.cells #[.slice ps0 ns0 cs0,.slice ps1 ns1 cs1] 32) (.cells #[.slice ps0' ns0 cs0',.slice ps1' ns1 cs1'] 32)).1)
 have k0':W.cell? ⟨w.heap.size+1,0,none⟩=some (.slice ps0' ns0 cs0'):=(hb2.cell (p:=⟨w.heap.size+1,0,none⟩) (by simp<;>omega)).trans (cell_of_row _ _ 0 _ _ _ (two_new' w (.cells #[.slice ps0 ns0 cs0,.slice ps1 ns1 cs1] 32) (.cells #[.slice ps0' ns0 cs0',.slice ps1' ns1 cs1'] 32)).2.1)
 have k1':W.cell? ⟨w.heap.size+1,1,none⟩=some (.slice ps1' ns1 cs1'):=(hb2.cell (p:=⟨w.heap.size+1,1,none⟩) (by simp<;>omega)).trans (cell_of_row _ _ 1 _ _ _ (two_new' w (.cells #[.slice ps0 ns0 cs0,.slice ps1 ns1 cs1] 32) (.cells #[.slice ps0' ns0 cs0',.slice ps1' ns1 cs1'] 32)).2.1)
 clear hb2 HC HC2
 go_wp2_with fail
 refine HD.out.mono ?_
 rintro e W2 ⟨rfl,hb3⟩
 have HB3:=Hd (HB2.out.trans (hb3.mono HB2.out.size))
 clear hb3 HD
 go_wp2_with fail
 go_ret
 exact⟨rfl,HB3.out⟩
end Go.Proofs.YtglbjooofdnbkaaGreatDoor
