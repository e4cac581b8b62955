/- Parts of one proof, joined; conditions stand in each theorem. -/
import Derived.Test.YtmpekinjoeibbaaGreatDoorMD
import Derived.LoopN
open Bool renaming true→r5
open Go renaming World→p7,Calls→r9
open Go.Value renaming int→I,slice→O
open Go.Proofs.Tryz renaming prog→r6
open Option renaming none→V
namespace Go.Proofs.YtmpekinjoeibbaaGreatDoor
set_option maxRecDepth 100000
open Go.RowKit
theorem cZ(t e:TypeId)(b:Tryz.prog.underlying t=some (.slice e))(a:(Tryz.prog.info? e).isSome=r5)(w:p7) :
  ∃v W,(Instr.makeSlice t (I IntKind.i64 0) (I IntKind.i64 0)).run r6 w=.ok v W∧FS w W:=by
 obtain⟨i,a⟩:=Option.isSome_iff_exists.1 a;refine⟨O (some ⟨w.heap.size,0,V⟩) 0 0,w.alloc (Obj.cells #[] e),?_,(EU _ w).alloc (ET _) _⟩;have wl:IntKind.i64.wrap 0=0:=by decide
 simp[Instr.makeSlice,run_underlying b,asInt,asIntOf,typeInfo,a,sizeOf,wl,newRow,Array.range_zero']
theorem sP(w:p7):r9 r6 56 #[O V 0 0] w (ao r5 w):=by
 obtain⟨v,W,c,a⟩:=cZ 102 225 (by kernel_rfl) (by kernel_rfl) w;have b:=Hd a;clear a
 go_enter Tryz.func56,Tryz.ntmps56
 go_wp2
 refine wp_loop_rounds 1 ?_;rw[rounds_succ]
 go_wp2
 all_goals refine wp_loop_rounds 1 ?_
 all_goals rw[rounds_succ]
 go_wp2
 refine wp_loop_rounds 1 ?_;rw[rounds_succ]
 go_wp2
 refine wp_loop_rounds 1 ?_;rw[rounds_succ]
 go_wp2
 refine wp_loop_rounds 1 ?_;rw[rounds_succ]
 go_wp2
 go_ret;exact⟨Z,b.o⟩
theorem te(w:p7):r9 r6 57 #[O V 0 0] w (ao r5 w):=by
 obtain⟨v,W,c,a⟩:=cZ 103 228 (by kernel_rfl) (by kernel_rfl) w;have b:=Hd a;clear a
 go_enter Tryz.func57,Tryz.ntmps57
 go_wp2
 refine wp_loop_rounds 1 ?_;rw[rounds_succ]
 go_wp2
 all_goals refine wp_loop_rounds 1 ?_
 all_goals rw[rounds_succ]
 go_wp2
 refine wp_loop_rounds 1 ?_;rw[rounds_succ]
 go_wp2
 refine wp_loop_rounds 1 ?_;rw[rounds_succ]
 go_wp2
 refine wp_loop_rounds 1 ?_;rw[rounds_succ]
 go_wp2
 go_ret;exact⟨Z,b.o⟩
theorem vo(w:p7):r9 r6 58 #[O V 0 0] w (ao r5 w):=by
 obtain⟨v,W,c,a⟩:=cZ 104 230 (by kernel_rfl) (by kernel_rfl) w;have b:=Hd a;clear a
 go_enter Tryz.func58,Tryz.ntmps58
 go_wp2
 refine wp_loop_rounds 1 ?_;rw[rounds_succ]
 go_wp2
 all_goals refine wp_loop_rounds 1 ?_
 all_goals rw[rounds_succ]
 go_wp2
 refine wp_loop_rounds 1 ?_;rw[rounds_succ]
 go_wp2
 refine wp_loop_rounds 1 ?_;rw[rounds_succ]
 go_wp2
 refine wp_loop_rounds 1 ?_;rw[rounds_succ]
 go_wp2
 go_ret;exact⟨Z,b.o⟩
theorem tj(w:p7):r9 r6 59 #[O V 0 0] w (ao r5 w):=by
 obtain⟨v,W,c,a⟩:=cZ 105 231 (by kernel_rfl) (by kernel_rfl) w;have b:=Hd a;clear a
 go_enter Tryz.func59,Tryz.ntmps59
 go_wp2
 refine wp_loop_rounds 1 ?_;rw[rounds_succ]
 go_wp2
 all_goals refine wp_loop_rounds 1 ?_
 all_goals rw[rounds_succ]
 go_wp2
 refine wp_loop_rounds 1 ?_;rw[rounds_succ]
 go_wp2
 refine wp_loop_rounds 1 ?_;rw[rounds_succ]
 go_wp2
 refine wp_loop_rounds 1 ?_;rw[rounds_succ]
 go_wp2
 go_ret;exact⟨Z,b.o⟩
theorem sN(w:p7):r9 r6 60 #[O V 0 0] w (ao r5 w):=by
 obtain⟨v,W,c,a⟩:=cZ 106 96 (by kernel_rfl) (by kernel_rfl) w;have b:=Hd a;clear a
 go_enter Tryz.func60,Tryz.ntmps60
 go_wp2
 refine wp_loop_rounds 1 ?_;rw[rounds_succ]
 go_wp2
 all_goals refine wp_loop_rounds 1 ?_
 all_goals rw[rounds_succ]
 go_wp2
 refine wp_loop_rounds 1 ?_;rw[rounds_succ]
 go_wp2
 refine wp_loop_rounds 1 ?_;rw[rounds_succ]
 go_wp2
 refine wp_loop_rounds 1 ?_;rw[rounds_succ]
 go_wp2
 go_ret;exact⟨Z,b.o⟩
theorem tg(w:p7):r9 r6 61 #[O V 0 0] w (ao r5 w):=by
 obtain⟨v,W,c,a⟩:=cZ 107 233 (by kernel_rfl) (by kernel_rfl) w;have b:=Hd a;clear a
 go_enter Tryz.func61,Tryz.ntmps61
 go_wp2
 refine wp_loop_rounds 1 ?_;rw[rounds_succ]
 go_wp2
 all_goals refine wp_loop_rounds 1 ?_
 all_goals rw[rounds_succ]
 go_wp2
 refine wp_loop_rounds 1 ?_;rw[rounds_succ]
 go_wp2
 refine wp_loop_rounds 1 ?_;rw[rounds_succ]
 go_wp2
 refine wp_loop_rounds 1 ?_;rw[rounds_succ]
 go_wp2
 go_ret;exact⟨Z,b.o⟩
theorem qY(w:p7):r9 r6 62 #[O V 0 0] w (ao r5 w):=by
 obtain⟨v,W,c,a⟩:=cZ 108 235 (by kernel_rfl) (by kernel_rfl) w;have b:=Hd a;clear a
 go_enter Tryz.func62,Tryz.ntmps62
 go_wp2
 refine wp_loop_rounds 1 ?_;rw[rounds_succ]
 go_wp2
 all_goals refine wp_loop_rounds 1 ?_
 all_goals rw[rounds_succ]
 go_wp2
 refine wp_loop_rounds 1 ?_;rw[rounds_succ]
 go_wp2
 refine wp_loop_rounds 1 ?_;rw[rounds_succ]
 go_wp2
 refine wp_loop_rounds 1 ?_;rw[rounds_succ]
 go_wp2
 go_ret;exact⟨Z,b.o⟩
theorem s6(w:p7):r9 r6 63 #[O V 0 0] w (ao r5 w):=by
 obtain⟨v,W,c,a⟩:=cZ 109 237 (by kernel_rfl) (by kernel_rfl) w;have b:=Hd a;clear a
 go_enter Tryz.func63,Tryz.ntmps63
 go_wp2
 refine wp_loop_rounds 1 ?_;rw[rounds_succ]
 go_wp2
 all_goals refine wp_loop_rounds 1 ?_
 all_goals rw[rounds_succ]
 go_wp2
 refine wp_loop_rounds 1 ?_;rw[rounds_succ]
 go_wp2
 refine wp_loop_rounds 1 ?_;rw[rounds_succ]
 go_wp2
 refine wp_loop_rounds 1 ?_;rw[rounds_succ]
 go_wp2
 go_ret;exact⟨Z,b.o⟩
theorem tz(w:p7):r9 r6 64 #[O V 0 0] w (ao r5 w):=by
 obtain⟨v,W,c,a⟩:=cZ 110 79 (by kernel_rfl) (by kernel_rfl) w;have b:=Hd a;clear a
 go_enter Tryz.func64,Tryz.ntmps64
 go_wp2
 refine wp_loop_rounds 1 ?_;rw[rounds_succ]
 go_wp2
 all_goals refine wp_loop_rounds 1 ?_
 all_goals rw[rounds_succ]
 go_wp2
 refine wp_loop_rounds 1 ?_;rw[rounds_succ]
 go_wp2
 refine wp_loop_rounds 1 ?_;rw[rounds_succ]
 go_wp2
 refine wp_loop_rounds 1 ?_;rw[rounds_succ]
 go_wp2
 go_ret;exact⟨Z,b.o⟩
theorem tB(w:p7):r9 r6 66 #[O V 0 0] w (ao r5 w):=by
 obtain⟨v,W,c,a⟩:=cZ 112 49 (by kernel_rfl) (by kernel_rfl) w;have b:=Hd a;clear a
 go_enter Tryz.func66,Tryz.ntmps66
 go_wp2
 refine wp_loop_rounds 1 ?_;rw[rounds_succ]
 go_wp2
 all_goals refine wp_loop_rounds 1 ?_
 all_goals rw[rounds_succ]
 go_wp2
 refine wp_loop_rounds 1 ?_;rw[rounds_succ]
 go_wp2
 refine wp_loop_rounds 1 ?_;rw[rounds_succ]
 go_wp2
 refine wp_loop_rounds 1 ?_;rw[rounds_succ]
 go_wp2
 go_ret;exact⟨Z,b.o⟩
theorem ul(w:p7):r9 r6 67 #[O V 0 0] w (ao r5 w):=by
 obtain⟨v,W,c,a⟩:=cZ 113 43 (by kernel_rfl) (by kernel_rfl) w;have b:=Hd a;clear a
 go_enter Tryz.func67,Tryz.ntmps67
 go_wp2
 refine wp_loop_rounds 1 ?_;rw[rounds_succ]
 go_wp2
 all_goals refine wp_loop_rounds 1 ?_
 all_goals rw[rounds_succ]
 go_wp2
 refine wp_loop_rounds 1 ?_;rw[rounds_succ]
 go_wp2
 refine wp_loop_rounds 1 ?_;rw[rounds_succ]
 go_wp2
 refine wp_loop_rounds 1 ?_;rw[rounds_succ]
 go_wp2
 go_ret;exact⟨Z,b.o⟩
theorem sY(w:p7):r9 r6 68 #[O V 0 0] w (ao r5 w):=by
 obtain⟨v,W,c,a⟩:=cZ 114 36 (by kernel_rfl) (by kernel_rfl) w;have b:=Hd a;clear a
 go_enter Tryz.func68,Tryz.ntmps68
 go_wp2
 refine wp_loop_rounds 1 ?_;rw[rounds_succ]
 go_wp2
 all_goals refine wp_loop_rounds 1 ?_
 all_goals rw[rounds_succ]
 go_wp2
 refine wp_loop_rounds 1 ?_;rw[rounds_succ]
 go_wp2
 refine wp_loop_rounds 1 ?_;rw[rounds_succ]
 go_wp2
 refine wp_loop_rounds 1 ?_;rw[rounds_succ]
 go_wp2
 go_ret;exact⟨Z,b.o⟩
theorem uk(w:p7):r9 r6 69 #[O V 0 0] w (ao r5 w):=by
 obtain⟨v,W,c,a⟩:=cZ 115 37 (by kernel_rfl) (by kernel_rfl) w;have b:=Hd a;clear a
 go_enter Tryz.func69,Tryz.ntmps69
 go_wp2
 refine wp_loop_rounds 1 ?_;rw[rounds_succ]
 go_wp2
 all_goals refine wp_loop_rounds 1 ?_
 all_goals rw[rounds_succ]
 go_wp2
 refine wp_loop_rounds 1 ?_;rw[rounds_succ]
 go_wp2
 refine wp_loop_rounds 1 ?_;rw[rounds_succ]
 go_wp2
 refine wp_loop_rounds 1 ?_;rw[rounds_succ]
 go_wp2
 go_ret;exact⟨Z,b.o⟩
theorem s7(w:p7):r9 r6 70 #[O V 0 0] w (ao r5 w):=by
 obtain⟨v,W,c,a⟩:=cZ 116 23 (by kernel_rfl) (by kernel_rfl) w;have b:=Hd a;clear a
 go_enter Tryz.func70,Tryz.ntmps70
 go_wp2
 refine wp_loop_rounds 1 ?_;rw[rounds_succ]
 go_wp2
 all_goals refine wp_loop_rounds 1 ?_
 all_goals rw[rounds_succ]
 go_wp2
 refine wp_loop_rounds 1 ?_;rw[rounds_succ]
 go_wp2
 refine wp_loop_rounds 1 ?_;rw[rounds_succ]
 go_wp2
 refine wp_loop_rounds 1 ?_;rw[rounds_succ]
 go_wp2
 go_ret;exact⟨Z,b.o⟩
theorem qt(w:p7):r9 r6 71 #[O V 0 0] w (ao r5 w):=by
 obtain⟨v,W,c,a⟩:=cZ 117 24 (by kernel_rfl) (by kernel_rfl) w;have b:=Hd a;clear a
 go_enter Tryz.func71,Tryz.ntmps71
 go_wp2
 refine wp_loop_rounds 1 ?_;rw[rounds_succ]
 go_wp2
 all_goals refine wp_loop_rounds 1 ?_
 all_goals rw[rounds_succ]
 go_wp2
 refine wp_loop_rounds 1 ?_;rw[rounds_succ]
 go_wp2
 refine wp_loop_rounds 1 ?_;rw[rounds_succ]
 go_wp2
 refine wp_loop_rounds 1 ?_;rw[rounds_succ]
 go_wp2
 go_ret;exact⟨Z,b.o⟩
theorem pz(w:p7):r9 r6 72 #[O V 0 0] w (ao r5 w):=by
 obtain⟨v,W,c,a⟩:=cZ 70 34 (by kernel_rfl) (by kernel_rfl) w;have b:=Hd a;clear a
 go_enter Tryz.func72,Tryz.ntmps72
 go_wp2
 refine wp_loop_rounds 1 ?_;rw[rounds_succ]
 go_wp2
 all_goals refine wp_loop_rounds 1 ?_
 all_goals rw[rounds_succ]
 go_wp2
 refine wp_loop_rounds 1 ?_;rw[rounds_succ]
 go_wp2
 refine wp_loop_rounds 1 ?_;rw[rounds_succ]
 go_wp2
 refine wp_loop_rounds 1 ?_;rw[rounds_succ]
 go_wp2
 go_ret;exact⟨Z,b.o⟩
theorem rC(w:p7):r9 r6 73 #[O V 0 0] w (ao r5 w):=by
 obtain⟨v,W,c,a⟩:=cZ 118 253 (by kernel_rfl) (by kernel_rfl) w;have b:=Hd a;clear a
 go_enter Tryz.func73,Tryz.ntmps73
 go_wp2
 refine wp_loop_rounds 1 ?_;rw[rounds_succ]
 go_wp2
 all_goals refine wp_loop_rounds 1 ?_
 all_goals rw[rounds_succ]
 go_wp2
 refine wp_loop_rounds 1 ?_;rw[rounds_succ]
 go_wp2
 refine wp_loop_rounds 1 ?_;rw[rounds_succ]
 go_wp2
 refine wp_loop_rounds 1 ?_;rw[rounds_succ]
 go_wp2
 go_ret;exact⟨Z,b.o⟩
theorem oQ(w:p7):r9 r6 74 #[O V 0 0] w (ao r5 w):=by
 obtain⟨v,W,c,a⟩:=cZ 119 258 (by kernel_rfl) (by kernel_rfl) w;have b:=Hd a;clear a
 go_enter Tryz.func74,Tryz.ntmps74
 go_wp2
 refine wp_loop_rounds 1 ?_;rw[rounds_succ]
 go_wp2
 all_goals refine wp_loop_rounds 1 ?_
 all_goals rw[rounds_succ]
 go_wp2
 refine wp_loop_rounds 1 ?_;rw[rounds_succ]
 go_wp2
 refine wp_loop_rounds 1 ?_;rw[rounds_succ]
 go_wp2
 refine wp_loop_rounds 1 ?_;rw[rounds_succ]
 go_wp2
 go_ret;exact⟨Z,b.o⟩
theorem qh(w:p7):r9 r6 75 #[O V 0 0] w (ao r5 w):=by
 obtain⟨v,W,c,a⟩:=cZ 120 264 (by kernel_rfl) (by kernel_rfl) w;have b:=Hd a;clear a
 go_enter Tryz.func75,Tryz.ntmps75
 go_wp2
 refine wp_loop_rounds 1 ?_;rw[rounds_succ]
 go_wp2
 all_goals refine wp_loop_rounds 1 ?_
 all_goals rw[rounds_succ]
 go_wp2
 refine wp_loop_rounds 1 ?_;rw[rounds_succ]
 go_wp2
 refine wp_loop_rounds 1 ?_;rw[rounds_succ]
 go_wp2
 refine wp_loop_rounds 1 ?_;rw[rounds_succ]
 go_wp2
 go_ret;exact⟨Z,b.o⟩
theorem pZ(w:p7):r9 r6 76 #[O V 0 0] w (ao r5 w):=by
 obtain⟨v,W,c,a⟩:=cZ 121 269 (by kernel_rfl) (by kernel_rfl) w;have b:=Hd a;clear a
 go_enter Tryz.func76,Tryz.ntmps76
 go_wp2
 refine wp_loop_rounds 1 ?_;rw[rounds_succ]
 go_wp2
 all_goals refine wp_loop_rounds 1 ?_
 all_goals rw[rounds_succ]
 go_wp2
 refine wp_loop_rounds 1 ?_;rw[rounds_succ]
 go_wp2
 refine wp_loop_rounds 1 ?_;rw[rounds_succ]
 go_wp2
 refine wp_loop_rounds 1 ?_;rw[rounds_succ]
 go_wp2
 go_ret;exact⟨Z,b.o⟩
theorem qJ(w:p7):r9 r6 77 #[O V 0 0] w (ao r5 w):=by
 obtain⟨v,W,c,a⟩:=cZ 122 275 (by kernel_rfl) (by kernel_rfl) w;have b:=Hd a;clear a
 go_enter Tryz.func77,Tryz.ntmps77
 go_wp2
 refine wp_loop_rounds 1 ?_;rw[rounds_succ]
 go_wp2
 all_goals refine wp_loop_rounds 1 ?_
 all_goals rw[rounds_succ]
 go_wp2
 refine wp_loop_rounds 1 ?_;rw[rounds_succ]
 go_wp2
 refine wp_loop_rounds 1 ?_;rw[rounds_succ]
 go_wp2
 refine wp_loop_rounds 1 ?_;rw[rounds_succ]
 go_wp2
 go_ret;exact⟨Z,b.o⟩
theorem sJ(w:p7):r9 r6 78 #[O V 0 0] w (ao r5 w):=by
 obtain⟨v,W,c,a⟩:=cZ 123 281 (by kernel_rfl) (by kernel_rfl) w;have b:=Hd a;clear a
 go_enter Tryz.func78,Tryz.ntmps78
 go_wp2
 refine wp_loop_rounds 1 ?_;rw[rounds_succ]
 go_wp2
 all_goals refine wp_loop_rounds 1 ?_
 all_goals rw[rounds_succ]
 go_wp2
 refine wp_loop_rounds 1 ?_;rw[rounds_succ]
 go_wp2
 refine wp_loop_rounds 1 ?_;rw[rounds_succ]
 go_wp2
 refine wp_loop_rounds 1 ?_;rw[rounds_succ]
 go_wp2
 go_ret;exact⟨Z,b.o⟩
theorem sR(w:p7):r9 r6 79 #[O V 0 0] w (ao r5 w):=by
 obtain⟨v,W,c,a⟩:=cZ 124 286 (by kernel_rfl) (by kernel_rfl) w;have b:=Hd a;clear a
 go_enter Tryz.func79,Tryz.ntmps79
 go_wp2
 refine wp_loop_rounds 1 ?_;rw[rounds_succ]
 go_wp2
 all_goals refine wp_loop_rounds 1 ?_
 all_goals rw[rounds_succ]
 go_wp2
 refine wp_loop_rounds 1 ?_;rw[rounds_succ]
 go_wp2
 refine wp_loop_rounds 1 ?_;rw[rounds_succ]
 go_wp2
 refine wp_loop_rounds 1 ?_;rw[rounds_succ]
 go_wp2
 go_ret;exact⟨Z,b.o⟩
theorem sS(w:p7):r9 r6 80 #[O V 0 0] w (ao r5 w):=by
 obtain⟨v,W,c,a⟩:=cZ 125 292 (by kernel_rfl) (by kernel_rfl) w;have b:=Hd a;clear a
 go_enter Tryz.func80,Tryz.ntmps80
 go_wp2
 refine wp_loop_rounds 1 ?_;rw[rounds_succ]
 go_wp2
 all_goals refine wp_loop_rounds 1 ?_
 all_goals rw[rounds_succ]
 go_wp2
 refine wp_loop_rounds 1 ?_;rw[rounds_succ]
 go_wp2
 refine wp_loop_rounds 1 ?_;rw[rounds_succ]
 go_wp2
 refine wp_loop_rounds 1 ?_;rw[rounds_succ]
 go_wp2
 go_ret;exact⟨Z,b.o⟩
theorem rn(w:p7):r9 r6 81 #[O V 0 0] w (ao r5 w):=by
 obtain⟨v,W,c,a⟩:=cZ 126 298 (by kernel_rfl) (by kernel_rfl) w;have b:=Hd a;clear a
 go_enter Tryz.func81,Tryz.ntmps81
 go_wp2
 refine wp_loop_rounds 1 ?_;rw[rounds_succ]
 go_wp2
 all_goals refine wp_loop_rounds 1 ?_
 all_goals rw[rounds_succ]
 go_wp2
 refine wp_loop_rounds 1 ?_;rw[rounds_succ]
 go_wp2
 refine wp_loop_rounds 1 ?_;rw[rounds_succ]
 go_wp2
 refine wp_loop_rounds 1 ?_;rw[rounds_succ]
 go_wp2
 go_ret;exact⟨Z,b.o⟩
theorem pL(w:p7):r9 r6 82 #[O V 0 0] w (ao r5 w):=by
 obtain⟨v,W,c,a⟩:=cZ 127 303 (by kernel_rfl) (by kernel_rfl) w;have b:=Hd a;clear a
 go_enter Tryz.func82,Tryz.ntmps82
 go_wp2
 refine wp_loop_rounds 1 ?_;rw[rounds_succ]
 go_wp2
 all_goals refine wp_loop_rounds 1 ?_
 all_goals rw[rounds_succ]
 go_wp2
 refine wp_loop_rounds 1 ?_;rw[rounds_succ]
 go_wp2
 refine wp_loop_rounds 1 ?_;rw[rounds_succ]
 go_wp2
 refine wp_loop_rounds 1 ?_;rw[rounds_succ]
 go_wp2
 go_ret;exact⟨Z,b.o⟩
theorem pM(w:p7):r9 r6 83 #[O V 0 0] w (ao r5 w):=by
 obtain⟨v,W,c,a⟩:=cZ 128 308 (by kernel_rfl) (by kernel_rfl) w;have b:=Hd a;clear a
 go_enter Tryz.func83,Tryz.ntmps83
 go_wp2
 refine wp_loop_rounds 1 ?_;rw[rounds_succ]
 go_wp2
 all_goals refine wp_loop_rounds 1 ?_
 all_goals rw[rounds_succ]
 go_wp2
 refine wp_loop_rounds 1 ?_;rw[rounds_succ]
 go_wp2
 refine wp_loop_rounds 1 ?_;rw[rounds_succ]
 go_wp2
 refine wp_loop_rounds 1 ?_;rw[rounds_succ]
 go_wp2
 go_ret;exact⟨Z,b.o⟩
theorem rx(w:p7):r9 r6 84 #[O V 0 0] w (ao r5 w):=by
 obtain⟨v,W,c,a⟩:=cZ 129 313 (by kernel_rfl) (by kernel_rfl) w;have b:=Hd a;clear a
 go_enter Tryz.func84,Tryz.ntmps84
 go_wp2
 refine wp_loop_rounds 1 ?_;rw[rounds_succ]
 go_wp2
 all_goals refine wp_loop_rounds 1 ?_
 all_goals rw[rounds_succ]
 go_wp2
 refine wp_loop_rounds 1 ?_;rw[rounds_succ]
 go_wp2
 refine wp_loop_rounds 1 ?_;rw[rounds_succ]
 go_wp2
 refine wp_loop_rounds 1 ?_;rw[rounds_succ]
 go_wp2
 go_ret;exact⟨Z,b.o⟩
theorem td(w:p7):r9 r6 65 #[O V 0 0] w (ao r5 w):=by
 obtain⟨v,W,c,a⟩:=cZ 111 62 (by kernel_rfl) (by kernel_rfl) w;have b:=Hd a;clear a
 go_enter Tryz.func65,Tryz.ntmps65
 go_wp2
 refine wp_loop_rounds 1 ?_;rw[rounds_succ]
 go_wp2
 all_goals refine wp_loop_rounds 1 ?_
 all_goals rw[rounds_succ]
 go_wp2
 refine wp_loop_rounds 1 ?_;rw[rounds_succ]
 go_wp2
 refine wp_loop_rounds 1 ?_;rw[rounds_succ]
 go_wp2
 refine wp_loop_rounds 1 ?_;rw[rounds_succ]
 go_wp2
 go_ret;exact⟨Z,b.o⟩
