/- The statements of chapter 07 are awake; by contract. Condition: the library's tables lie as laid. (Printed by tools/genV.py.) -/
import Derived.Test.YtoekldhdojpceaaGreatDoorSSV
namespace Go.Proofs.YtoekldhdojpceaaGreatDoor
open Go.RowKit

def oneW : Tree := .mk 14 ⟨#[49]⟩ 0 0 []
def xW : Tree := .mk 13 ⟨#[120]⟩ 0 0 []
def aW : Tree := .mk 15 ⟨#[97]⟩ 0 0 []
def kidsW : List Tree := [(.mk 5 ⟨#[104, 105, 118, 101]⟩ 0 0 [xW, (.mk 14 ⟨#[45, 53]⟩ 0 0 [])]), (.mk 7 ⟨#[]⟩ 0 0 [(.mk 16 ⟨#[61]⟩ 0 0 [(.mk 16 ⟨#[110, 111, 116]⟩ 0 0 [(.mk 16 ⟨#[42]⟩ 0 0 [(.mk 16 ⟨#[43]⟩ 0 0 [oneW, oneW]), xW])]), oneW])]), (.mk 10 ⟨#[]⟩ 0 0 [(.mk 16 ⟨#[61]⟩ 0 0 [(.mk 16 ⟨#[61]⟩ 0 0 [oneW, oneW]), aW])])]
def ruleW0 : Tree := .mk 4 ⟨#[114]⟩ 0 0 kidsW
def ruleW : Tree := .mk 4 ⟨#[114]⟩ (-3) 0 kidsW
def zeroW : Tree := .mk 0 ⟨#[]⟩ 0 0 []
def wantW : ByteArray := ⟨#[114, 117, 108, 101, 32, 114, 32, 115, 97, 108, 105, 101, 110, 99, 101, 32, 45, 51, 32, 123, 32, 104, 105, 118, 101, 40, 63, 120, 44, 32, 45, 53, 41, 59, 32, 116, 101, 115, 116, 32, 110, 111, 116, 32, 40, 40, 49, 32, 43, 32, 49, 41, 32, 42, 32, 63, 120, 41, 32, 61, 32, 49, 59, 32, 61, 62, 32, 115, 97, 121, 32, 40, 49, 32, 61, 32, 49, 41, 32, 61, 32, 39, 97, 59, 32, 125, 10, 114, 117, 108, 101, 32, 113, 32, 123, 32, 61, 62, 32, 125, 10]⟩
def tyW2 : Nat → RTy
  | 0 => .node 0 xW
  | 1 => .node 0 (.mk 14 ⟨#[45, 53]⟩ 0 0 [])
  | 2 => .kids 1 [xW, (.mk 14 ⟨#[45, 53]⟩ 0 0 [])]
  | 3 => .node 1 (.mk 5 ⟨#[104, 105, 118, 101]⟩ 0 0 [xW, (.mk 14 ⟨#[45, 53]⟩ 0 0 [])])
  | 4 => .node 0 oneW
  | 5 => .node 0 oneW
  | 6 => .node 1 (.mk 16 ⟨#[43]⟩ 0 0 [oneW, oneW])
  | 7 => .node 0 xW
  | 8 => .node 2 (.mk 16 ⟨#[42]⟩ 0 0 [(.mk 16 ⟨#[43]⟩ 0 0 [oneW, oneW]), xW])
  | 9 => .kids 3 [(.mk 16 ⟨#[42]⟩ 0 0 [(.mk 16 ⟨#[43]⟩ 0 0 [oneW, oneW]), xW])]
  | 10 => .node 3 (.mk 16 ⟨#[110, 111, 116]⟩ 0 0 [(.mk 16 ⟨#[42]⟩ 0 0 [(.mk 16 ⟨#[43]⟩ 0 0 [oneW, oneW]), xW])])
  | 11 => .node 0 oneW
  | 12 => .node 4 (.mk 16 ⟨#[61]⟩ 0 0 [(.mk 16 ⟨#[110, 111, 116]⟩ 0 0 [(.mk 16 ⟨#[42]⟩ 0 0 [(.mk 16 ⟨#[43]⟩ 0 0 [oneW, oneW]), xW])]), oneW])
  | 13 => .kids 5 [(.mk 16 ⟨#[61]⟩ 0 0 [(.mk 16 ⟨#[110, 111, 116]⟩ 0 0 [(.mk 16 ⟨#[42]⟩ 0 0 [(.mk 16 ⟨#[43]⟩ 0 0 [oneW, oneW]), xW])]), oneW])]
  | 14 => .node 5 (.mk 7 ⟨#[]⟩ 0 0 [(.mk 16 ⟨#[61]⟩ 0 0 [(.mk 16 ⟨#[110, 111, 116]⟩ 0 0 [(.mk 16 ⟨#[42]⟩ 0 0 [(.mk 16 ⟨#[43]⟩ 0 0 [oneW, oneW]), xW])]), oneW])])
  | 15 => .node 0 oneW
  | 16 => .node 0 oneW
  | 17 => .node 1 (.mk 16 ⟨#[61]⟩ 0 0 [oneW, oneW])
  | 18 => .node 0 aW
  | 19 => .node 2 (.mk 16 ⟨#[61]⟩ 0 0 [(.mk 16 ⟨#[61]⟩ 0 0 [oneW, oneW]), aW])
  | 20 => .kids 3 [(.mk 16 ⟨#[61]⟩ 0 0 [(.mk 16 ⟨#[61]⟩ 0 0 [oneW, oneW]), aW])]
  | 21 => .node 3 (.mk 10 ⟨#[]⟩ 0 0 [(.mk 16 ⟨#[61]⟩ 0 0 [(.mk 16 ⟨#[61]⟩ 0 0 [oneW, oneW]), aW])])
  | 22 => .kids 6 [(.mk 5 ⟨#[104, 105, 118, 101]⟩ 0 0 [xW, (.mk 14 ⟨#[45, 53]⟩ 0 0 [])]), (.mk 7 ⟨#[]⟩ 0 0 [(.mk 16 ⟨#[61]⟩ 0 0 [(.mk 16 ⟨#[110, 111, 116]⟩ 0 0 [(.mk 16 ⟨#[42]⟩ 0 0 [(.mk 16 ⟨#[43]⟩ 0 0 [oneW, oneW]), xW])]), oneW])]), (.mk 10 ⟨#[]⟩ 0 0 [(.mk 16 ⟨#[61]⟩ 0 0 [(.mk 16 ⟨#[61]⟩ 0 0 [oneW, oneW]), aW])])]
  | 23 => .node 6 (.mk 4 ⟨#[114]⟩ 0 0 [(.mk 5 ⟨#[104, 105, 118, 101]⟩ 0 0 [xW, (.mk 14 ⟨#[45, 53]⟩ 0 0 [])]), (.mk 7 ⟨#[]⟩ 0 0 [(.mk 16 ⟨#[61]⟩ 0 0 [(.mk 16 ⟨#[110, 111, 116]⟩ 0 0 [(.mk 16 ⟨#[42]⟩ 0 0 [(.mk 16 ⟨#[43]⟩ 0 0 [oneW, oneW]), xW])]), oneW])]), (.mk 10 ⟨#[]⟩ 0 0 [(.mk 16 ⟨#[61]⟩ 0 0 [(.mk 16 ⟨#[61]⟩ 0 0 [oneW, oneW]), aW])])])
  | 24 => .box
  | _ => .raw
def tyW6 : Nat → RTy
  | 0 => .node 6 ruleW
  | 1 => .node 0 (.mk 4 ⟨#[113]⟩ 0 0 [])
  | 2 => .kids 7 [ruleW, (.mk 4 ⟨#[113]⟩ 0 0 [])]
  | 3 => .node 7 (.mk 1 ⟨#[]⟩ 0 0 [ruleW, (.mk 4 ⟨#[113]⟩ 0 0 [])])
  | 4 => .val (.string wantW)
  | 5 => .val (.bool true)
  | 6 => .val (.bool true)
  | 7 => .node 0 aW
  | 8 => .node 0 aW
  | 9 => .node 0 aW
  | 10 => .node 1 (.mk 16 ⟨#[45]⟩ 0 0 [aW, aW])
  | 11 => .node 2 (.mk 16 ⟨#[45]⟩ 0 0 [aW, (.mk 16 ⟨#[45]⟩ 0 0 [aW, aW])])
  | 12 => .node 5 (saysT (.mk 16 ⟨#[45]⟩ 0 0 [aW, (.mk 16 ⟨#[45]⟩ 0 0 [aW, aW])]))
  | 13 => .val (.bool true)
  | 14 => .val (.bool true)
  | 15 => .val (.bool true)
  | 16 => .node 0 aW
  | 17 => .node 0 aW
  | 18 => .node 1 (.mk 16 ⟨#[45]⟩ 0 0 [aW, aW])
  | 19 => .node 0 aW
  | 20 => .node 2 (.mk 16 ⟨#[45]⟩ 0 0 [(.mk 16 ⟨#[45]⟩ 0 0 [aW, aW]), aW])
  | 21 => .node 5 (saysT (.mk 16 ⟨#[45]⟩ 0 0 [(.mk 16 ⟨#[45]⟩ 0 0 [aW, aW]), aW]))
  | 22 => .val (.bool true)
  | 23 => .val (.bool true)
  | 24 => .val (.bool true)
  | 25 => .node 0 oneW
  | 26 => .kids 1 [oneW]
  | 27 => .node 1 (.mk 16 ⟨#[45]⟩ 0 0 [oneW])
  | 28 => .kids 2 [(.mk 16 ⟨#[45]⟩ 0 0 [oneW])]
  | 29 => .node 2 (.mk 16 ⟨#[45]⟩ 0 0 [(.mk 16 ⟨#[45]⟩ 0 0 [oneW])])
  | 30 => .node 5 (saysT (.mk 16 ⟨#[45]⟩ 0 0 [(.mk 16 ⟨#[45]⟩ 0 0 [oneW])]))
  | 31 => .val (.bool true)
  | 32 => .val (.bool true)
  | 33 => .val (.bool true)
  | 34 => .val (.int .i64 4)
  | 35 => .val (.bool true)
  | 36 => .val (.bool true)
  | _ => .raw
theorem frame78 (a : Act) (h : a.tmps.size = 78) (hd : a.defers = []) : ∃ y0 y1 y2 y3 y4 y5 y6 y7 y8 y9 y10 y11 y12 y13 y14 y15 y16 y17 y18 y19 y20 y21 y22 y23 y24 y25 y26 y27 y28 y29 y30 y31 y32 y33 y34 y35 y36 y37 y38 y39 y40 y41 y42 y43 y44 y45 y46 y47 y48 y49 y50 y51 y52 y53 y54 y55 y56 y57 y58 y59 y60 y61 y62 y63 y64 y65 y66 y67 y68 y69 y70 y71 y72 y73 y74 y75 y76 y77 : Value, a = ⟨#[y0, y1, y2, y3, y4, y5, y6, y7, y8, y9, y10, y11, y12, y13, y14, y15, y16, y17, y18, y19, y20, y21, y22, y23, y24, y25, y26, y27, y28, y29, y30, y31, y32, y33, y34, y35, y36, y37, y38, y39, y40, y41, y42, y43, y44, y45, y46, y47, y48, y49, y50, y51, y52, y53, y54, y55, y56, y57, y58, y59, y60, y61, y62, y63, y64, y65, y66, y67, y68, y69, y70, y71, y72, y73, y74, y75, y76, y77], []⟩ := by
  obtain ⟨⟨L⟩, D⟩ := a
  have hd' : D = [] := hd
  subst hd'
  have k0 : L.length = 78 := h
  clear h hd
  obtain ⟨y0, L0, rfl, k1⟩ := cons_of_len k0
  obtain ⟨y1, L1, rfl, k2⟩ := cons_of_len k1
  obtain ⟨y2, L2, rfl, k3⟩ := cons_of_len k2
  obtain ⟨y3, L3, rfl, k4⟩ := cons_of_len k3
  obtain ⟨y4, L4, rfl, k5⟩ := cons_of_len k4
  obtain ⟨y5, L5, rfl, k6⟩ := cons_of_len k5
  obtain ⟨y6, L6, rfl, k7⟩ := cons_of_len k6
  obtain ⟨y7, L7, rfl, k8⟩ := cons_of_len k7
  obtain ⟨y8, L8, rfl, k9⟩ := cons_of_len k8
  obtain ⟨y9, L9, rfl, k10⟩ := cons_of_len k9
  obtain ⟨y10, L10, rfl, k11⟩ := cons_of_len k10
  obtain ⟨y11, L11, rfl, k12⟩ := cons_of_len k11
  obtain ⟨y12, L12, rfl, k13⟩ := cons_of_len k12
  obtain ⟨y13, L13, rfl, k14⟩ := cons_of_len k13
  obtain ⟨y14, L14, rfl, k15⟩ := cons_of_len k14
  obtain ⟨y15, L15, rfl, k16⟩ := cons_of_len k15
  obtain ⟨y16, L16, rfl, k17⟩ := cons_of_len k16
  obtain ⟨y17, L17, rfl, k18⟩ := cons_of_len k17
  obtain ⟨y18, L18, rfl, k19⟩ := cons_of_len k18
  obtain ⟨y19, L19, rfl, k20⟩ := cons_of_len k19
  obtain ⟨y20, L20, rfl, k21⟩ := cons_of_len k20
  obtain ⟨y21, L21, rfl, k22⟩ := cons_of_len k21
  obtain ⟨y22, L22, rfl, k23⟩ := cons_of_len k22
  obtain ⟨y23, L23, rfl, k24⟩ := cons_of_len k23
  obtain ⟨y24, L24, rfl, k25⟩ := cons_of_len k24
  obtain ⟨y25, L25, rfl, k26⟩ := cons_of_len k25
  obtain ⟨y26, L26, rfl, k27⟩ := cons_of_len k26
  obtain ⟨y27, L27, rfl, k28⟩ := cons_of_len k27
  obtain ⟨y28, L28, rfl, k29⟩ := cons_of_len k28
  obtain ⟨y29, L29, rfl, k30⟩ := cons_of_len k29
  obtain ⟨y30, L30, rfl, k31⟩ := cons_of_len k30
  obtain ⟨y31, L31, rfl, k32⟩ := cons_of_len k31
  obtain ⟨y32, L32, rfl, k33⟩ := cons_of_len k32
  obtain ⟨y33, L33, rfl, k34⟩ := cons_of_len k33
  obtain ⟨y34, L34, rfl, k35⟩ := cons_of_len k34
  obtain ⟨y35, L35, rfl, k36⟩ := cons_of_len k35
  obtain ⟨y36, L36, rfl, k37⟩ := cons_of_len k36
  obtain ⟨y37, L37, rfl, k38⟩ := cons_of_len k37
  obtain ⟨y38, L38, rfl, k39⟩ := cons_of_len k38
  obtain ⟨y39, L39, rfl, k40⟩ := cons_of_len k39
  obtain ⟨y40, L40, rfl, k41⟩ := cons_of_len k40
  obtain ⟨y41, L41, rfl, k42⟩ := cons_of_len k41
  obtain ⟨y42, L42, rfl, k43⟩ := cons_of_len k42
  obtain ⟨y43, L43, rfl, k44⟩ := cons_of_len k43
  obtain ⟨y44, L44, rfl, k45⟩ := cons_of_len k44
  obtain ⟨y45, L45, rfl, k46⟩ := cons_of_len k45
  obtain ⟨y46, L46, rfl, k47⟩ := cons_of_len k46
  obtain ⟨y47, L47, rfl, k48⟩ := cons_of_len k47
  obtain ⟨y48, L48, rfl, k49⟩ := cons_of_len k48
  obtain ⟨y49, L49, rfl, k50⟩ := cons_of_len k49
  obtain ⟨y50, L50, rfl, k51⟩ := cons_of_len k50
  obtain ⟨y51, L51, rfl, k52⟩ := cons_of_len k51
  obtain ⟨y52, L52, rfl, k53⟩ := cons_of_len k52
  obtain ⟨y53, L53, rfl, k54⟩ := cons_of_len k53
  obtain ⟨y54, L54, rfl, k55⟩ := cons_of_len k54
  obtain ⟨y55, L55, rfl, k56⟩ := cons_of_len k55
  obtain ⟨y56, L56, rfl, k57⟩ := cons_of_len k56
  obtain ⟨y57, L57, rfl, k58⟩ := cons_of_len k57
  obtain ⟨y58, L58, rfl, k59⟩ := cons_of_len k58
  obtain ⟨y59, L59, rfl, k60⟩ := cons_of_len k59
  obtain ⟨y60, L60, rfl, k61⟩ := cons_of_len k60
  obtain ⟨y61, L61, rfl, k62⟩ := cons_of_len k61
  obtain ⟨y62, L62, rfl, k63⟩ := cons_of_len k62
  obtain ⟨y63, L63, rfl, k64⟩ := cons_of_len k63
  obtain ⟨y64, L64, rfl, k65⟩ := cons_of_len k64
  obtain ⟨y65, L65, rfl, k66⟩ := cons_of_len k65
  obtain ⟨y66, L66, rfl, k67⟩ := cons_of_len k66
  obtain ⟨y67, L67, rfl, k68⟩ := cons_of_len k67
  obtain ⟨y68, L68, rfl, k69⟩ := cons_of_len k68
  obtain ⟨y69, L69, rfl, k70⟩ := cons_of_len k69
  obtain ⟨y70, L70, rfl, k71⟩ := cons_of_len k70
  obtain ⟨y71, L71, rfl, k72⟩ := cons_of_len k71
  obtain ⟨y72, L72, rfl, k73⟩ := cons_of_len k72
  obtain ⟨y73, L73, rfl, k74⟩ := cons_of_len k73
  obtain ⟨y74, L74, rfl, k75⟩ := cons_of_len k74
  obtain ⟨y75, L75, rfl, k76⟩ := cons_of_len k75
  obtain ⟨y76, L76, rfl, k77⟩ := cons_of_len k76
  obtain ⟨y77, L77, rfl, k78⟩ := cons_of_len k77
  obtain rfl : L77 = [] := List.eq_nil_of_length_eq_zero k78
  exact ⟨y0, y1, y2, y3, y4, y5, y6, y7, y8, y9, y10, y11, y12, y13, y14, y15, y16, y17, y18, y19, y20, y21, y22, y23, y24, y25, y26, y27, y28, y29, y30, y31, y32, y33, y34, y35, y36, y37, y38, y39, y40, y41, y42, y43, y44, y45, y46, y47, y48, y49, y50, y51, y52, y53, y54, y55, y56, y57, y58, y59, y60, y61, y62, y63, y64, y65, y66, y67, y68, y69, y70, y71, y72, y73, y74, y75, y76, y77, rfl⟩
theorem old7 {l : List Oper} {t : Nat} (h : (l.all fun o' => decide (o'.dst ≠ some t)) = true) : ∀ (j : Nat) (o' : Oper), l[j]? = some o' → o'.dst ≠ some t := fun j o' hj => by
  have := List.all_eq_true.1 h o' (List.mem_of_getElem? hj)
  simpa using this
set_option maxRecDepth 100000 in
set_option maxHeartbeats 8000000 in
theorem awake7_any (w : World) (ha : AsciiTab w) (ht : Lib.TabIs Tryz.prog w "internal/strconv.uint64pow10" .u64 Lib.pow10Tab) : Calls Tryz.prog 28 #[] w (BoolPost true w) := by
  have HA := Lib.hid ha
  have HTb := Lib.hid (pow_here ht)
  clear ha ht
  go_enter Tryz.func28, Tryz.ntmps28
  go_wp2_with fail
  refine Calls.mono (law7of_any 14 ⟨#[49]⟩ none 0 0 _) ?_
  rintro e w1 ⟨rfl, hb1⟩
  go_wp2_with fail
  refine Calls.mono (law7of_any 13 ⟨#[120]⟩ none 0 0 _) ?_
  rintro e w2 ⟨rfl, hb2⟩
  go_wp2_with fail
  refine Calls.mono (law7of_any 15 ⟨#[97]⟩ none 0 0 _) ?_
  rintro e w3 ⟨rfl, hb3⟩
  go_wp2_with fail
  obtain ⟨w4, hw4⟩ : ∃ w4, w4 = ((w3.alloc (.cells #[.int .u8 14, .string ⟨#[49]⟩, .int .i64 0, .int .i64 0, .slice none 0 0] 25)).alloc (.cells #[.int .u8 13, .string ⟨#[120]⟩, .int .i64 0, .int .i64 0, .slice none 0 0] 25)).alloc (.cells #[.int .u8 15, .string ⟨#[97]⟩, .int .i64 0, .int .i64 0, .slice none 0 0] 25) := ⟨_, rfl⟩
  obtain ⟨Y1, Y2, YB⟩ := heap_two w3 (.cells #[.int .u8 14, .string ⟨#[49]⟩, .int .i64 0, .int .i64 0, .slice none 0 0] 25) (.cells #[.int .u8 13, .string ⟨#[120]⟩, .int .i64 0, .int .i64 0, .slice none 0 0] 25)
  have hsz2 : ((w3.alloc (.cells #[.int .u8 14, .string ⟨#[49]⟩, .int .i64 0, .int .i64 0, .slice none 0 0] 25)).alloc (.cells #[.int .u8 13, .string ⟨#[120]⟩, .int .i64 0, .int .i64 0, .slice none 0 0] 25)).heap.size = w3.heap.size + 1 + 1 := by simp
  have h1 : BoxAt w4 w3.heap.size 0 oneW := ⟨.slice none 0 0, by rw [hw4]; exact (Below.heap_alloc _ _ _ (by rw [hsz2]; omega)).trans Y1, ⟨fits_lit 14 ⟨#[49]⟩ [] rfl, _, rfl, KidsAt.nil _ _ _⟩⟩
  have h2 : BoxAt w4 (w3.heap.size + 1) 0 xW := ⟨.slice none 0 0, by rw [hw4]; exact (Below.heap_alloc _ _ _ (by rw [hsz2]; omega)).trans Y2, ⟨fits_lit 13 ⟨#[120]⟩ [] rfl, _, rfl, KidsAt.nil _ _ _⟩⟩
  have h3 : BoxAt w4 (w3.heap.size + 1 + 1) 0 aW := ⟨.slice none 0 0, by rw [hw4, ← hsz2]; exact heap_alloc_new _ _, ⟨fits_lit 15 ⟨#[97]⟩ [] rfl, _, rfl, KidsAt.nil _ _ _⟩⟩
  have hb4 : Below w3.heap.size w3 w4 := by rw [hw4]; exact YB.alloc (by rw [hsz2]; omega) _
  have hb14 := hb1.trans (hb2.mono hb1.size)
  have hb34 := hb14.trans (hb3.mono hb14.size)
  have HB4 := Lib.hid (hb34.trans (hb4.mono hb34.size))
  have H1 := Lib.hid h1
  have H2 := Lib.hid h2
  have H3 := Lib.hid h3
  clear h1 h2 h3 Y1 Y2 YB hb1 hb2 hb3 hb4 hb14 hb34 hsz2
  rw [← hw4]
  clear hw4
  obtain ⟨s1, h11, h12⟩ := H1.out
  obtain ⟨s2, h21, h22⟩ := H2.out
  obtain ⟨s3, h31, h32⟩ := H3.out
  refine wp_region_typed (by kernel_rfl) tyW2 78 rfl (by kernel_rfl) (by kernel_rfl) (by kernel_rfl) (by decide) (hop_list ?_) ?_
  · refine allOps_cons (opTy_load 2 _ 0 xW s2 rfl (by kernel_rfl) rfl h21 h22 rfl) ?_
    refine allOps_cons (opW_of 14 ⟨#[45, 53]⟩ _ _ 0 [] rfl (Or.inl ⟨rfl, rfl⟩) rfl rfl) ?_
    refine allOps_cons (opTy_build2 _ _ _ _ 0 rfl ⟨⟨0, by decide, 0, _, _, rfl, by kernel_rfl, rfl, rfl, rfl⟩, ⟨0, by decide, 1, _, _, rfl, by kernel_rfl, rfl, rfl, rfl⟩, trivial⟩ rfl) ?_
    refine allOps_cons (opW_of 5 ⟨#[104, 105, 118, 101]⟩ _ _ 1 [xW, (.mk 14 ⟨#[45, 53]⟩ 0 0 [])] rfl (Or.inr ⟨2, _, _, rfl, by kernel_rfl, rfl, rfl, rfl⟩) rfl rfl) ?_
    refine allOps_cons (opTy_load 1 _ 0 oneW s1 rfl (by kernel_rfl) rfl h11 h12 rfl) ?_
    refine allOps_cons (opTy_load 1 _ 0 oneW s1 rfl (by kernel_rfl) rfl h11 h12 rfl) ?_
    refine allOps_cons (opW_two ⟨#[43]⟩ _ _ _ 0 0 0 oneW oneW rfl ⟨4, _, _, rfl, by kernel_rfl, rfl, rfl, rfl⟩ ⟨5, _, _, rfl, by kernel_rfl, rfl, rfl, rfl⟩ (by decide) (by decide) rfl (by kernel_rfl) rfl) ?_
    refine allOps_cons (opTy_load 2 _ 0 xW s2 rfl (by kernel_rfl) rfl h21 h22 rfl) ?_
    refine allOps_cons (opW_two ⟨#[42]⟩ _ _ _ 1 1 0 (.mk 16 ⟨#[43]⟩ 0 0 [oneW, oneW]) xW rfl ⟨6, _, _, rfl, by kernel_rfl, rfl, rfl, rfl⟩ ⟨7, _, _, rfl, by kernel_rfl, rfl, rfl, rfl⟩ (by decide) (by decide) rfl (by kernel_rfl) rfl) ?_
    refine allOps_cons (opTy_build1 _ _ 2 rfl ⟨⟨2, by decide, 8, _, _, rfl, by kernel_rfl, rfl, rfl, rfl⟩, trivial⟩ rfl) ?_
    refine allOps_cons (opW_of 16 ⟨#[110, 111, 116]⟩ _ _ 3 [(.mk 16 ⟨#[42]⟩ 0 0 [(.mk 16 ⟨#[43]⟩ 0 0 [oneW, oneW]), xW])] rfl (Or.inr ⟨9, _, _, rfl, by kernel_rfl, rfl, rfl, rfl⟩) rfl rfl) ?_
    refine allOps_cons (opTy_load 1 _ 0 oneW s1 rfl (by kernel_rfl) rfl h11 h12 rfl) ?_
    refine allOps_cons (opW_two ⟨#[61]⟩ _ _ _ 3 3 0 (.mk 16 ⟨#[110, 111, 116]⟩ 0 0 [(.mk 16 ⟨#[42]⟩ 0 0 [(.mk 16 ⟨#[43]⟩ 0 0 [oneW, oneW]), xW])]) oneW rfl ⟨10, _, _, rfl, by kernel_rfl, rfl, rfl, rfl⟩ ⟨11, _, _, rfl, by kernel_rfl, rfl, rfl, rfl⟩ (by decide) (by decide) rfl (by kernel_rfl) rfl) ?_
    refine allOps_cons (opTy_build1 _ _ 4 rfl ⟨⟨4, by decide, 12, _, _, rfl, by kernel_rfl, rfl, rfl, rfl⟩, trivial⟩ rfl) ?_
    refine allOps_cons (opW_of 7 ⟨#[]⟩ _ _ 5 [(.mk 16 ⟨#[61]⟩ 0 0 [(.mk 16 ⟨#[110, 111, 116]⟩ 0 0 [(.mk 16 ⟨#[42]⟩ 0 0 [(.mk 16 ⟨#[43]⟩ 0 0 [oneW, oneW]), xW])]), oneW])] rfl (Or.inr ⟨13, _, _, rfl, by kernel_rfl, rfl, rfl, rfl⟩) rfl rfl) ?_
    refine allOps_cons (opTy_load 1 _ 0 oneW s1 rfl (by kernel_rfl) rfl h11 h12 rfl) ?_
    refine allOps_cons (opTy_load 1 _ 0 oneW s1 rfl (by kernel_rfl) rfl h11 h12 rfl) ?_
    refine allOps_cons (opW_two ⟨#[61]⟩ _ _ _ 0 0 0 oneW oneW rfl ⟨15, _, _, rfl, by kernel_rfl, rfl, rfl, rfl⟩ ⟨16, _, _, rfl, by kernel_rfl, rfl, rfl, rfl⟩ (by decide) (by decide) rfl (by kernel_rfl) rfl) ?_
    refine allOps_cons (opTy_load 3 _ 0 aW s3 rfl (by kernel_rfl) rfl h31 h32 rfl) ?_
    refine allOps_cons (opW_two ⟨#[61]⟩ _ _ _ 1 1 0 (.mk 16 ⟨#[61]⟩ 0 0 [oneW, oneW]) aW rfl ⟨17, _, _, rfl, by kernel_rfl, rfl, rfl, rfl⟩ ⟨18, _, _, rfl, by kernel_rfl, rfl, rfl, rfl⟩ (by decide) (by decide) rfl (by kernel_rfl) rfl) ?_
    refine allOps_cons (opTy_build1 _ _ 2 rfl ⟨⟨2, by decide, 19, _, _, rfl, by kernel_rfl, rfl, rfl, rfl⟩, trivial⟩ rfl) ?_
    refine allOps_cons (opW_of 10 ⟨#[]⟩ _ _ 3 [(.mk 16 ⟨#[61]⟩ 0 0 [(.mk 16 ⟨#[61]⟩ 0 0 [oneW, oneW]), aW])] rfl (Or.inr ⟨20, _, _, rfl, by kernel_rfl, rfl, rfl, rfl⟩) rfl rfl) ?_
    refine allOps_cons (opTy_build3 _ _ _ _ _ _ 5 rfl ⟨⟨1, by decide, 3, _, _, rfl, by kernel_rfl, rfl, rfl, rfl⟩, ⟨5, by decide, 14, _, _, rfl, by kernel_rfl, rfl, rfl, rfl⟩, ⟨3, by decide, 21, _, _, rfl, by kernel_rfl, rfl, rfl, rfl⟩, trivial⟩ rfl) ?_
    refine allOps_cons (opW_of 4 ⟨#[114]⟩ _ _ 6 [(.mk 5 ⟨#[104, 105, 118, 101]⟩ 0 0 [xW, (.mk 14 ⟨#[45, 53]⟩ 0 0 [])]), (.mk 7 ⟨#[]⟩ 0 0 [(.mk 16 ⟨#[61]⟩ 0 0 [(.mk 16 ⟨#[110, 111, 116]⟩ 0 0 [(.mk 16 ⟨#[42]⟩ 0 0 [(.mk 16 ⟨#[43]⟩ 0 0 [oneW, oneW]), xW])]), oneW])]), (.mk 10 ⟨#[]⟩ 0 0 [(.mk 16 ⟨#[61]⟩ 0 0 [(.mk 16 ⟨#[61]⟩ 0 0 [oneW, oneW]), aW])])] rfl (Or.inr ⟨22, _, _, rfl, by kernel_rfl, rfl, rfl, rfl⟩) rfl rfl) ?_
    refine allOps_cons (opTy_alloc rfl rfl) ?_
    exact allOps_one
  · intro o a W ho hbW hd hsz hold hv
    have ho' := Option.some.inj ho
    subst ho'
    obtain ⟨g4, hg4, hL4, hW4⟩ := hv 24 _ 4 (by decide) rfl rfl
    obtain ⟨hfs, ss, hs34, hks⟩ := hv 23 _ 34 (by decide) rfl rfl
    have o0 := hold 0 (old7 (by kernel_rfl))
    have o1 := hold 1 (old7 (by kernel_rfl))
    have o2 := hold 2 (old7 (by kernel_rfl))
    have o3 := hold 3 (old7 (by kernel_rfl))
    obtain ⟨y0, y1, y2, y3, y4, y5, y6, y7, y8, y9, y10, y11, y12, y13, y14, y15, y16, y17, y18, y19, y20, y21, y22, y23, y24, y25, y26, y27, y28, y29, y30, y31, y32, y33, y34, y35, y36, y37, y38, y39, y40, y41, y42, y43, y44, y45, y46, y47, y48, y49, y50, y51, y52, y53, y54, y55, y56, y57, y58, y59, y60, y61, y62, y63, y64, y65, y66, y67, y68, y69, y70, y71, y72, y73, y74, y75, y76, y77, rfl⟩ := frame78 a hsz hd
    obtain rfl : y0 = _ := o0
    obtain rfl : y1 = _ := o1
    obtain rfl : y2 = _ := o2
    obtain rfl : y3 = _ := o3
    obtain rfl : y4 = _ := hg4
    obtain rfl : y34 = _ := hs34
    obtain ⟨p4, n4, c4, rfl⟩ := hks.shape
    clear ho hd hsz hold hv h11 h12 h21 h22 h31 h32
    obtain ⟨z0, z1, z2, z3, z4⟩ := cells5 hW4
    have q0 := frozen5 hW4 0
    have q1 := frozen5 hW4 1
    have q2 := frozen5 hW4 2
    have q3 := frozen5 hW4 3
    have q4 := frozen5 hW4 4
    have hoth : ∀ b, b ≠ g4 → ((storeNode W g4 (.int .u8 ruleW0.kind) (.string ruleW0.text) (.int .i64 ruleW0.num) (.int .i64 ruleW0.place) (.slice p4 n4 c4)).setCell ⟨g4, 2, none⟩ (.int .i64 (-3))).heap[b]? = W.heap[b]? := fun b hb =>
      (Below.heap_setCell _ ⟨g4, 2, none⟩ _ b hb).trans (storeNode_other _ _ _ _ _ b hb)
    have hsame : ((storeNode W g4 (.int .u8 ruleW0.kind) (.string ruleW0.text) (.int .i64 ruleW0.num) (.int .i64 ruleW0.place) (.slice p4 n4 c4)).setCell ⟨g4, 2, none⟩ (.int .i64 (-3))).heap.size = W.heap.size := by
      simp [storeNode, World.setCell]
    have hfl : Fits ruleW := ⟨by decide, by show (1 : Nat) ≤ maxLen; unfold maxLen; omega, by show -9223372036854775808 ≤ (-3 : Int); omega, by show (-3 : Int) < _; omega, by show -9223372036854775808 ≤ (0 : Int); omega, by show (0 : Int) < _; omega⟩
    have H4 := Lib.hid (box_gen (T := ruleW) (d := 6) hW4 hfl hks (by kernel_rfl) hoth hsame (heap_set (storeNode_at hW4 _ _ _ _ _) 2 (.int .i64 (-3))))
    have hl1 := H1.out.lt
    have hl3 := H3.out.lt
    have keep : ∀ {g : Nat} {T : Tree}, BoxAt w4 g 0 T → g < w4.heap.size → kindsB 0 T.kids = true → BoxAt ((storeNode W g4 (.int .u8 ruleW0.kind) (.string ruleW0.text) (.int .i64 ruleW0.num) (.int .i64 ruleW0.place) (.slice p4 n4 c4)).setCell ⟨g4, 2, none⟩ (.int .i64 (-3))) g 0 T := fun {g T} hx hl hkb => by
      obtain ⟨s, k1, kf, s', k2, kk⟩ := hx.below hbW
      refine ⟨s, (hoth g (by omega)).trans k1, kf, s', k2, ?_⟩
      rw [hsame]
      exact KidsAt.stored hW4 hoth hkb kk
    have H14 := Lib.hid (keep H1.out hl1 rfl)
    have H34 := Lib.hid (keep H3.out hl3 rfl)
    have HB5 := Lib.hid ((storeNode_below (HB4.out.trans (hbW.mono HB4.out.size)) (Nat.le_trans HB4.out.size hL4) (.int .u8 ruleW0.kind) (.string ruleW0.text) (.int .i64 ruleW0.num) (.int .i64 ruleW0.place) (.slice p4 n4 c4)).setCell (p := ⟨g4, 2, none⟩) (Nat.le_trans HB4.out.size hL4) (.int .i64 (-3)))
    clear hoth hsame hfl keep hW4 hfs hks hbW hl1 hl3
    go_upto_region 5 with fail
    change Code.wp _ _ _ _ ((storeNode W g4 (.int .u8 ruleW0.kind) (.string ruleW0.text) (.int .i64 ruleW0.num) (.int .i64 ruleW0.place) (.slice p4 n4 c4)).setCell ⟨g4, 2, none⟩ (.int .i64 (-3)))
    clear z0 z1 z2 z3 z4 q0 q1 q2 q3 q4
    generalize ((storeNode W g4 (.int .u8 ruleW0.kind) (.string ruleW0.text) (.int .i64 ruleW0.num) (.int .i64 ruleW0.place) (.slice p4 n4 c4)).setCell ⟨g4, 2, none⟩ (.int .i64 (-3))) = w5 at *
    have HS := Lib.hid (sprog_any 0 zeroW (.agg #[.int .u8 0, .string ⟨#[]⟩, .int .i64 0, .int .i64 0, .slice none 0 0]) w5.heap.size w5 ⟨fits_lit 0 ⟨#[]⟩ [] rfl, _, rfl, KidsAt.nil _ _ _⟩ (Nat.le_refl _) (slim_of_b _ _ (by kernel_rfl)) (HA.out.below HB5.out) (HTb.out w5 HB5.out))
    rw [show showM 0 zeroW = (mkS [], 4) by kernel_rfl] at HS
    go_wp2_with fail
    refine Calls.mono HS.out ?_
    rintro e w6 ⟨rfl, hb6⟩
    have HB6 := Lib.hid (HB5.out.trans (hb6.mono HB5.out.size))
    have H16 := Lib.hid (H14.out.below hb6)
    have H36 := Lib.hid (H34.out.below hb6)
    have H46 := Lib.hid (H4.out.below hb6)
    have HA6 := Lib.hid (HA.out.below HB6.out)
    have HT6 : Hid (PowTab w6.heap.size w6) := fun w' hw' => HTb.out w' (HB6.out.trans (hw'.mono HB6.out.size))
    clear hb6
    go_wp2_with fail
    obtain ⟨s1, h11, h12⟩ := H16.out
    obtain ⟨s3, h31, h32⟩ := H36.out
    obtain ⟨s4, h41, h42⟩ := H46.out
    refine wp_region_typed (by kernel_rfl) tyW6 78 rfl (by kernel_rfl) (by kernel_rfl) (by kernel_rfl) (by decide) (hop_list ?_) ?_
    · refine allOps_cons (opTy_load 4 _ 6 ruleW s4 rfl (by kernel_rfl) rfl h41 h42 rfl) ?_
      refine allOps_cons (opW_of 4 ⟨#[113]⟩ _ _ 0 [] rfl (Or.inl ⟨rfl, rfl⟩) rfl rfl) ?_
      refine allOps_cons (opTy_build2 _ _ _ _ 6 rfl ⟨⟨6, by decide, 0, _, _, rfl, by kernel_rfl, rfl, rfl, rfl⟩, ⟨0, by decide, 1, _, _, rfl, by kernel_rfl, rfl, rfl, rfl⟩, trivial⟩ rfl) ?_
      refine allOps_cons (opW_of 1 ⟨#[]⟩ _ _ 7 [ruleW, (.mk 4 ⟨#[113]⟩ 0 0 [])] rfl (Or.inr ⟨2, _, _, rfl, by kernel_rfl, rfl, rfl, rfl⟩) rfl rfl) ?_
      refine allOps_cons (opW_old 5 _ rfl (by kernel_rfl) rfl rfl) ?_
      refine allOps_cons (opW_shown _ _ _ 4 (.mk 1 ⟨#[]⟩ 0 0 [ruleW, (.mk 4 ⟨#[113]⟩ 0 0 [])]) wantW rfl HA6.out HT6.out ⟨3, _, _, rfl, by kernel_rfl, rfl, rfl, rfl⟩ (Or.inr ⟨4, _, _, rfl, by kernel_rfl, rfl, rfl, rfl⟩) (by kernel_rfl) (by kernel_rfl) rfl) ?_
      refine allOps_cons (opTy_move _ _ rfl ⟨5, _, _, rfl, by kernel_rfl, rfl, rfl, rfl⟩ rfl) ?_
      refine allOps_cons (opTy_load 3 _ 0 aW s3 rfl (by kernel_rfl) rfl h31 h32 rfl) ?_
      refine allOps_cons (opTy_load 3 _ 0 aW s3 rfl (by kernel_rfl) rfl h31 h32 rfl) ?_
      refine allOps_cons (opTy_load 3 _ 0 aW s3 rfl (by kernel_rfl) rfl h31 h32 rfl) ?_
      refine allOps_cons (opW_two ⟨#[45]⟩ _ _ _ 0 0 0 aW aW rfl ⟨8, _, _, rfl, by kernel_rfl, rfl, rfl, rfl⟩ ⟨9, _, _, rfl, by kernel_rfl, rfl, rfl, rfl⟩ (by decide) (by decide) rfl (by kernel_rfl) rfl) ?_
      refine allOps_cons (opW_two ⟨#[45]⟩ _ _ _ 1 0 1 aW (.mk 16 ⟨#[45]⟩ 0 0 [aW, aW]) rfl ⟨7, _, _, rfl, by kernel_rfl, rfl, rfl, rfl⟩ ⟨10, _, _, rfl, by kernel_rfl, rfl, rfl, rfl⟩ (by decide) (by decide) rfl (by kernel_rfl) rfl) ?_
      refine allOps_cons (opW_says _ _ 2 (.mk 16 ⟨#[45]⟩ 0 0 [aW, (.mk 16 ⟨#[45]⟩ 0 0 [aW, aW])]) rfl ⟨11, _, _, rfl, by kernel_rfl, rfl, rfl, rfl⟩ (by kernel_rfl) rfl) ?_
      refine allOps_cons (opW_shown _ _ _ 2 (saysT (.mk 16 ⟨#[45]⟩ 0 0 [aW, (.mk 16 ⟨#[45]⟩ 0 0 [aW, aW])])) ⟨#[114, 117, 108, 101, 32, 114, 32, 123, 32, 61, 62, 32, 115, 97, 121, 32, 39, 97, 32, 45, 32, 40, 39, 97, 32, 45, 32, 39, 97, 41, 59, 32, 125, 10]⟩ rfl HA6.out HT6.out ⟨12, _, _, rfl, by kernel_rfl, rfl, rfl, rfl⟩ (Or.inl rfl) (by kernel_rfl) (by kernel_rfl) rfl) ?_
      refine allOps_cons (opTy_pick _ _ _ _ rfl ⟨6, _, _, rfl, by kernel_rfl, rfl, rfl, rfl⟩ ⟨13, _, _, rfl, by kernel_rfl, rfl, rfl, rfl⟩ rfl) ?_
      refine allOps_cons (opTy_move _ _ rfl ⟨14, _, _, rfl, by kernel_rfl, rfl, rfl, rfl⟩ rfl) ?_
      refine allOps_cons (opTy_load 3 _ 0 aW s3 rfl (by kernel_rfl) rfl h31 h32 rfl) ?_
      refine allOps_cons (opTy_load 3 _ 0 aW s3 rfl (by kernel_rfl) rfl h31 h32 rfl) ?_
      refine allOps_cons (opW_two ⟨#[45]⟩ _ _ _ 0 0 0 aW aW rfl ⟨16, _, _, rfl, by kernel_rfl, rfl, rfl, rfl⟩ ⟨17, _, _, rfl, by kernel_rfl, rfl, rfl, rfl⟩ (by decide) (by decide) rfl (by kernel_rfl) rfl) ?_
      refine allOps_cons (opTy_load 3 _ 0 aW s3 rfl (by kernel_rfl) rfl h31 h32 rfl) ?_
      refine allOps_cons (opW_two ⟨#[45]⟩ _ _ _ 1 1 0 (.mk 16 ⟨#[45]⟩ 0 0 [aW, aW]) aW rfl ⟨18, _, _, rfl, by kernel_rfl, rfl, rfl, rfl⟩ ⟨19, _, _, rfl, by kernel_rfl, rfl, rfl, rfl⟩ (by decide) (by decide) rfl (by kernel_rfl) rfl) ?_
      refine allOps_cons (opW_says _ _ 2 (.mk 16 ⟨#[45]⟩ 0 0 [(.mk 16 ⟨#[45]⟩ 0 0 [aW, aW]), aW]) rfl ⟨20, _, _, rfl, by kernel_rfl, rfl, rfl, rfl⟩ (by kernel_rfl) rfl) ?_
      refine allOps_cons (opW_shown _ _ _ 2 (saysT (.mk 16 ⟨#[45]⟩ 0 0 [(.mk 16 ⟨#[45]⟩ 0 0 [aW, aW]), aW])) ⟨#[114, 117, 108, 101, 32, 114, 32, 123, 32, 61, 62, 32, 115, 97, 121, 32, 39, 97, 32, 45, 32, 39, 97, 32, 45, 32, 39, 97, 59, 32, 125, 10]⟩ rfl HA6.out HT6.out ⟨21, _, _, rfl, by kernel_rfl, rfl, rfl, rfl⟩ (Or.inl rfl) (by kernel_rfl) (by kernel_rfl) rfl) ?_
      refine allOps_cons (opTy_pick _ _ _ _ rfl ⟨15, _, _, rfl, by kernel_rfl, rfl, rfl, rfl⟩ ⟨22, _, _, rfl, by kernel_rfl, rfl, rfl, rfl⟩ rfl) ?_
      refine allOps_cons (opTy_move _ _ rfl ⟨23, _, _, rfl, by kernel_rfl, rfl, rfl, rfl⟩ rfl) ?_
      refine allOps_cons (opTy_load 1 _ 0 oneW s1 rfl (by kernel_rfl) rfl h11 h12 rfl) ?_
      refine allOps_cons (opTy_build1 _ _ 0 rfl ⟨⟨0, by decide, 25, _, _, rfl, by kernel_rfl, rfl, rfl, rfl⟩, trivial⟩ rfl) ?_
      refine allOps_cons (opW_of 16 ⟨#[45]⟩ _ _ 1 [oneW] rfl (Or.inr ⟨26, _, _, rfl, by kernel_rfl, rfl, rfl, rfl⟩) rfl rfl) ?_
      refine allOps_cons (opTy_build1 _ _ 1 rfl ⟨⟨1, by decide, 27, _, _, rfl, by kernel_rfl, rfl, rfl, rfl⟩, trivial⟩ rfl) ?_
      refine allOps_cons (opW_of 16 ⟨#[45]⟩ _ _ 2 [(.mk 16 ⟨#[45]⟩ 0 0 [oneW])] rfl (Or.inr ⟨28, _, _, rfl, by kernel_rfl, rfl, rfl, rfl⟩) rfl rfl) ?_
      refine allOps_cons (opW_says _ _ 2 (.mk 16 ⟨#[45]⟩ 0 0 [(.mk 16 ⟨#[45]⟩ 0 0 [oneW])]) rfl ⟨29, _, _, rfl, by kernel_rfl, rfl, rfl, rfl⟩ (by kernel_rfl) rfl) ?_
      refine allOps_cons (opW_shown _ _ _ 2 (saysT (.mk 16 ⟨#[45]⟩ 0 0 [(.mk 16 ⟨#[45]⟩ 0 0 [oneW])])) ⟨#[114, 117, 108, 101, 32, 114, 32, 123, 32, 61, 62, 32, 115, 97, 121, 32, 45, 45, 49, 59, 32, 125, 10]⟩ rfl HA6.out HT6.out ⟨30, _, _, rfl, by kernel_rfl, rfl, rfl, rfl⟩ (Or.inl rfl) (by kernel_rfl) (by kernel_rfl) rfl) ?_
      refine allOps_cons (opTy_pick _ _ _ _ rfl ⟨24, _, _, rfl, by kernel_rfl, rfl, rfl, rfl⟩ ⟨31, _, _, rfl, by kernel_rfl, rfl, rfl, rfl⟩ rfl) ?_
      refine allOps_cons (opTy_move _ _ rfl ⟨32, _, _, rfl, by kernel_rfl, rfl, rfl, rfl⟩ rfl) ?_
      refine allOps_cons (opW_old 7 _ rfl (by kernel_rfl) rfl rfl) ?_
      refine allOps_cons (opTy_eql _ _ _ 4 4 true rfl ⟨34, _, _, rfl, by kernel_rfl, rfl, rfl, rfl⟩ (by kernel_rfl) rfl) ?_
      refine allOps_cons (opTy_pick _ _ _ _ rfl ⟨33, _, _, rfl, by kernel_rfl, rfl, rfl, rfl⟩ ⟨35, _, _, rfl, by kernel_rfl, rfl, rfl, rfl⟩ rfl) ?_
      exact allOps_one
    · intro o a W7 ho hbW hd hsz hold hv
      have ho' := Option.some.inj ho
      subst ho'
      have h77 := hv 36 _ 77 (by decide) rfl rfl
      obtain ⟨y0, y1, y2, y3, y4, y5, y6, y7, y8, y9, y10, y11, y12, y13, y14, y15, y16, y17, y18, y19, y20, y21, y22, y23, y24, y25, y26, y27, y28, y29, y30, y31, y32, y33, y34, y35, y36, y37, y38, y39, y40, y41, y42, y43, y44, y45, y46, y47, y48, y49, y50, y51, y52, y53, y54, y55, y56, y57, y58, y59, y60, y61, y62, y63, y64, y65, y66, y67, y68, y69, y70, y71, y72, y73, y74, y75, y76, y77, rfl⟩ := frame78 a hsz hd
      obtain rfl : y77 = _ := h77
      have HBd := Lib.hid (HB6.out.trans (hbW.mono HB6.out.size))
      clear ho hd hsz hold hv h11 h12 h31 h32 h41 h42 hbW
      go_wp2_with fail
      go_ret
      exact ⟨rfl, HBd.out⟩
end Go.Proofs.YtoekldhdojpceaaGreatDoor
