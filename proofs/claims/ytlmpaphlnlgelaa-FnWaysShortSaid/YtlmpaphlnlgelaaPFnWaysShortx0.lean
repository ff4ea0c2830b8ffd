import Derived.Test.YtlmpaphlnlgelaaProg
import Derived.Test.YtlmpaphlnlgelaaA30
import Derived.Test.YtlmpaphlnlgelaaQ1
import Derived.Test.YtlmpaphlnlgelaaShelf
set_option linter.unusedVariables false
set_option linter.unusedSimpArgs false
set_option maxRecDepth 100000
namespace Go.Proofs.Ytlmpaphlnlgelaa.PFnWaysShort
open Go Go.RowKit Go.Proofs.YtlmpaphlnlgelaaA
theorem hM : Try.prog.follows .mixedOrders = true := by kernel_rfl
structure S70 where
 f0 : Int
 f1 : Int
def z70 : S70 := ⟨(0 : Int), (0 : Int)⟩
def e70 (x : S70) : AV := .agg [.lit (.int .i64 x.f0), .lit (.int .i64 x.f1)]
def rd_T70 (l : List S70) (i : Int) : S70 := l.getD i.toNat z70
theorem fl70 {l : List S70} : flatL (l.map e70) := flE fun x lv h => by
  simp only [e70, AV.leaves, List.mem_cons, List.not_mem_nil, or_false] at h
  rcases h with rfl | rfl
  all_goals exact ⟨_, rfl⟩
structure S94 where
 f0 : Int
 f1 : S70
 f2 : Int
 f3 : S70
def z94 : S94 := ⟨(0 : Int), z70, (0 : Int), z70⟩
def e94 (x : S94) : AV := .agg [.lit (.int .i64 x.f0), .lit (.int .i64 x.f1.f0), .lit (.int .i64 x.f1.f1), .lit (.int .i64 x.f2), .lit (.int .i64 x.f3.f0), .lit (.int .i64 x.f3.f1)]
def rd_T94 (l : List S94) (i : Int) : S94 := l.getD i.toNat z94
theorem fl94 {l : List S94} : flatL (l.map e94) := flE fun x lv h => by
  simp only [e94, AV.leaves, List.mem_cons, List.not_mem_nil, or_false] at h
  rcases h with rfl | rfl | rfl | rfl | rfl | rfl
  all_goals exact ⟨_, rfl⟩
structure S67 where
 f0 : List Int
 f1 : List S94
 f2 : Int
 f3 : Int
def z67 : S67 := ⟨([] : List Int), ([] : List S94), (0 : Int), (0 : Int)⟩
def e67 (x : S67) : AV := .agg [.sl .n 1 (x.f0.map (eI .i64)), .sl .n 6 (x.f1.map e94), .lit (.int .i64 x.f2), .lit (.int .i64 x.f3)]
def rd_T67 (l : List S67) (i : Int) : S67 := l.getD i.toNat z67
structure S55 where
 f0 : Int
 f1 : Int
 f2 : Int
 f3 : Int
def z55 : S55 := ⟨(0 : Int), (0 : Int), (0 : Int), (0 : Int)⟩
def e55 (x : S55) : AV := .agg [.lit (.int .i64 x.f0), .lit (.int .i64 x.f1), .lit (.int .i64 x.f2), .lit (.int .i64 x.f3)]
def rd_T55 (l : List S55) (i : Int) : S55 := l.getD i.toNat z55
theorem fl55 {l : List S55} : flatL (l.map e55) := flE fun x lv h => by
  simp only [e55, AV.leaves, List.mem_cons, List.not_mem_nil, or_false] at h
  rcases h with rfl | rfl | rfl | rfl
  all_goals exact ⟨_, rfl⟩
structure S76 where
 f0 : ByteArray
 f1 : S55
 f2 : ByteArray
 f3 : ByteArray
def z76 : S76 := ⟨ByteArray.empty, z55, ByteArray.empty, ByteArray.empty⟩
def e76 (x : S76) : AV := .agg [.lit (.string x.f0), .lit (.int .i64 x.f1.f0), .lit (.int .i64 x.f1.f1), .lit (.int .i64 x.f1.f2), .lit (.int .i64 x.f1.f3), .lit (.string x.f2), .lit (.string x.f3)]
def rd_T76 (l : List S76) (i : Int) : S76 := l.getD i.toNat z76
theorem fl76 {l : List S76} : flatL (l.map e76) := flE fun x lv h => by
  simp only [e76, AV.leaves, List.mem_cons, List.not_mem_nil, or_false] at h
  rcases h with rfl | rfl | rfl | rfl | rfl | rfl | rfl
  all_goals exact ⟨_, rfl⟩
def ds67 : List Ds := [.own 3 [], .own 94 [], .v, .v]
theorem cl67 {l : List S67} : clsL (l.map e67) := clE fun x lv h => by
  simp only [e67, AV.leaves, List.mem_cons, List.not_mem_nil, or_false] at h
  rcases h with rfl | rfl | rfl | rfl
  all_goals rfl
theorem eq55 (d : Nat) (w : World) (a0 : Int) (a1 : Int) (a2 : Int) (a3 : Int) (b0 : Int) (b1 : Int) (b2 : Int) (b3 : Int) : (Op.equalIn (d + 2) 55 (.agg #[.int .i64 a0, .int .i64 a1, .int .i64 a2, .int .i64 a3]) (.agg #[.int .i64 b0, .int .i64 b1, .int .i64 b2, .int .i64 b3])).run Try.prog w = .ok (a0 == b0 && (a1 == b1 && (a2 == b2 && (a3 == b3)))) w := by
 refine eqA_of Try.underlying55 (by kernel_rfl) ?_
 refine eqf_cons (by rfl) (by first | (go_simp; done) | (go_simp; rfl)) (by first | (go_simp; done) | (go_simp; rfl)) (run_equalIn_int w _ _ _ _ _ _ Try.underlying3) ?_
 refine eqf_cons (by rfl) (by first | (go_simp; done) | (go_simp; rfl)) (by first | (go_simp; done) | (go_simp; rfl)) (run_equalIn_int w _ _ _ _ _ _ Try.underlying3) ?_
 refine eqf_cons (by rfl) (by first | (go_simp; done) | (go_simp; rfl)) (by first | (go_simp; done) | (go_simp; rfl)) (run_equalIn_int w _ _ _ _ _ _ Try.underlying3) ?_
 exact eqf_last (by rfl) (by first | (go_simp; done) | (go_simp; rfl)) (by first | (go_simp; done) | (go_simp; rfl)) (run_equalIn_int w _ _ _ _ _ _ Try.underlying3)
end Go.Proofs.Ytlmpaphlnlgelaa.PFnWaysShort
