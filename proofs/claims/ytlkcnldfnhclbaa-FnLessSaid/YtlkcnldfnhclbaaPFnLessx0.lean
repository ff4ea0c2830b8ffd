import Derived.Test.YtlkcnldfnhclbaaProg
import Derived.Test.YtlkcnldfnhclbaaA23
set_option linter.unusedVariables false
set_option linter.unusedSimpArgs false
set_option maxRecDepth 100000
namespace Go.Proofs.Ytlkcnldfnhclbaa.PFnLess
open Go Go.RowKit Go.Proofs.YtlkcnldfnhclbaaA
theorem hM : Try.prog.follows .mixedOrders = true := by kernel_rfl
structure S69 where
 f0 : Int
 f1 : Int
def z69 : S69 := ⟨(0 : Int), (0 : Int)⟩
def e69 (x : S69) : AV := .agg [.lit (.int .i64 x.f0), .lit (.int .i64 x.f1)]
def rd_T69 (l : List S69) (i : Int) : S69 := l.getD i.toNat z69
theorem fl69 {l : List S69} : flatL (l.map e69) := flE fun x lv h => by
  simp only [e69, AV.leaves, List.mem_cons, List.not_mem_nil, or_false] at h
  rcases h with rfl | rfl
  all_goals exact ⟨_, rfl⟩
structure S71 where
 f0 : Int
 f1 : S69
 f2 : Int
 f3 : S69
def z71 : S71 := ⟨(0 : Int), z69, (0 : Int), z69⟩
def e71 (x : S71) : AV := .agg [.lit (.int .i64 x.f0), .lit (.int .i64 x.f1.f0), .lit (.int .i64 x.f1.f1), .lit (.int .i64 x.f2), .lit (.int .i64 x.f3.f0), .lit (.int .i64 x.f3.f1)]
def rd_T71 (l : List S71) (i : Int) : S71 := l.getD i.toNat z71
theorem fl71 {l : List S71} : flatL (l.map e71) := flE fun x lv h => by
  simp only [e71, AV.leaves, List.mem_cons, List.not_mem_nil, or_false] at h
  rcases h with rfl | rfl | rfl | rfl | rfl | rfl
  all_goals exact ⟨_, rfl⟩
structure S59 where
 f0 : List Int
 f1 : List S71
 f2 : Int
 f3 : Int
def z59 : S59 := ⟨([] : List Int), ([] : List S71), (0 : Int), (0 : Int)⟩
def e59 (x : S59) : AV := .agg [.sl .n 1 (x.f0.map (eI .i64)), .sl .n 6 (x.f1.map e71), .lit (.int .i64 x.f2), .lit (.int .i64 x.f3)]
def rd_T59 (l : List S59) (i : Int) : S59 := l.getD i.toNat z59
theorem eq69 (d : Nat) (w : World) (a0 : Int) (a1 : Int) (b0 : Int) (b1 : Int) : (Op.equalIn (d + 2) 69 (.agg #[.int .i64 a0, .int .i64 a1]) (.agg #[.int .i64 b0, .int .i64 b1])).run Try.prog w = .ok (a0 == b0 && (a1 == b1)) w := by
 refine eqA_of Try.underlying69 (by kernel_rfl) ?_
 refine eqf_cons (by rfl) (by first | (go_simp; done) | (go_simp; rfl)) (by first | (go_simp; done) | (go_simp; rfl)) (run_equalIn_int w _ _ _ _ _ _ Try.underlying3) ?_
 exact eqf_last (by rfl) (by first | (go_simp; done) | (go_simp; rfl)) (by first | (go_simp; done) | (go_simp; rfl)) (run_equalIn_int w _ _ _ _ _ _ Try.underlying3)
theorem eq71 (d : Nat) (w : World) (a0 : Int) (a1 : Int) (a2 : Int) (a3 : Int) (a4 : Int) (a5 : Int) (b0 : Int) (b1 : Int) (b2 : Int) (b3 : Int) (b4 : Int) (b5 : Int) : (Op.equalIn (d + 3) 71 (.agg #[.int .i64 a0, .int .i64 a1, .int .i64 a2, .int .i64 a3, .int .i64 a4, .int .i64 a5]) (.agg #[.int .i64 b0, .int .i64 b1, .int .i64 b2, .int .i64 b3, .int .i64 b4, .int .i64 b5])).run Try.prog w = .ok (a0 == b0 && ((a1 == b1 && (a2 == b2)) && (a3 == b3 && ((a4 == b4 && (a5 == b5)))))) w := by
 refine eqA_of Try.underlying71 (by kernel_rfl) ?_
 refine eqf_cons (by rfl) (by first | (go_simp; done) | (go_simp; rfl)) (by first | (go_simp; done) | (go_simp; rfl)) (run_equalIn_int w _ _ _ _ _ _ Try.underlying3) ?_
 refine eqf_cons (by rfl) (by first | (go_simp; done) | (go_simp; rfl)) (by first | (go_simp; done) | (go_simp; rfl)) (eq69 (d + 0) w a1 a2 b1 b2) ?_
 refine eqf_cons (by rfl) (by first | (go_simp; done) | (go_simp; rfl)) (by first | (go_simp; done) | (go_simp; rfl)) (run_equalIn_int w _ _ _ _ _ _ Try.underlying3) ?_
 exact eqf_last (by rfl) (by first | (go_simp; done) | (go_simp; rfl)) (by first | (go_simp; done) | (go_simp; rfl)) (eq69 (d + 0) w a4 a5 b4 b5)
end Go.Proofs.Ytlkcnldfnhclbaa.PFnLess
