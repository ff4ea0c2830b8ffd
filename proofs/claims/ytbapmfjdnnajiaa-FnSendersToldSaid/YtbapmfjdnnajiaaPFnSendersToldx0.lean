import Derived.Test.YtbapmfjdnnajiaaProg
import Derived.Test.YtbapmfjdnnajiaaA21
set_option linter.unusedVariables false
set_option linter.unusedSimpArgs false
set_option maxRecDepth 100000
namespace Go.Proofs.Ytbapmfjdnnajiaa.PFnSendersTold
open Go Go.RowKit Go.Proofs.YtbapmfjdnnajiaaA
theorem hM : Try.prog.follows .mixedOrders = true := by kernel_rfl
structure S43 where
 f0 : Int
 f1 : Int
 f2 : Int
 f3 : Int
def z43 : S43 := ⟨(0 : Int), (0 : Int), (0 : Int), (0 : Int)⟩
def e43 (x : S43) : AV := .agg [.lit (.int .i64 x.f0), .lit (.int .i64 x.f1), .lit (.int .i64 x.f2), .lit (.int .i64 x.f3)]
def rd_T43 (l : List S43) (i : Int) : S43 := l.getD i.toNat z43
theorem fl43 {l : List S43} : flatL (l.map e43) := flE fun x lv h => by
  simp only [e43, AV.leaves, List.mem_cons, List.not_mem_nil, or_false] at h
  rcases h with rfl | rfl | rfl | rfl
  all_goals exact ⟨_, rfl⟩
structure S45 where
 f0 : Int
 f1 : Int
 f2 : Int
 f3 : S43
def z45 : S45 := ⟨(0 : Int), (0 : Int), (0 : Int), z43⟩
def e45 (x : S45) : AV := .agg [.lit (.int .i64 x.f0), .lit (.int .i64 x.f1), .lit (.int .i64 x.f2), .lit (.int .i64 x.f3.f0), .lit (.int .i64 x.f3.f1), .lit (.int .i64 x.f3.f2), .lit (.int .i64 x.f3.f3)]
def rd_T45 (l : List S45) (i : Int) : S45 := l.getD i.toNat z45
theorem fl45 {l : List S45} : flatL (l.map e45) := flE fun x lv h => by
  simp only [e45, AV.leaves, List.mem_cons, List.not_mem_nil, or_false] at h
  rcases h with rfl | rfl | rfl | rfl | rfl | rfl | rfl
  all_goals exact ⟨_, rfl⟩
theorem eq43 (d : Nat) (w : World) (a0 : Int) (a1 : Int) (a2 : Int) (a3 : Int) (b0 : Int) (b1 : Int) (b2 : Int) (b3 : Int) : (Op.equalIn (d + 2) 43 (.agg #[.int .i64 a0, .int .i64 a1, .int .i64 a2, .int .i64 a3]) (.agg #[.int .i64 b0, .int .i64 b1, .int .i64 b2, .int .i64 b3])).run Try.prog w = .ok (a0 == b0 && (a1 == b1 && (a2 == b2 && (a3 == b3)))) w := by
 refine eqA_of Try.underlying43 (by kernel_rfl) ?_
 refine eqf_cons (by rfl) (by first | (go_simp; done) | (go_simp; rfl)) (by first | (go_simp; done) | (go_simp; rfl)) (run_equalIn_int w _ _ _ _ _ _ Try.underlying3) ?_
 refine eqf_cons (by rfl) (by first | (go_simp; done) | (go_simp; rfl)) (by first | (go_simp; done) | (go_simp; rfl)) (run_equalIn_int w _ _ _ _ _ _ Try.underlying3) ?_
 refine eqf_cons (by rfl) (by first | (go_simp; done) | (go_simp; rfl)) (by first | (go_simp; done) | (go_simp; rfl)) (run_equalIn_int w _ _ _ _ _ _ Try.underlying3) ?_
 exact eqf_last (by rfl) (by first | (go_simp; done) | (go_simp; rfl)) (by first | (go_simp; done) | (go_simp; rfl)) (run_equalIn_int w _ _ _ _ _ _ Try.underlying3)
theorem eq45 (d : Nat) (w : World) (a0 : Int) (a1 : Int) (a2 : Int) (a3 : Int) (a4 : Int) (a5 : Int) (a6 : Int) (b0 : Int) (b1 : Int) (b2 : Int) (b3 : Int) (b4 : Int) (b5 : Int) (b6 : Int) : (Op.equalIn (d + 3) 45 (.agg #[.int .i64 a0, .int .i64 a1, .int .i64 a2, .int .i64 a3, .int .i64 a4, .int .i64 a5, .int .i64 a6]) (.agg #[.int .i64 b0, .int .i64 b1, .int .i64 b2, .int .i64 b3, .int .i64 b4, .int .i64 b5, .int .i64 b6])).run Try.prog w = .ok (a0 == b0 && (a1 == b1 && (a2 == b2 && ((a3 == b3 && (a4 == b4 && (a5 == b5 && (a6 == b6)))))))) w := by
 refine eqA_of Try.underlying45 (by kernel_rfl) ?_
 refine eqf_cons (by rfl) (by first | (go_simp; done) | (go_simp; rfl)) (by first | (go_simp; done) | (go_simp; rfl)) (run_equalIn_int w _ _ _ _ _ _ Try.underlying3) ?_
 refine eqf_cons (by rfl) (by first | (go_simp; done) | (go_simp; rfl)) (by first | (go_simp; done) | (go_simp; rfl)) (run_equalIn_int w _ _ _ _ _ _ Try.underlying3) ?_
 refine eqf_cons (by rfl) (by first | (go_simp; done) | (go_simp; rfl)) (by first | (go_simp; done) | (go_simp; rfl)) (run_equalIn_int w _ _ _ _ _ _ Try.underlying3) ?_
 exact eqf_last (by rfl) (by first | (go_simp; done) | (go_simp; rfl)) (by first | (go_simp; done) | (go_simp; rfl)) (eq43 (d + 0) w a3 a4 a5 a6 b3 b4 b5 b6)
end Go.Proofs.Ytbapmfjdnnajiaa.PFnSendersTold
