import Derived.Test.YtlmpaphlnlgelaaGreatProg
import Derived.Test.YtlmpaphlnlgelaaGreatA30
import Derived.Test.YtlmpaphlnlgelaaGreatQ1
import Derived.Test.YtlmpaphlnlgelaaGreatShelf
set_option linter.unusedVariables false
set_option linter.unusedSimpArgs false
set_option maxRecDepth 100000
namespace Go.Proofs.YtlmpaphlnlgelaaGreat.PFnWaysTold
open Go Go.RowKit Go.Proofs.YtlmpaphlnlgelaaGreatA
theorem hM : Tryz.prog.follows .mixedOrders = true := by kernel_rfl
structure S41 where
 f0 : Int
 f1 : Int
 f2 : Int
 f3 : Int
def z41 : S41 := ⟨(0 : Int), (0 : Int), (0 : Int), (0 : Int)⟩
def e41 (x : S41) : AV := .agg [.lit (.int .i64 x.f0), .lit (.int .i64 x.f1), .lit (.int .i64 x.f2), .lit (.int .i64 x.f3)]
def rd_T41 (l : List S41) (i : Int) : S41 := l.getD i.toNat z41
theorem fl41 {l : List S41} : flatL (l.map e41) := flE fun x lv h => by
  simp only [e41, AV.leaves, List.mem_cons, List.not_mem_nil, or_false] at h
  rcases h with rfl | rfl | rfl | rfl
  all_goals exact ⟨_, rfl⟩
structure S103 where
 f0 : Int
 f1 : Int
def z103 : S103 := ⟨(0 : Int), (0 : Int)⟩
def e103 (x : S103) : AV := .agg [.lit (.int .i64 x.f0), .lit (.int .i64 x.f1)]
def rd_T103 (l : List S103) (i : Int) : S103 := l.getD i.toNat z103
theorem fl103 {l : List S103} : flatL (l.map e103) := flE fun x lv h => by
  simp only [e103, AV.leaves, List.mem_cons, List.not_mem_nil, or_false] at h
  rcases h with rfl | rfl
  all_goals exact ⟨_, rfl⟩
structure S105 where
 f0 : Int
 f1 : S103
 f2 : Int
 f3 : S103
def z105 : S105 := ⟨(0 : Int), z103, (0 : Int), z103⟩
def e105 (x : S105) : AV := .agg [.lit (.int .i64 x.f0), .lit (.int .i64 x.f1.f0), .lit (.int .i64 x.f1.f1), .lit (.int .i64 x.f2), .lit (.int .i64 x.f3.f0), .lit (.int .i64 x.f3.f1)]
def rd_T105 (l : List S105) (i : Int) : S105 := l.getD i.toNat z105
theorem fl105 {l : List S105} : flatL (l.map e105) := flE fun x lv h => by
  simp only [e105, AV.leaves, List.mem_cons, List.not_mem_nil, or_false] at h
  rcases h with rfl | rfl | rfl | rfl | rfl | rfl
  all_goals exact ⟨_, rfl⟩
structure S77 where
 f0 : List Int
 f1 : List S105
 f2 : Int
 f3 : Int
def z77 : S77 := ⟨([] : List Int), ([] : List S105), (0 : Int), (0 : Int)⟩
def e77 (x : S77) : AV := .agg [.sl .n 1 (x.f0.map (eI .i64)), .sl .n 6 (x.f1.map e105), .lit (.int .i64 x.f2), .lit (.int .i64 x.f3)]
def rd_T77 (l : List S77) (i : Int) : S77 := l.getD i.toNat z77
structure S94 where
 f0 : ByteArray
 f1 : S41
 f2 : ByteArray
 f3 : ByteArray
def z94 : S94 := ⟨ByteArray.empty, z41, ByteArray.empty, ByteArray.empty⟩
def e94 (x : S94) : AV := .agg [.lit (.string x.f0), .lit (.int .i64 x.f1.f0), .lit (.int .i64 x.f1.f1), .lit (.int .i64 x.f1.f2), .lit (.int .i64 x.f1.f3), .lit (.string x.f2), .lit (.string x.f3)]
def rd_T94 (l : List S94) (i : Int) : S94 := l.getD i.toNat z94
theorem fl94 {l : List S94} : flatL (l.map e94) := flE fun x lv h => by
  simp only [e94, AV.leaves, List.mem_cons, List.not_mem_nil, or_false] at h
  rcases h with rfl | rfl | rfl | rfl | rfl | rfl | rfl
  all_goals exact ⟨_, rfl⟩
def ds77 : List Ds := [.own 3 [], .own 105 [], .v, .v]
theorem cl77 {l : List S77} : clsL (l.map e77) := clE fun x lv h => by
  simp only [e77, AV.leaves, List.mem_cons, List.not_mem_nil, or_false] at h
  rcases h with rfl | rfl | rfl | rfl
  all_goals rfl
theorem eq41 (d : Nat) (w : World) (a0 : Int) (a1 : Int) (a2 : Int) (a3 : Int) (b0 : Int) (b1 : Int) (b2 : Int) (b3 : Int) : (Op.equalIn (d + 2) 41 (.agg #[.int .i64 a0, .int .i64 a1, .int .i64 a2, .int .i64 a3]) (.agg #[.int .i64 b0, .int .i64 b1, .int .i64 b2, .int .i64 b3])).run Tryz.prog w = .ok (a0 == b0 && (a1 == b1 && (a2 == b2 && (a3 == b3)))) w := by
 refine eqA_of Tryz.underlying41 (by kernel_rfl) ?_
 refine eqf_cons (by rfl) (by first | (go_simp; done) | (go_simp; rfl)) (by first | (go_simp; done) | (go_simp; rfl)) (run_equalIn_int w _ _ _ _ _ _ Tryz.underlying3) ?_
 refine eqf_cons (by rfl) (by first | (go_simp; done) | (go_simp; rfl)) (by first | (go_simp; done) | (go_simp; rfl)) (run_equalIn_int w _ _ _ _ _ _ Tryz.underlying3) ?_
 refine eqf_cons (by rfl) (by first | (go_simp; done) | (go_simp; rfl)) (by first | (go_simp; done) | (go_simp; rfl)) (run_equalIn_int w _ _ _ _ _ _ Tryz.underlying3) ?_
 exact eqf_last (by rfl) (by first | (go_simp; done) | (go_simp; rfl)) (by first | (go_simp; done) | (go_simp; rfl)) (run_equalIn_int w _ _ _ _ _ _ Tryz.underlying3)
end Go.Proofs.YtlmpaphlnlgelaaGreat.PFnWaysTold
