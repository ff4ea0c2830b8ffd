import Derived.Test.YthgmgbccgokfeaaProg
import Derived.Test.YthgmgbccgokfeaaA29
set_option linter.unusedVariables false
set_option linter.unusedSimpArgs false
set_option maxRecDepth 100000
namespace Go.Proofs.Ythgmgbccgokfeaa.PFnExactLessened
open Go Go.RowKit Go.Proofs.YthgmgbccgokfeaaA
theorem hM : Try.prog.follows .mixedOrders = true := by kernel_rfl
structure S115 where
 f0 : Int
 f1 : Int
def z115 : S115 := ⟨(0 : Int), (0 : Int)⟩
def e115 (x : S115) : AV := .agg [.lit (.int .i64 x.f0), .lit (.int .i64 x.f1)]
def rd_T115 (l : List S115) (i : Int) : S115 := l.getD i.toNat z115
theorem fl115 {l : List S115} : flatL (l.map e115) := flE fun x lv h => by
  simp only [e115, AV.leaves, List.mem_cons, List.not_mem_nil, or_false] at h
  rcases h with rfl | rfl
  all_goals exact ⟨_, rfl⟩
structure S117 where
 f0 : Int
 f1 : S115
 f2 : Int
 f3 : S115
def z117 : S117 := ⟨(0 : Int), z115, (0 : Int), z115⟩
def e117 (x : S117) : AV := .agg [.lit (.int .i64 x.f0), .lit (.int .i64 x.f1.f0), .lit (.int .i64 x.f1.f1), .lit (.int .i64 x.f2), .lit (.int .i64 x.f3.f0), .lit (.int .i64 x.f3.f1)]
def rd_T117 (l : List S117) (i : Int) : S117 := l.getD i.toNat z117
theorem fl117 {l : List S117} : flatL (l.map e117) := flE fun x lv h => by
  simp only [e117, AV.leaves, List.mem_cons, List.not_mem_nil, or_false] at h
  rcases h with rfl | rfl | rfl | rfl | rfl | rfl
  all_goals exact ⟨_, rfl⟩
structure S86 where
 f0 : List Int
 f1 : List S117
 f2 : Int
 f3 : Int
def z86 : S86 := ⟨([] : List Int), ([] : List S117), (0 : Int), (0 : Int)⟩
def e86 (x : S86) : AV := .agg [.sl .n 1 (x.f0.map (eI .i64)), .sl .n 6 (x.f1.map e117), .lit (.int .i64 x.f2), .lit (.int .i64 x.f3)]
def rd_T86 (l : List S86) (i : Int) : S86 := l.getD i.toNat z86
structure S90 where
 f0 : Int
 f1 : Int
def z90 : S90 := ⟨(0 : Int), (0 : Int)⟩
def e90 (x : S90) : AV := .agg [.lit (.int .i64 x.f0), .lit (.int .i64 x.f1)]
def rd_T90 (l : List S90) (i : Int) : S90 := l.getD i.toNat z90
theorem fl90 {l : List S90} : flatL (l.map e90) := flE fun x lv h => by
  simp only [e90, AV.leaves, List.mem_cons, List.not_mem_nil, or_false] at h
  rcases h with rfl | rfl
  all_goals exact ⟨_, rfl⟩
structure S92 where
 f0 : Int
 f1 : S90
 f2 : Int
 f3 : S90
def z92 : S92 := ⟨(0 : Int), z90, (0 : Int), z90⟩
def e92 (x : S92) : AV := .agg [.lit (.int .i64 x.f0), .lit (.int .i64 x.f1.f0), .lit (.int .i64 x.f1.f1), .lit (.int .i64 x.f2), .lit (.int .i64 x.f3.f0), .lit (.int .i64 x.f3.f1)]
def rd_T92 (l : List S92) (i : Int) : S92 := l.getD i.toNat z92
theorem fl92 {l : List S92} : flatL (l.map e92) := flE fun x lv h => by
  simp only [e92, AV.leaves, List.mem_cons, List.not_mem_nil, or_false] at h
  rcases h with rfl | rfl | rfl | rfl | rfl | rfl
  all_goals exact ⟨_, rfl⟩
structure S60 where
 f0 : List Int
 f1 : List S92
 f2 : Int
 f3 : Int
def z60 : S60 := ⟨([] : List Int), ([] : List S92), (0 : Int), (0 : Int)⟩
def e60 (x : S60) : AV := .agg [.sl .n 1 (x.f0.map (eI .i64)), .sl .n 6 (x.f1.map e92), .lit (.int .i64 x.f2), .lit (.int .i64 x.f3)]
def rd_T60 (l : List S60) (i : Int) : S60 := l.getD i.toNat z60
structure S24 where
 f0 : Int
 f1 : Int
 f2 : Int
 f3 : List S86
def z24 : S24 := ⟨(0 : Int), (0 : Int), (0 : Int), ([] : List S86)⟩
def e24 (x : S24) : AV := .agg [.lit (.int .i64 x.f0), .lit (.int .i64 x.f1), .lit (.int .i64 x.f2), .sl .n 4 (x.f3.map e86)]
def rd_T24 (l : List S24) (i : Int) : S24 := l.getD i.toNat z24
def ds86 : List Ds := [.own 3 [], .own 117 [], .v, .v]
theorem cl86 {l : List S86} : clsL (l.map e86) := clE fun x lv h => by
  simp only [e86, AV.leaves, List.mem_cons, List.not_mem_nil, or_false] at h
  rcases h with rfl | rfl | rfl | rfl
  all_goals rfl
def ds60 : List Ds := [.own 3 [], .own 92 [], .v, .v]
theorem cl60 {l : List S60} : clsL (l.map e60) := clE fun x lv h => by
  simp only [e60, AV.leaves, List.mem_cons, List.not_mem_nil, or_false] at h
  rcases h with rfl | rfl | rfl | rfl
  all_goals rfl
def ds24 : List Ds := [.v, .v, .v, .own 86 ds86]
theorem cl24 {l : List S24} : clsL (l.map e24) := clE fun x lv h => by
  simp only [e24, AV.leaves, List.mem_cons, List.not_mem_nil, or_false] at h
  rcases h with rfl | rfl | rfl | rfl
  all_goals rfl
theorem eq90 (d : Nat) (w : World) (a0 : Int) (a1 : Int) (b0 : Int) (b1 : Int) : (Op.equalIn (d + 2) 90 (.agg #[.int .i64 a0, .int .i64 a1]) (.agg #[.int .i64 b0, .int .i64 b1])).run Try.prog w = .ok (a0 == b0 && (a1 == b1)) w := by
 refine eqA_of Try.underlying90 (by kernel_rfl) ?_
 refine eqf_cons (by rfl) (by first | (go_simp; done) | (go_simp; rfl)) (by first | (go_simp; done) | (go_simp; rfl)) (run_equalIn_int w _ _ _ _ _ _ Try.underlying3) ?_
 exact eqf_last (by rfl) (by first | (go_simp; done) | (go_simp; rfl)) (by first | (go_simp; done) | (go_simp; rfl)) (run_equalIn_int w _ _ _ _ _ _ Try.underlying3)
theorem eq92 (d : Nat) (w : World) (a0 : Int) (a1 : Int) (a2 : Int) (a3 : Int) (a4 : Int) (a5 : Int) (b0 : Int) (b1 : Int) (b2 : Int) (b3 : Int) (b4 : Int) (b5 : Int) : (Op.equalIn (d + 3) 92 (.agg #[.int .i64 a0, .int .i64 a1, .int .i64 a2, .int .i64 a3, .int .i64 a4, .int .i64 a5]) (.agg #[.int .i64 b0, .int .i64 b1, .int .i64 b2, .int .i64 b3, .int .i64 b4, .int .i64 b5])).run Try.prog w = .ok (a0 == b0 && ((a1 == b1 && (a2 == b2)) && (a3 == b3 && ((a4 == b4 && (a5 == b5)))))) w := by
 refine eqA_of Try.underlying92 (by kernel_rfl) ?_
 refine eqf_cons (by rfl) (by first | (go_simp; done) | (go_simp; rfl)) (by first | (go_simp; done) | (go_simp; rfl)) (run_equalIn_int w _ _ _ _ _ _ Try.underlying3) ?_
 refine eqf_cons (by rfl) (by first | (go_simp; done) | (go_simp; rfl)) (by first | (go_simp; done) | (go_simp; rfl)) (eq90 (d + 0) w a1 a2 b1 b2) ?_
 refine eqf_cons (by rfl) (by first | (go_simp; done) | (go_simp; rfl)) (by first | (go_simp; done) | (go_simp; rfl)) (run_equalIn_int w _ _ _ _ _ _ Try.underlying3) ?_
 exact eqf_last (by rfl) (by first | (go_simp; done) | (go_simp; rfl)) (by first | (go_simp; done) | (go_simp; rfl)) (eq90 (d + 0) w a4 a5 b4 b5)
end Go.Proofs.Ythgmgbccgokfeaa.PFnExactLessened
