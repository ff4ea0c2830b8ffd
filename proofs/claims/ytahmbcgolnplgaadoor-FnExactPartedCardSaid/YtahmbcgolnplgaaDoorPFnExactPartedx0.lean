import Derived.Test.YtahmbcgolnplgaaDoorProg
import Derived.Test.YtahmbcgolnplgaaDoorA36
set_option linter.unusedVariables false
set_option linter.unusedSimpArgs false
set_option maxRecDepth 100000
namespace Go.Proofs.YtahmbcgolnplgaaDoor.PFnExactParted
open Go Go.RowKit Go.Proofs.YtahmbcgolnplgaaDoorA
theorem hM : Tryd.prog.follows .mixedOrders = true := by kernel_rfl
structure S38 where
 f0 : Int
 f1 : Int
 f2 : Int
 f3 : Int
def z38 : S38 := ⟨(0 : Int), (0 : Int), (0 : Int), (0 : Int)⟩
def e38 (x : S38) : AV := .agg [.lit (.int .i64 x.f0), .lit (.int .i64 x.f1), .lit (.int .i64 x.f2), .lit (.int .i64 x.f3)]
def rd_T38 (l : List S38) (i : Int) : S38 := l.getD i.toNat z38
theorem fl38 {l : List S38} : flatL (l.map e38) := flE fun x lv h => by
  simp only [e38, AV.leaves, List.mem_cons, List.not_mem_nil, or_false] at h
  rcases h with rfl | rfl | rfl | rfl
  all_goals exact ⟨_, rfl⟩
structure S40 where
 f0 : Int
 f1 : Int
 f2 : S38
def z40 : S40 := ⟨(0 : Int), (0 : Int), z38⟩
def e40 (x : S40) : AV := .agg [.lit (.int .i64 x.f0), .lit (.int .i64 x.f1), .lit (.int .i64 x.f2.f0), .lit (.int .i64 x.f2.f1), .lit (.int .i64 x.f2.f2), .lit (.int .i64 x.f2.f3)]
def rd_T40 (l : List S40) (i : Int) : S40 := l.getD i.toNat z40
theorem fl40 {l : List S40} : flatL (l.map e40) := flE fun x lv h => by
  simp only [e40, AV.leaves, List.mem_cons, List.not_mem_nil, or_false] at h
  rcases h with rfl | rfl | rfl | rfl | rfl | rfl
  all_goals exact ⟨_, rfl⟩
structure S33 where
 f0 : Int
 f1 : Int
 f2 : Int
 f3 : Int
def z33 : S33 := ⟨(0 : Int), (0 : Int), (0 : Int), (0 : Int)⟩
def e33 (x : S33) : AV := .agg [.lit (.int .i64 x.f0), .lit (.int .i64 x.f1), .lit (.int .i64 x.f2), .lit (.int .i64 x.f3)]
def rd_T33 (l : List S33) (i : Int) : S33 := l.getD i.toNat z33
theorem fl33 {l : List S33} : flatL (l.map e33) := flE fun x lv h => by
  simp only [e33, AV.leaves, List.mem_cons, List.not_mem_nil, or_false] at h
  rcases h with rfl | rfl | rfl | rfl
  all_goals exact ⟨_, rfl⟩
structure S35 where
 f0 : Int
 f1 : Int
 f2 : S33
def z35 : S35 := ⟨(0 : Int), (0 : Int), z33⟩
def e35 (x : S35) : AV := .agg [.lit (.int .i64 x.f0), .lit (.int .i64 x.f1), .lit (.int .i64 x.f2.f0), .lit (.int .i64 x.f2.f1), .lit (.int .i64 x.f2.f2), .lit (.int .i64 x.f2.f3)]
def rd_T35 (l : List S35) (i : Int) : S35 := l.getD i.toNat z35
theorem fl35 {l : List S35} : flatL (l.map e35) := flE fun x lv h => by
  simp only [e35, AV.leaves, List.mem_cons, List.not_mem_nil, or_false] at h
  rcases h with rfl | rfl | rfl | rfl | rfl | rfl
  all_goals exact ⟨_, rfl⟩
theorem eq33 (d : Nat) (w : World) (a0 : Int) (a1 : Int) (a2 : Int) (a3 : Int) (b0 : Int) (b1 : Int) (b2 : Int) (b3 : Int) : (Op.equalIn (d + 2) 33 (.agg #[.int .i64 a0, .int .i64 a1, .int .i64 a2, .int .i64 a3]) (.agg #[.int .i64 b0, .int .i64 b1, .int .i64 b2, .int .i64 b3])).run Tryd.prog w = .ok (a0 == b0 && (a1 == b1 && (a2 == b2 && (a3 == b3)))) w := by
 refine eqA_of Tryd.underlying33 (by kernel_rfl) ?_
 refine eqf_cons (by rfl) (by first | (go_simp; done) | (go_simp; rfl)) (by first | (go_simp; done) | (go_simp; rfl)) (run_equalIn_int w _ _ _ _ _ _ Tryd.underlying3) ?_
 refine eqf_cons (by rfl) (by first | (go_simp; done) | (go_simp; rfl)) (by first | (go_simp; done) | (go_simp; rfl)) (run_equalIn_int w _ _ _ _ _ _ Tryd.underlying3) ?_
 refine eqf_cons (by rfl) (by first | (go_simp; done) | (go_simp; rfl)) (by first | (go_simp; done) | (go_simp; rfl)) (run_equalIn_int w _ _ _ _ _ _ Tryd.underlying3) ?_
 exact eqf_last (by rfl) (by first | (go_simp; done) | (go_simp; rfl)) (by first | (go_simp; done) | (go_simp; rfl)) (run_equalIn_int w _ _ _ _ _ _ Tryd.underlying3)
end Go.Proofs.YtahmbcgolnplgaaDoor.PFnExactParted
