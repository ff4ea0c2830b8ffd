import Derived.Test.YthfflkfpmebbbaaProg
import Derived.Test.YthfflkfpmebbbaaA21
import Derived.Test.YthfflkfpmebbbaaQ1
import Derived.Test.YthfflkfpmebbbaaShelf
set_option linter.unusedVariables false
set_option linter.unusedSimpArgs false
set_option maxRecDepth 100000
namespace Go.Proofs.Ythfflkfpmebbbaa.PFnExactFieldsRead
open Go Go.RowKit Go.Proofs.YthfflkfpmebbbaaA
theorem hM : Try.prog.follows .mixedOrders = true := by kernel_rfl
structure S58 where
 f0 : Int
 f1 : Int
 f2 : Int
 f3 : Int
def z58 : S58 := ⟨(0 : Int), (0 : Int), (0 : Int), (0 : Int)⟩
def e58 (x : S58) : AV := .agg [.lit (.int .i64 x.f0), .lit (.int .i64 x.f1), .lit (.int .i64 x.f2), .lit (.int .i64 x.f3)]
def rd_T58 (l : List S58) (i : Int) : S58 := l.getD i.toNat z58
theorem fl58 {l : List S58} : flatL (l.map e58) := flE fun x lv h => by
  simp only [e58, AV.leaves, List.mem_cons, List.not_mem_nil, or_false] at h
  rcases h with rfl | rfl | rfl | rfl
  all_goals exact ⟨_, rfl⟩
structure S46 where
 f0 : Int
 f1 : Int
 f2 : Int
 f3 : Int
def z46 : S46 := ⟨(0 : Int), (0 : Int), (0 : Int), (0 : Int)⟩
def e46 (x : S46) : AV := .agg [.lit (.int .i64 x.f0), .lit (.int .i64 x.f1), .lit (.int .i64 x.f2), .lit (.int .i64 x.f3)]
def rd_T46 (l : List S46) (i : Int) : S46 := l.getD i.toNat z46
theorem fl46 {l : List S46} : flatL (l.map e46) := flE fun x lv h => by
  simp only [e46, AV.leaves, List.mem_cons, List.not_mem_nil, or_false] at h
  rcases h with rfl | rfl | rfl | rfl
  all_goals exact ⟨_, rfl⟩
end Go.Proofs.Ythfflkfpmebbbaa.PFnExactFieldsRead
