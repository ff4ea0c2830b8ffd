import Derived.Test.YthfflkfpmebbbaaProg
import Derived.Test.YthfflkfpmebbbaaA21
import Derived.Test.YthfflkfpmebbbaaQ1
import Derived.Test.YthfflkfpmebbbaaShelf
set_option linter.unusedVariables false
set_option linter.unusedSimpArgs false
set_option maxRecDepth 100000
namespace Go.Proofs.Ythfflkfpmebbbaa.PFnWays
open Go Go.RowKit Go.Proofs.YthfflkfpmebbbaaA
theorem hM : Try.prog.follows .mixedOrders = true := by kernel_rfl
structure S46 where
 f0 : Int
 f1 : Int
 f2 : Int
 f3 : Int
def z46 : S46 := ⟨(0 : Int), (0 : Int), (0 : Int), (0 : Int)⟩
def e46 (x : S46) : AV := .agg [.lit (.int .i64 x.f0), .lit (.int .i64 x.f1), .lit (.int .i64 x.f2), .lit (.int .i64 x.f3)]
def rd_T46 (l : List S46) (i : Int) : S46 := l.getD i.toNat z46
theorem fl46 {l : List S46} : flatL (l.map e46) := flE fun x lv h => by
  simp only [e46, AV.leaves, List.mem_cons, List.not_mem_nil, or_false] at h
  rcases h with rfl | rfl | rfl | rfl
  all_goals exact ⟨_, rfl⟩
structure S75 where
 f0 : Int
 f1 : Int
def z75 : S75 := ⟨(0 : Int), (0 : Int)⟩
def e75 (x : S75) : AV := .agg [.lit (.int .i64 x.f0), .lit (.int .i64 x.f1)]
def rd_T75 (l : List S75) (i : Int) : S75 := l.getD i.toNat z75
theorem fl75 {l : List S75} : flatL (l.map e75) := flE fun x lv h => by
  simp only [e75, AV.leaves, List.mem_cons, List.not_mem_nil, or_false] at h
  rcases h with rfl | rfl
  all_goals exact ⟨_, rfl⟩
end Go.Proofs.Ythfflkfpmebbbaa.PFnWays
