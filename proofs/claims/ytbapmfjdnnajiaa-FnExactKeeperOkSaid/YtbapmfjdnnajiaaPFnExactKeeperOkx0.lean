import Derived.Test.YtbapmfjdnnajiaaProg
import Derived.Test.YtbapmfjdnnajiaaA17
set_option linter.unusedVariables false
set_option linter.unusedSimpArgs false
set_option maxRecDepth 100000
namespace Go.Proofs.Ytbapmfjdnnajiaa.PFnExactKeeperOk
open Go Go.RowKit Go.Proofs.YtbapmfjdnnajiaaA
theorem hM : Try.prog.follows .mixedOrders = true := by kernel_rfl
structure S178 where
 f0 : Int
 f1 : Int
 f2 : Int
 f3 : Int
def z178 : S178 := ⟨(0 : Int), (0 : Int), (0 : Int), (0 : Int)⟩
def e178 (x : S178) : AV := .agg [.lit (.int .i64 x.f0), .lit (.int .i64 x.f1), .lit (.int .i64 x.f2), .lit (.int .i64 x.f3)]
def rd_T178 (l : List S178) (i : Int) : S178 := l.getD i.toNat z178
theorem fl178 {l : List S178} : flatL (l.map e178) := flE fun x lv h => by
  simp only [e178, AV.leaves, List.mem_cons, List.not_mem_nil, or_false] at h
  rcases h with rfl | rfl | rfl | rfl
  all_goals exact ⟨_, rfl⟩
structure S180 where
 f0 : Int
 f1 : Int
 f2 : S178
def z180 : S180 := ⟨(0 : Int), (0 : Int), z178⟩
def e180 (x : S180) : AV := .agg [.lit (.int .i64 x.f0), .lit (.int .i64 x.f1), .lit (.int .i64 x.f2.f0), .lit (.int .i64 x.f2.f1), .lit (.int .i64 x.f2.f2), .lit (.int .i64 x.f2.f3)]
def rd_T180 (l : List S180) (i : Int) : S180 := l.getD i.toNat z180
theorem fl180 {l : List S180} : flatL (l.map e180) := flE fun x lv h => by
  simp only [e180, AV.leaves, List.mem_cons, List.not_mem_nil, or_false] at h
  rcases h with rfl | rfl | rfl | rfl | rfl | rfl
  all_goals exact ⟨_, rfl⟩
structure S182 where
 f0 : Int
 f1 : Int
 f2 : S178
def z182 : S182 := ⟨(0 : Int), (0 : Int), z178⟩
def e182 (x : S182) : AV := .agg [.lit (.int .i64 x.f0), .lit (.int .i64 x.f1), .lit (.int .i64 x.f2.f0), .lit (.int .i64 x.f2.f1), .lit (.int .i64 x.f2.f2), .lit (.int .i64 x.f2.f3)]
def rd_T182 (l : List S182) (i : Int) : S182 := l.getD i.toNat z182
theorem fl182 {l : List S182} : flatL (l.map e182) := flE fun x lv h => by
  simp only [e182, AV.leaves, List.mem_cons, List.not_mem_nil, or_false] at h
  rcases h with rfl | rfl | rfl | rfl | rfl | rfl
  all_goals exact ⟨_, rfl⟩
structure S43 where
 f0 : Int
 f1 : Int
 f2 : Int
 f3 : Int
def z43 : S43 := ⟨(0 : Int), (0 : Int), (0 : Int), (0 : Int)⟩
def e43 (x : S43) : AV := .agg [.lit (.int .i64 x.f0), .lit (.int .i64 x.f1), .lit (.int .i64 x.f2), .lit (.int .i64 x.f3)]
def rd_T43 (l : List S43) (i : Int) : S43 := l.getD i.toNat z43
theorem fl43 {l : List S43} : flatL (l.map e43) := flE fun x lv h => by
  simp only [e43, AV.leaves, List.mem_cons, List.not_mem_nil, or_false] at h
  rcases h with rfl | rfl | rfl | rfl
  all_goals exact ⟨_, rfl⟩
structure S130 where
 f0 : Int
 f1 : Int
 f2 : S43
def z130 : S130 := ⟨(0 : Int), (0 : Int), z43⟩
def e130 (x : S130) : AV := .agg [.lit (.int .i64 x.f0), .lit (.int .i64 x.f1), .lit (.int .i64 x.f2.f0), .lit (.int .i64 x.f2.f1), .lit (.int .i64 x.f2.f2), .lit (.int .i64 x.f2.f3)]
def rd_T130 (l : List S130) (i : Int) : S130 := l.getD i.toNat z130
theorem fl130 {l : List S130} : flatL (l.map e130) := flE fun x lv h => by
  simp only [e130, AV.leaves, List.mem_cons, List.not_mem_nil, or_false] at h
  rcases h with rfl | rfl | rfl | rfl | rfl | rfl
  all_goals exact ⟨_, rfl⟩
structure S123 where
 f0 : Int
 f1 : Int
 f2 : S43
def z123 : S123 := ⟨(0 : Int), (0 : Int), z43⟩
def e123 (x : S123) : AV := .agg [.lit (.int .i64 x.f0), .lit (.int .i64 x.f1), .lit (.int .i64 x.f2.f0), .lit (.int .i64 x.f2.f1), .lit (.int .i64 x.f2.f2), .lit (.int .i64 x.f2.f3)]
def rd_T123 (l : List S123) (i : Int) : S123 := l.getD i.toNat z123
theorem fl123 {l : List S123} : flatL (l.map e123) := flE fun x lv h => by
  simp only [e123, AV.leaves, List.mem_cons, List.not_mem_nil, or_false] at h
  rcases h with rfl | rfl | rfl | rfl | rfl | rfl
  all_goals exact ⟨_, rfl⟩
structure S26 where
 f0 : List S180
 f1 : List Int
 f2 : List S182
 f3 : Int
 f4 : List Int
def z26 : S26 := ⟨([] : List S180), ([] : List Int), ([] : List S182), (0 : Int), ([] : List Int)⟩
def e26 (x : S26) : AV := .agg [.sl .n 6 (x.f0.map e180), .sl .n 1 (x.f1.map (eI .i64)), .sl .n 6 (x.f2.map e182), .lit (.int .i64 x.f3), .sl .n 1 (x.f4.map (eI .i64))]
def rd_T26 (l : List S26) (i : Int) : S26 := l.getD i.toNat z26
end Go.Proofs.Ytbapmfjdnnajiaa.PFnExactKeeperOk
