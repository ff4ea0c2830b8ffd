import Derived.Test.YtbapmfjdnnajiaaProg
import Derived.Test.YtbapmfjdnnajiaaA19
set_option linter.unusedVariables false
set_option linter.unusedSimpArgs false
set_option maxRecDepth 100000
namespace Go.Proofs.Ytbapmfjdnnajiaa.PFnExactTaken
open Go Go.RowKit Go.Proofs.YtbapmfjdnnajiaaA
theorem hM : Try.prog.follows .mixedOrders = true := by kernel_rfl
structure S178 where
 f0 : Int
 f1 : Int
 f2 : Int
 f3 : Int
def z178 : S178 := ⟨(0 : Int), (0 : Int), (0 : Int), (0 : Int)⟩
def e178 (x : S178) : AV := .agg [.lit (.int .i64 x.f0), .lit (.int .i64 x.f1), .lit (.int .i64 x.f2), .lit (.int .i64 x.f3)]
def rd_T178 (l : List S178) (i : Int) : S178 := l.getD i.toNat z178
theorem fl178 {l : List S178} : flatL (l.map e178) := flE fun x lv h => by
  simp only [e178, AV.leaves, List.mem_cons, List.not_mem_nil, or_false] at h
  rcases h with rfl | rfl | rfl | rfl
  all_goals exact ⟨_, rfl⟩
structure S43 where
 f0 : Int
 f1 : Int
 f2 : Int
 f3 : Int
def z43 : S43 := ⟨(0 : Int), (0 : Int), (0 : Int), (0 : Int)⟩
def e43 (x : S43) : AV := .agg [.lit (.int .i64 x.f0), .lit (.int .i64 x.f1), .lit (.int .i64 x.f2), .lit (.int .i64 x.f3)]
def rd_T43 (l : List S43) (i : Int) : S43 := l.getD i.toNat z43
theorem fl43 {l : List S43} : flatL (l.map e43) := flE fun x lv h => by
  simp only [e43, AV.leaves, List.mem_cons, List.not_mem_nil, or_false] at h
  rcases h with rfl | rfl | rfl | rfl
  all_goals exact ⟨_, rfl⟩
structure S106 where
 f0 : Int
 f1 : Int
 f2 : List S178
 f3 : Int
 f4 : Int
def z106 : S106 := ⟨(0 : Int), (0 : Int), ([] : List S178), (0 : Int), (0 : Int)⟩
def e106 (x : S106) : AV := .agg [.lit (.int .i64 x.f0), .lit (.int .i64 x.f1), .sl .n 4 (x.f2.map e178), .lit (.int .i64 x.f3), .lit (.int .i64 x.f4)]
def rd_T106 (l : List S106) (i : Int) : S106 := l.getD i.toNat z106
structure S108 where
 f0 : List S178
 f1 : Int
 f2 : Int
 f3 : Int
def z108 : S108 := ⟨([] : List S178), (0 : Int), (0 : Int), (0 : Int)⟩
def e108 (x : S108) : AV := .agg [.sl .n 4 (x.f0.map e178), .lit (.int .i64 x.f1), .lit (.int .i64 x.f2), .lit (.int .i64 x.f3)]
def rd_T108 (l : List S108) (i : Int) : S108 := l.getD i.toNat z108
end Go.Proofs.Ytbapmfjdnnajiaa.PFnExactTaken
