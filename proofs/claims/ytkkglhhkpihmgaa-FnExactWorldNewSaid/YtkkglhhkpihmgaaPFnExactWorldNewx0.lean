import Derived.Test.YtkkglhhkpihmgaaProg
import Derived.Test.YtkkglhhkpihmgaaA28
set_option linter.unusedVariables false
set_option linter.unusedSimpArgs false
set_option maxRecDepth 100000
namespace Go.Proofs.Ytkkglhhkpihmgaa.PFnExactWorldNew
open Go Go.RowKit Go.Proofs.YtkkglhhkpihmgaaA
theorem hM : Try.prog.follows .mixedOrders = true := by kernel_rfl
structure S151 where
 f0 : Int
 f1 : Int
 f2 : Int
 f3 : Int
def z151 : S151 := ⟨(0 : Int), (0 : Int), (0 : Int), (0 : Int)⟩
def e151 (x : S151) : AV := .agg [.lit (.int .i64 x.f0), .lit (.int .i64 x.f1), .lit (.int .i64 x.f2), .lit (.int .i64 x.f3)]
def rd_T151 (l : List S151) (i : Int) : S151 := l.getD i.toNat z151
theorem fl151 {l : List S151} : flatL (l.map e151) := flE fun x lv h => by
  simp only [e151, AV.leaves, List.mem_cons, List.not_mem_nil, or_false] at h
  rcases h with rfl | rfl | rfl | rfl
  all_goals exact ⟨_, rfl⟩
structure S131 where
 f0 : Int
 f1 : Int
 f2 : Int
 f3 : Int
def z131 : S131 := ⟨(0 : Int), (0 : Int), (0 : Int), (0 : Int)⟩
def e131 (x : S131) : AV := .agg [.lit (.int .i64 x.f0), .lit (.int .i64 x.f1), .lit (.int .i64 x.f2), .lit (.int .i64 x.f3)]
def rd_T131 (l : List S131) (i : Int) : S131 := l.getD i.toNat z131
theorem fl131 {l : List S131} : flatL (l.map e131) := flE fun x lv h => by
  simp only [e131, AV.leaves, List.mem_cons, List.not_mem_nil, or_false] at h
  rcases h with rfl | rfl | rfl | rfl
  all_goals exact ⟨_, rfl⟩
structure S59 where
 f0 : List S131
 f1 : Int
 f2 : Int
 f3 : Int
def z59 : S59 := ⟨([] : List S131), (0 : Int), (0 : Int), (0 : Int)⟩
def e59 (x : S59) : AV := .agg [.sl .n 4 (x.f0.map e131), .lit (.int .i64 x.f1), .lit (.int .i64 x.f2), .lit (.int .i64 x.f3)]
def rd_T59 (l : List S59) (i : Int) : S59 := l.getD i.toNat z59
structure S62 where
 f0 : Int
 f1 : Int
 f2 : List S131
 f3 : Int
 f4 : Int
def z62 : S62 := ⟨(0 : Int), (0 : Int), ([] : List S131), (0 : Int), (0 : Int)⟩
def e62 (x : S62) : AV := .agg [.lit (.int .i64 x.f0), .lit (.int .i64 x.f1), .sl .n 4 (x.f2.map e131), .lit (.int .i64 x.f3), .lit (.int .i64 x.f4)]
def rd_T62 (l : List S62) (i : Int) : S62 := l.getD i.toNat z62
structure S133 where
 f0 : Int
 f1 : Int
 f2 : S131
def z133 : S133 := ⟨(0 : Int), (0 : Int), z131⟩
def e133 (x : S133) : AV := .agg [.lit (.int .i64 x.f0), .lit (.int .i64 x.f1), .lit (.int .i64 x.f2.f0), .lit (.int .i64 x.f2.f1), .lit (.int .i64 x.f2.f2), .lit (.int .i64 x.f2.f3)]
def rd_T133 (l : List S133) (i : Int) : S133 := l.getD i.toNat z133
theorem fl133 {l : List S133} : flatL (l.map e133) := flE fun x lv h => by
  simp only [e133, AV.leaves, List.mem_cons, List.not_mem_nil, or_false] at h
  rcases h with rfl | rfl | rfl | rfl | rfl | rfl
  all_goals exact ⟨_, rfl⟩
structure S135 where
 f0 : Int
 f1 : Int
 f2 : S131
def z135 : S135 := ⟨(0 : Int), (0 : Int), z131⟩
def e135 (x : S135) : AV := .agg [.lit (.int .i64 x.f0), .lit (.int .i64 x.f1), .lit (.int .i64 x.f2.f0), .lit (.int .i64 x.f2.f1), .lit (.int .i64 x.f2.f2), .lit (.int .i64 x.f2.f3)]
def rd_T135 (l : List S135) (i : Int) : S135 := l.getD i.toNat z135
theorem fl135 {l : List S135} : flatL (l.map e135) := flE fun x lv h => by
  simp only [e135, AV.leaves, List.mem_cons, List.not_mem_nil, or_false] at h
  rcases h with rfl | rfl | rfl | rfl | rfl | rfl
  all_goals exact ⟨_, rfl⟩
structure S99 where
 f0 : Bool
 f1 : ByteArray
 f2 : Bool
def z99 : S99 := ⟨false, ByteArray.empty, false⟩
def e99 (x : S99) : AV := .agg [.lit (.bool x.f0), .lit (.string x.f1), .lit (.bool x.f2)]
def rd_T99 (l : List S99) (i : Int) : S99 := l.getD i.toNat z99
theorem fl99 {l : List S99} : flatL (l.map e99) := flE fun x lv h => by
  simp only [e99, AV.leaves, List.mem_cons, List.not_mem_nil, or_false] at h
  rcases h with rfl | rfl | rfl
  all_goals exact ⟨_, rfl⟩
structure S83 where
 f0 : Int
 f1 : Int
 f2 : Int
 f3 : Bool
def z83 : S83 := ⟨(0 : Int), (0 : Int), (0 : Int), false⟩
def e83 (x : S83) : AV := .agg [.lit (.int .i64 x.f0), .lit (.int .i64 x.f1), .lit (.int .i64 x.f2), .lit (.bool x.f3)]
def rd_T83 (l : List S83) (i : Int) : S83 := l.getD i.toNat z83
theorem fl83 {l : List S83} : flatL (l.map e83) := flE fun x lv h => by
  simp only [e83, AV.leaves, List.mem_cons, List.not_mem_nil, or_false] at h
  rcases h with rfl | rfl | rfl | rfl
  all_goals exact ⟨_, rfl⟩
def ds59 : List Ds := [.own 131 [], .v, .v, .v]
theorem cl59 {l : List S59} : clsL (l.map e59) := clE fun x lv h => by
  simp only [e59, AV.leaves, List.mem_cons, List.not_mem_nil, or_false] at h
  rcases h with rfl | rfl | rfl | rfl
  all_goals rfl
def ds62 : List Ds := [.v, .v, .own 131 [], .v, .v]
theorem cl62 {l : List S62} : clsL (l.map e62) := clE fun x lv h => by
  simp only [e62, AV.leaves, List.mem_cons, List.not_mem_nil, or_false] at h
  rcases h with rfl | rfl | rfl | rfl | rfl
  all_goals rfl
end Go.Proofs.Ytkkglhhkpihmgaa.PFnExactWorldNew
