import Derived.Test.YtkkglhhkpihmgaaProg
import Derived.Test.YtkkglhhkpihmgaaA28
set_option linter.unusedVariables false
set_option linter.unusedSimpArgs false
set_option maxRecDepth 100000
namespace Go.Proofs.Ytkkglhhkpihmgaa.PFnExactFiledOf
open Go Go.RowKit Go.Proofs.YtkkglhhkpihmgaaA
theorem hM : Try.prog.follows .mixedOrders = true := by kernel_rfl
structure S154 where
 f0 : Int
 f1 : Int
 f2 : Int
 f3 : Int
def z154 : S154 := ⟨(0 : Int), (0 : Int), (0 : Int), (0 : Int)⟩
def e154 (x : S154) : AV := .agg [.lit (.int .i64 x.f0), .lit (.int .i64 x.f1), .lit (.int .i64 x.f2), .lit (.int .i64 x.f3)]
def rd_T154 (l : List S154) (i : Int) : S154 := l.getD i.toNat z154
theorem fl154 {l : List S154} : flatL (l.map e154) := flE fun x lv h => by
  simp only [e154, AV.leaves, List.mem_cons, List.not_mem_nil, or_false] at h
  rcases h with rfl | rfl | rfl | rfl
  all_goals exact ⟨_, rfl⟩
structure S144 where
 f0 : Int
 f1 : Int
 f2 : Int
 f3 : Int
def z144 : S144 := ⟨(0 : Int), (0 : Int), (0 : Int), (0 : Int)⟩
def e144 (x : S144) : AV := .agg [.lit (.int .i64 x.f0), .lit (.int .i64 x.f1), .lit (.int .i64 x.f2), .lit (.int .i64 x.f3)]
def rd_T144 (l : List S144) (i : Int) : S144 := l.getD i.toNat z144
theorem fl144 {l : List S144} : flatL (l.map e144) := flE fun x lv h => by
  simp only [e144, AV.leaves, List.mem_cons, List.not_mem_nil, or_false] at h
  rcases h with rfl | rfl | rfl | rfl
  all_goals exact ⟨_, rfl⟩
structure S110 where
 f0 : List S144
 f1 : Int
 f2 : Int
 f3 : Int
def z110 : S110 := ⟨([] : List S144), (0 : Int), (0 : Int), (0 : Int)⟩
def e110 (x : S110) : AV := .agg [.sl .n 4 (x.f0.map e144), .lit (.int .i64 x.f1), .lit (.int .i64 x.f2), .lit (.int .i64 x.f3)]
def rd_T110 (l : List S110) (i : Int) : S110 := l.getD i.toNat z110
structure S113 where
 f0 : Int
 f1 : Int
 f2 : List S144
 f3 : Int
 f4 : Int
def z113 : S113 := ⟨(0 : Int), (0 : Int), ([] : List S144), (0 : Int), (0 : Int)⟩
def e113 (x : S113) : AV := .agg [.lit (.int .i64 x.f0), .lit (.int .i64 x.f1), .sl .n 4 (x.f2.map e144), .lit (.int .i64 x.f3), .lit (.int .i64 x.f4)]
def rd_T113 (l : List S113) (i : Int) : S113 := l.getD i.toNat z113
structure S146 where
 f0 : Int
 f1 : Int
 f2 : S144
def z146 : S146 := ⟨(0 : Int), (0 : Int), z144⟩
def e146 (x : S146) : AV := .agg [.lit (.int .i64 x.f0), .lit (.int .i64 x.f1), .lit (.int .i64 x.f2.f0), .lit (.int .i64 x.f2.f1), .lit (.int .i64 x.f2.f2), .lit (.int .i64 x.f2.f3)]
def rd_T146 (l : List S146) (i : Int) : S146 := l.getD i.toNat z146
theorem fl146 {l : List S146} : flatL (l.map e146) := flE fun x lv h => by
  simp only [e146, AV.leaves, List.mem_cons, List.not_mem_nil, or_false] at h
  rcases h with rfl | rfl | rfl | rfl | rfl | rfl
  all_goals exact ⟨_, rfl⟩
structure S148 where
 f0 : Int
 f1 : Int
 f2 : S144
def z148 : S148 := ⟨(0 : Int), (0 : Int), z144⟩
def e148 (x : S148) : AV := .agg [.lit (.int .i64 x.f0), .lit (.int .i64 x.f1), .lit (.int .i64 x.f2.f0), .lit (.int .i64 x.f2.f1), .lit (.int .i64 x.f2.f2), .lit (.int .i64 x.f2.f3)]
def rd_T148 (l : List S148) (i : Int) : S148 := l.getD i.toNat z148
theorem fl148 {l : List S148} : flatL (l.map e148) := flE fun x lv h => by
  simp only [e148, AV.leaves, List.mem_cons, List.not_mem_nil, or_false] at h
  rcases h with rfl | rfl | rfl | rfl | rfl | rfl
  all_goals exact ⟨_, rfl⟩
structure S117 where
 f0 : Bool
 f1 : ByteArray
 f2 : Bool
def z117 : S117 := ⟨false, ByteArray.empty, false⟩
def e117 (x : S117) : AV := .agg [.lit (.bool x.f0), .lit (.string x.f1), .lit (.bool x.f2)]
def rd_T117 (l : List S117) (i : Int) : S117 := l.getD i.toNat z117
theorem fl117 {l : List S117} : flatL (l.map e117) := flE fun x lv h => by
  simp only [e117, AV.leaves, List.mem_cons, List.not_mem_nil, or_false] at h
  rcases h with rfl | rfl | rfl
  all_goals exact ⟨_, rfl⟩
structure S125 where
 f0 : Int
 f1 : Int
 f2 : Int
 f3 : Bool
def z125 : S125 := ⟨(0 : Int), (0 : Int), (0 : Int), false⟩
def e125 (x : S125) : AV := .agg [.lit (.int .i64 x.f0), .lit (.int .i64 x.f1), .lit (.int .i64 x.f2), .lit (.bool x.f3)]
def rd_T125 (l : List S125) (i : Int) : S125 := l.getD i.toNat z125
theorem fl125 {l : List S125} : flatL (l.map e125) := flE fun x lv h => by
  simp only [e125, AV.leaves, List.mem_cons, List.not_mem_nil, or_false] at h
  rcases h with rfl | rfl | rfl | rfl
  all_goals exact ⟨_, rfl⟩
structure S151 where
 f0 : Int
 f1 : Int
 f2 : Int
 f3 : Int
def z151 : S151 := ⟨(0 : Int), (0 : Int), (0 : Int), (0 : Int)⟩
def e151 (x : S151) : AV := .agg [.lit (.int .i64 x.f0), .lit (.int .i64 x.f1), .lit (.int .i64 x.f2), .lit (.int .i64 x.f3)]
def rd_T151 (l : List S151) (i : Int) : S151 := l.getD i.toNat z151
theorem fl151 {l : List S151} : flatL (l.map e151) := flE fun x lv h => by
  simp only [e151, AV.leaves, List.mem_cons, List.not_mem_nil, or_false] at h
  rcases h with rfl | rfl | rfl | rfl
  all_goals exact ⟨_, rfl⟩
structure S131 where
 f0 : Int
 f1 : Int
 f2 : Int
 f3 : Int
def z131 : S131 := ⟨(0 : Int), (0 : Int), (0 : Int), (0 : Int)⟩
def e131 (x : S131) : AV := .agg [.lit (.int .i64 x.f0), .lit (.int .i64 x.f1), .lit (.int .i64 x.f2), .lit (.int .i64 x.f3)]
def rd_T131 (l : List S131) (i : Int) : S131 := l.getD i.toNat z131
theorem fl131 {l : List S131} : flatL (l.map e131) := flE fun x lv h => by
  simp only [e131, AV.leaves, List.mem_cons, List.not_mem_nil, or_false] at h
  rcases h with rfl | rfl | rfl | rfl
  all_goals exact ⟨_, rfl⟩
structure S59 where
 f0 : List S131
 f1 : Int
 f2 : Int
 f3 : Int
def z59 : S59 := ⟨([] : List S131), (0 : Int), (0 : Int), (0 : Int)⟩
def e59 (x : S59) : AV := .agg [.sl .n 4 (x.f0.map e131), .lit (.int .i64 x.f1), .lit (.int .i64 x.f2), .lit (.int .i64 x.f3)]
def rd_T59 (l : List S59) (i : Int) : S59 := l.getD i.toNat z59
structure S62 where
 f0 : Int
 f1 : Int
 f2 : List S131
 f3 : Int
 f4 : Int
def z62 : S62 := ⟨(0 : Int), (0 : Int), ([] : List S131), (0 : Int), (0 : Int)⟩
def e62 (x : S62) : AV := .agg [.lit (.int .i64 x.f0), .lit (.int .i64 x.f1), .sl .n 4 (x.f2.map e131), .lit (.int .i64 x.f3), .lit (.int .i64 x.f4)]
def rd_T62 (l : List S62) (i : Int) : S62 := l.getD i.toNat z62
structure S133 where
 f0 : Int
 f1 : Int
 f2 : S131
def z133 : S133 := ⟨(0 : Int), (0 : Int), z131⟩
def e133 (x : S133) : AV := .agg [.lit (.int .i64 x.f0), .lit (.int .i64 x.f1), .lit (.int .i64 x.f2.f0), .lit (.int .i64 x.f2.f1), .lit (.int .i64 x.f2.f2), .lit (.int .i64 x.f2.f3)]
def rd_T133 (l : List S133) (i : Int) : S133 := l.getD i.toNat z133
theorem fl133 {l : List S133} : flatL (l.map e133) := flE fun x lv h => by
  simp only [e133, AV.leaves, List.mem_cons, List.not_mem_nil, or_false] at h
  rcases h with rfl | rfl | rfl | rfl | rfl | rfl
  all_goals exact ⟨_, rfl⟩
structure S135 where
 f0 : Int
 f1 : Int
 f2 : S131
def z135 : S135 := ⟨(0 : Int), (0 : Int), z131⟩
def e135 (x : S135) : AV := .agg [.lit (.int .i64 x.f0), .lit (.int .i64 x.f1), .lit (.int .i64 x.f2.f0), .lit (.int .i64 x.f2.f1), .lit (.int .i64 x.f2.f2), .lit (.int .i64 x.f2.f3)]
def rd_T135 (l : List S135) (i : Int) : S135 := l.getD i.toNat z135
theorem fl135 {l : List S135} : flatL (l.map e135) := flE fun x lv h => by
  simp only [e135, AV.leaves, List.mem_cons, List.not_mem_nil, or_false] at h
  rcases h with rfl | rfl | rfl | rfl | rfl | rfl
  all_goals exact ⟨_, rfl⟩
structure S99 where
 f0 : Bool
 f1 : ByteArray
 f2 : Bool
def z99 : S99 := ⟨false, ByteArray.empty, false⟩
def e99 (x : S99) : AV := .agg [.lit (.bool x.f0), .lit (.string x.f1), .lit (.bool x.f2)]
def rd_T99 (l : List S99) (i : Int) : S99 := l.getD i.toNat z99
theorem fl99 {l : List S99} : flatL (l.map e99) := flE fun x lv h => by
  simp only [e99, AV.leaves, List.mem_cons, List.not_mem_nil, or_false] at h
  rcases h with rfl | rfl | rfl
  all_goals exact ⟨_, rfl⟩
structure S83 where
 f0 : Int
 f1 : Int
 f2 : Int
 f3 : Bool
def z83 : S83 := ⟨(0 : Int), (0 : Int), (0 : Int), false⟩
def e83 (x : S83) : AV := .agg [.lit (.int .i64 x.f0), .lit (.int .i64 x.f1), .lit (.int .i64 x.f2), .lit (.bool x.f3)]
def rd_T83 (l : List S83) (i : Int) : S83 := l.getD i.toNat z83
theorem fl83 {l : List S83} : flatL (l.map e83) := flE fun x lv h => by
  simp only [e83, AV.leaves, List.mem_cons, List.not_mem_nil, or_false] at h
  rcases h with rfl | rfl | rfl | rfl
  all_goals exact ⟨_, rfl⟩
structure S44 where
 f0 : List S146
 f1 : List Int
 f2 : List S148
 f3 : Int
 f4 : List Int
def z44 : S44 := ⟨([] : List S146), ([] : List Int), ([] : List S148), (0 : Int), ([] : List Int)⟩
def e44 (x : S44) : AV := .agg [.sl .n 6 (x.f0.map e146), .sl .n 1 (x.f1.map (eI .i64)), .sl .n 6 (x.f2.map e148), .lit (.int .i64 x.f3), .sl .n 1 (x.f4.map (eI .i64))]
def rd_T44 (l : List S44) (i : Int) : S44 := l.getD i.toNat z44
structure S48 where
 f0 : List (List (List S154))
 f1 : List S110
 f2 : List S113
 f3 : S44
 f4 : List S117
 f5 : Int
 f6 : List Int
 f7 : List S125
def z48 : S48 := ⟨([] : List (List (List S154))), ([] : List S110), ([] : List S113), z44, ([] : List S117), (0 : Int), ([] : List Int), ([] : List S125)⟩
def e48 (x : S48) : AV := .agg [.sl .n 1 (x.f0.map (eL 1 (eL 4 (e154)))), .sl .n 4 (x.f1.map e110), .sl .n 5 (x.f2.map e113), .sl .n 6 (x.f3.f0.map e146), .sl .n 1 (x.f3.f1.map (eI .i64)), .sl .n 6 (x.f3.f2.map e148), .lit (.int .i64 x.f3.f3), .sl .n 1 (x.f3.f4.map (eI .i64)), .sl .n 3 (x.f4.map e117), .lit (.int .i64 x.f5), .sl .n 1 (x.f6.map (eI .i64)), .sl .n 4 (x.f7.map e125)]
def rd_T48 (l : List S48) (i : Int) : S48 := l.getD i.toNat z48
def ds110 : List Ds := [.own 144 [], .v, .v, .v]
theorem cl110 {l : List S110} : clsL (l.map e110) := clE fun x lv h => by
  simp only [e110, AV.leaves, List.mem_cons, List.not_mem_nil, or_false] at h
  rcases h with rfl | rfl | rfl | rfl
  all_goals rfl
def ds113 : List Ds := [.v, .v, .own 144 [], .v, .v]
theorem cl113 {l : List S113} : clsL (l.map e113) := clE fun x lv h => by
  simp only [e113, AV.leaves, List.mem_cons, List.not_mem_nil, or_false] at h
  rcases h with rfl | rfl | rfl | rfl | rfl
  all_goals rfl
def ds59 : List Ds := [.own 131 [], .v, .v, .v]
theorem cl59 {l : List S59} : clsL (l.map e59) := clE fun x lv h => by
  simp only [e59, AV.leaves, List.mem_cons, List.not_mem_nil, or_false] at h
  rcases h with rfl | rfl | rfl | rfl
  all_goals rfl
def ds62 : List Ds := [.v, .v, .own 131 [], .v, .v]
theorem cl62 {l : List S62} : clsL (l.map e62) := clE fun x lv h => by
  simp only [e62, AV.leaves, List.mem_cons, List.not_mem_nil, or_false] at h
  rcases h with rfl | rfl | rfl | rfl | rfl
  all_goals rfl
def ds44 : List Ds := [.own 146 [], .own 3 [], .own 148 [], .v, .own 3 []]
theorem cl44 {l : List S44} : clsL (l.map e44) := clE fun x lv h => by
  simp only [e44, AV.leaves, List.mem_cons, List.not_mem_nil, or_false] at h
  rcases h with rfl | rfl | rfl | rfl | rfl
  all_goals rfl
def ds48 : List Ds := [.own 106 [.own 139 [.own 154 []]], .own 110 ds110, .own 113 ds113, .own 146 [], .own 3 [], .own 148 [], .v, .own 3 [], .own 117 [], .v, .own 3 [], .own 125 []]
theorem cl48 {l : List S48} : clsL (l.map e48) := clE fun x lv h => by
  simp only [e48, AV.leaves, List.mem_cons, List.not_mem_nil, or_false] at h
  rcases h with rfl | rfl | rfl | rfl | rfl | rfl | rfl | rfl | rfl | rfl | rfl | rfl
  all_goals rfl
end Go.Proofs.Ytkkglhhkpihmgaa.PFnExactFiledOf
