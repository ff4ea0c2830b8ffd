import Derived.Test.YtfeaemlakniijaaProg
import Derived.Test.YtfeaemlakniijaaA21
set_option linter.unusedVariables false
set_option linter.unusedSimpArgs false
set_option maxRecDepth 100000
namespace Go.Proofs.Ytfeaemlakniijaa.PFnExactLogRight
open Go Go.RowKit Go.Proofs.YtfeaemlakniijaaA
theorem hM : Try.prog.follows .mixedOrders = true := by kernel_rfl
structure S214 where
 f0 : Int
 f1 : Int
 f2 : Int
 f3 : Int
def z214 : S214 := ⟨(0 : Int), (0 : Int), (0 : Int), (0 : Int)⟩
def e214 (x : S214) : AV := .agg [.lit (.int .i64 x.f0), .lit (.int .i64 x.f1), .lit (.int .i64 x.f2), .lit (.int .i64 x.f3)]
def rd_T214 (l : List S214) (i : Int) : S214 := l.getD i.toNat z214
theorem fl214 {l : List S214} : flatL (l.map e214) := flE fun x lv h => by
  simp only [e214, AV.leaves, List.mem_cons, List.not_mem_nil, or_false] at h
  rcases h with rfl | rfl | rfl | rfl
  all_goals exact ⟨_, rfl⟩
structure S194 where
 f0 : Int
 f1 : Int
 f2 : Int
 f3 : Int
def z194 : S194 := ⟨(0 : Int), (0 : Int), (0 : Int), (0 : Int)⟩
def e194 (x : S194) : AV := .agg [.lit (.int .i64 x.f0), .lit (.int .i64 x.f1), .lit (.int .i64 x.f2), .lit (.int .i64 x.f3)]
def rd_T194 (l : List S194) (i : Int) : S194 := l.getD i.toNat z194
theorem fl194 {l : List S194} : flatL (l.map e194) := flE fun x lv h => by
  simp only [e194, AV.leaves, List.mem_cons, List.not_mem_nil, or_false] at h
  rcases h with rfl | rfl | rfl | rfl
  all_goals exact ⟨_, rfl⟩
structure S150 where
 f0 : List S194
 f1 : Int
 f2 : Int
 f3 : Int
def z150 : S150 := ⟨([] : List S194), (0 : Int), (0 : Int), (0 : Int)⟩
def e150 (x : S150) : AV := .agg [.sl .n 4 (x.f0.map e194), .lit (.int .i64 x.f1), .lit (.int .i64 x.f2), .lit (.int .i64 x.f3)]
def rd_T150 (l : List S150) (i : Int) : S150 := l.getD i.toNat z150
structure S153 where
 f0 : Int
 f1 : Int
 f2 : List S194
 f3 : Int
 f4 : Int
def z153 : S153 := ⟨(0 : Int), (0 : Int), ([] : List S194), (0 : Int), (0 : Int)⟩
def e153 (x : S153) : AV := .agg [.lit (.int .i64 x.f0), .lit (.int .i64 x.f1), .sl .n 4 (x.f2.map e194), .lit (.int .i64 x.f3), .lit (.int .i64 x.f4)]
def rd_T153 (l : List S153) (i : Int) : S153 := l.getD i.toNat z153
structure S196 where
 f0 : Int
 f1 : Int
 f2 : S194
def z196 : S196 := ⟨(0 : Int), (0 : Int), z194⟩
def e196 (x : S196) : AV := .agg [.lit (.int .i64 x.f0), .lit (.int .i64 x.f1), .lit (.int .i64 x.f2.f0), .lit (.int .i64 x.f2.f1), .lit (.int .i64 x.f2.f2), .lit (.int .i64 x.f2.f3)]
def rd_T196 (l : List S196) (i : Int) : S196 := l.getD i.toNat z196
theorem fl196 {l : List S196} : flatL (l.map e196) := flE fun x lv h => by
  simp only [e196, AV.leaves, List.mem_cons, List.not_mem_nil, or_false] at h
  rcases h with rfl | rfl | rfl | rfl | rfl | rfl
  all_goals exact ⟨_, rfl⟩
structure S198 where
 f0 : Int
 f1 : Int
 f2 : S194
def z198 : S198 := ⟨(0 : Int), (0 : Int), z194⟩
def e198 (x : S198) : AV := .agg [.lit (.int .i64 x.f0), .lit (.int .i64 x.f1), .lit (.int .i64 x.f2.f0), .lit (.int .i64 x.f2.f1), .lit (.int .i64 x.f2.f2), .lit (.int .i64 x.f2.f3)]
def rd_T198 (l : List S198) (i : Int) : S198 := l.getD i.toNat z198
theorem fl198 {l : List S198} : flatL (l.map e198) := flE fun x lv h => by
  simp only [e198, AV.leaves, List.mem_cons, List.not_mem_nil, or_false] at h
  rcases h with rfl | rfl | rfl | rfl | rfl | rfl
  all_goals exact ⟨_, rfl⟩
structure S158 where
 f0 : Bool
 f1 : ByteArray
 f2 : Bool
def z158 : S158 := ⟨false, ByteArray.empty, false⟩
def e158 (x : S158) : AV := .agg [.lit (.bool x.f0), .lit (.string x.f1), .lit (.bool x.f2)]
def rd_T158 (l : List S158) (i : Int) : S158 := l.getD i.toNat z158
theorem fl158 {l : List S158} : flatL (l.map e158) := flE fun x lv h => by
  simp only [e158, AV.leaves, List.mem_cons, List.not_mem_nil, or_false] at h
  rcases h with rfl | rfl | rfl
  all_goals exact ⟨_, rfl⟩
structure S172 where
 f0 : Int
 f1 : Int
 f2 : Int
 f3 : Bool
def z172 : S172 := ⟨(0 : Int), (0 : Int), (0 : Int), false⟩
def e172 (x : S172) : AV := .agg [.lit (.int .i64 x.f0), .lit (.int .i64 x.f1), .lit (.int .i64 x.f2), .lit (.bool x.f3)]
def rd_T172 (l : List S172) (i : Int) : S172 := l.getD i.toNat z172
theorem fl172 {l : List S172} : flatL (l.map e172) := flE fun x lv h => by
  simp only [e172, AV.leaves, List.mem_cons, List.not_mem_nil, or_false] at h
  rcases h with rfl | rfl | rfl | rfl
  all_goals exact ⟨_, rfl⟩
structure S212 where
 f0 : Int
 f1 : Int
 f2 : Int
 f3 : Int
def z212 : S212 := ⟨(0 : Int), (0 : Int), (0 : Int), (0 : Int)⟩
def e212 (x : S212) : AV := .agg [.lit (.int .i64 x.f0), .lit (.int .i64 x.f1), .lit (.int .i64 x.f2), .lit (.int .i64 x.f3)]
def rd_T212 (l : List S212) (i : Int) : S212 := l.getD i.toNat z212
theorem fl212 {l : List S212} : flatL (l.map e212) := flE fun x lv h => by
  simp only [e212, AV.leaves, List.mem_cons, List.not_mem_nil, or_false] at h
  rcases h with rfl | rfl | rfl | rfl
  all_goals exact ⟨_, rfl⟩
structure S34 where
 f0 : Int
 f1 : Int
 f2 : Int
 f3 : Int
def z34 : S34 := ⟨(0 : Int), (0 : Int), (0 : Int), (0 : Int)⟩
def e34 (x : S34) : AV := .agg [.lit (.int .i64 x.f0), .lit (.int .i64 x.f1), .lit (.int .i64 x.f2), .lit (.int .i64 x.f3)]
def rd_T34 (l : List S34) (i : Int) : S34 := l.getD i.toNat z34
theorem fl34 {l : List S34} : flatL (l.map e34) := flE fun x lv h => by
  simp only [e34, AV.leaves, List.mem_cons, List.not_mem_nil, or_false] at h
  rcases h with rfl | rfl | rfl | rfl
  all_goals exact ⟨_, rfl⟩
structure S164 where
 f0 : List S34
 f1 : Int
 f2 : Int
 f3 : Int
def z164 : S164 := ⟨([] : List S34), (0 : Int), (0 : Int), (0 : Int)⟩
def e164 (x : S164) : AV := .agg [.sl .n 4 (x.f0.map e34), .lit (.int .i64 x.f1), .lit (.int .i64 x.f2), .lit (.int .i64 x.f3)]
def rd_T164 (l : List S164) (i : Int) : S164 := l.getD i.toNat z164
structure S75 where
 f0 : Int
 f1 : Int
 f2 : List S34
 f3 : Int
 f4 : Int
def z75 : S75 := ⟨(0 : Int), (0 : Int), ([] : List S34), (0 : Int), (0 : Int)⟩
def e75 (x : S75) : AV := .agg [.lit (.int .i64 x.f0), .lit (.int .i64 x.f1), .sl .n 4 (x.f2.map e34), .lit (.int .i64 x.f3), .lit (.int .i64 x.f4)]
def rd_T75 (l : List S75) (i : Int) : S75 := l.getD i.toNat z75
structure S98 where
 f0 : Int
 f1 : Int
 f2 : S34
def z98 : S98 := ⟨(0 : Int), (0 : Int), z34⟩
def e98 (x : S98) : AV := .agg [.lit (.int .i64 x.f0), .lit (.int .i64 x.f1), .lit (.int .i64 x.f2.f0), .lit (.int .i64 x.f2.f1), .lit (.int .i64 x.f2.f2), .lit (.int .i64 x.f2.f3)]
def rd_T98 (l : List S98) (i : Int) : S98 := l.getD i.toNat z98
theorem fl98 {l : List S98} : flatL (l.map e98) := flE fun x lv h => by
  simp only [e98, AV.leaves, List.mem_cons, List.not_mem_nil, or_false] at h
  rcases h with rfl | rfl | rfl | rfl | rfl | rfl
  all_goals exact ⟨_, rfl⟩
structure S97 where
 f0 : Int
 f1 : Int
 f2 : S34
def z97 : S97 := ⟨(0 : Int), (0 : Int), z34⟩
def e97 (x : S97) : AV := .agg [.lit (.int .i64 x.f0), .lit (.int .i64 x.f1), .lit (.int .i64 x.f2.f0), .lit (.int .i64 x.f2.f1), .lit (.int .i64 x.f2.f2), .lit (.int .i64 x.f2.f3)]
def rd_T97 (l : List S97) (i : Int) : S97 := l.getD i.toNat z97
theorem fl97 {l : List S97} : flatL (l.map e97) := flE fun x lv h => by
  simp only [e97, AV.leaves, List.mem_cons, List.not_mem_nil, or_false] at h
  rcases h with rfl | rfl | rfl | rfl | rfl | rfl
  all_goals exact ⟨_, rfl⟩
structure S169 where
 f0 : Bool
 f1 : ByteArray
 f2 : Bool
def z169 : S169 := ⟨false, ByteArray.empty, false⟩
def e169 (x : S169) : AV := .agg [.lit (.bool x.f0), .lit (.string x.f1), .lit (.bool x.f2)]
def rd_T169 (l : List S169) (i : Int) : S169 := l.getD i.toNat z169
theorem fl169 {l : List S169} : flatL (l.map e169) := flE fun x lv h => by
  simp only [e169, AV.leaves, List.mem_cons, List.not_mem_nil, or_false] at h
  rcases h with rfl | rfl | rfl
  all_goals exact ⟨_, rfl⟩
structure S160 where
 f0 : Int
 f1 : Int
 f2 : Int
 f3 : Bool
def z160 : S160 := ⟨(0 : Int), (0 : Int), (0 : Int), false⟩
def e160 (x : S160) : AV := .agg [.lit (.int .i64 x.f0), .lit (.int .i64 x.f1), .lit (.int .i64 x.f2), .lit (.bool x.f3)]
def rd_T160 (l : List S160) (i : Int) : S160 := l.getD i.toNat z160
theorem fl160 {l : List S160} : flatL (l.map e160) := flE fun x lv h => by
  simp only [e160, AV.leaves, List.mem_cons, List.not_mem_nil, or_false] at h
  rcases h with rfl | rfl | rfl | rfl
  all_goals exact ⟨_, rfl⟩
structure S57 where
 f0 : List S196
 f1 : List Int
 f2 : List S198
 f3 : Int
 f4 : List Int
def z57 : S57 := ⟨([] : List S196), ([] : List Int), ([] : List S198), (0 : Int), ([] : List Int)⟩
def e57 (x : S57) : AV := .agg [.sl .n 6 (x.f0.map e196), .sl .n 1 (x.f1.map (eI .i64)), .sl .n 6 (x.f2.map e198), .lit (.int .i64 x.f3), .sl .n 1 (x.f4.map (eI .i64))]
def rd_T57 (l : List S57) (i : Int) : S57 := l.getD i.toNat z57
structure S61 where
 f0 : List (List (List S214))
 f1 : List S150
 f2 : List S153
 f3 : S57
 f4 : List S158
 f5 : Int
 f6 : List Int
 f7 : List S172
def z61 : S61 := ⟨([] : List (List (List S214))), ([] : List S150), ([] : List S153), z57, ([] : List S158), (0 : Int), ([] : List Int), ([] : List S172)⟩
def e61 (x : S61) : AV := .agg [.sl .n 1 (x.f0.map (eL 1 (eL 4 (e214)))), .sl .n 4 (x.f1.map e150), .sl .n 5 (x.f2.map e153), .sl .n 6 (x.f3.f0.map e196), .sl .n 1 (x.f3.f1.map (eI .i64)), .sl .n 6 (x.f3.f2.map e198), .lit (.int .i64 x.f3.f3), .sl .n 1 (x.f3.f4.map (eI .i64)), .sl .n 3 (x.f4.map e158), .lit (.int .i64 x.f5), .sl .n 1 (x.f6.map (eI .i64)), .sl .n 4 (x.f7.map e172)]
def rd_T61 (l : List S61) (i : Int) : S61 := l.getD i.toNat z61
end Go.Proofs.Ytfeaemlakniijaa.PFnExactLogRight
