import Derived.Test.YtkkglhhkpihmgaaGreatProg
import Derived.Test.YtkkglhhkpihmgaaGreatA30
set_option linter.unusedVariables false
set_option linter.unusedSimpArgs false
set_option maxRecDepth 100000
namespace Go.Proofs.YtkkglhhkpihmgaaGreat.PFnExactCalmWorld
open Go Go.RowKit Go.Proofs.YtkkglhhkpihmgaaGreatA
theorem hM : Tryz.prog.follows .mixedOrders = true:=by kernel_rfl
structure S308 where
 f0 : Int
 f1 : Int
 f2 : Int
 f3 : Int
def z308 : S308:=⟨(0 : Int),(0 : Int),(0 : Int),(0 : Int)⟩
def e308 (x : S308) : AV:=.agg [.lit (.int .i64 x.f0),.lit (.int .i64 x.f1),.lit (.int .i64 x.f2),.lit (.int .i64 x.f3)]
def rd_T308 (l : List S308) (i : Int) : S308:=l.getD i.toNat z308
structure S266 where
 f0 : Int
 f1 : Int
 f2 : Int
 f3 : Int
def z266 : S266:=⟨(0 : Int),(0 : Int),(0 : Int),(0 : Int)⟩
def e266 (x : S266) : AV:=.agg [.lit (.int .i64 x.f0),.lit (.int .i64 x.f1),.lit (.int .i64 x.f2),.lit (.int .i64 x.f3)]
def rd_T266 (l : List S266) (i : Int) : S266:=l.getD i.toNat z266
structure S187 where
 f0 : List S266
 f1 : Int
 f2 : Int
 f3 : Int
def z187 : S187:=⟨([] : List S266),(0 : Int),(0 : Int),(0 : Int)⟩
def e187 (x : S187) : AV:=.agg [.sl .n 4 (x.f0.map e266),.lit (.int .i64 x.f1),.lit (.int .i64 x.f2),.lit (.int .i64 x.f3)]
def rd_T187 (l : List S187) (i : Int) : S187:=l.getD i.toNat z187
structure S190 where
 f0 : Int
 f1 : Int
 f2 : List S266
 f3 : Int
 f4 : Int
def z190 : S190:=⟨(0 : Int),(0 : Int),([] : List S266),(0 : Int),(0 : Int)⟩
def e190 (x : S190) : AV:=.agg [.lit (.int .i64 x.f0),.lit (.int .i64 x.f1),.sl .n 4 (x.f2.map e266),.lit (.int .i64 x.f3),.lit (.int .i64 x.f4)]
def rd_T190 (l : List S190) (i : Int) : S190:=l.getD i.toNat z190
structure S268 where
 f0 : Int
 f1 : Int
 f2 : S266
def z268 : S268:=⟨(0 : Int),(0 : Int),z266⟩
def e268 (x : S268) : AV:=.agg [.lit (.int .i64 x.f0),.lit (.int .i64 x.f1),.lit (.int .i64 x.f2.f0),.lit (.int .i64 x.f2.f1),.lit (.int .i64 x.f2.f2),.lit (.int .i64 x.f2.f3)]
def rd_T268 (l : List S268) (i : Int) : S268:=l.getD i.toNat z268
structure S270 where
 f0 : Int
 f1 : Int
 f2 : S266
def z270 : S270:=⟨(0 : Int),(0 : Int),z266⟩
def e270 (x : S270) : AV:=.agg [.lit (.int .i64 x.f0),.lit (.int .i64 x.f1),.lit (.int .i64 x.f2.f0),.lit (.int .i64 x.f2.f1),.lit (.int .i64 x.f2.f2),.lit (.int .i64 x.f2.f3)]
def rd_T270 (l : List S270) (i : Int) : S270:=l.getD i.toNat z270
structure S194 where
 f0 : Bool
 f1 : ByteArray
 f2 : Bool
def z194 : S194:=⟨false,ByteArray.empty,false⟩
def e194 (x : S194) : AV:=.agg [.lit (.bool x.f0),.lit (.string x.f1),.lit (.bool x.f2)]
def rd_T194 (l : List S194) (i : Int) : S194:=l.getD i.toNat z194
structure S210 where
 f0 : Int
 f1 : Int
 f2 : Int
 f3 : Bool
def z210 : S210:=⟨(0 : Int),(0 : Int),(0 : Int),false⟩
def e210 (x : S210) : AV:=.agg [.lit (.int .i64 x.f0),.lit (.int .i64 x.f1),.lit (.int .i64 x.f2),.lit (.bool x.f3)]
def rd_T210 (l : List S210) (i : Int) : S210:=l.getD i.toNat z210
structure S234 where
 f0 : Int
 f1 : Int
 f2 : Int
 f3 : Int
def z234 : S234:=⟨(0 : Int),(0 : Int),(0 : Int),(0 : Int)⟩
def e234 (x : S234) : AV:=.agg [.lit (.int .i64 x.f0),.lit (.int .i64 x.f1),.lit (.int .i64 x.f2),.lit (.int .i64 x.f3)]
def rd_T234 (l : List S234) (i : Int) : S234:=l.getD i.toNat z234
theorem fl234 {l : List S234} : flatL (l.map e234):=flE fun x lv h=>by
  simp only [e234,AV.leaves,List.mem_cons,List.not_mem_nil,or_false] at h
  rcases h with rfl | rfl | rfl | rfl
  all_goals exact ⟨_,rfl⟩
structure S63 where
 f0 : Int
 f1 : Int
 f2 : Int
 f3 : Int
def z63 : S63:=⟨(0 : Int),(0 : Int),(0 : Int),(0 : Int)⟩
def e63 (x : S63) : AV:=.agg [.lit (.int .i64 x.f0),.lit (.int .i64 x.f1),.lit (.int .i64 x.f2),.lit (.int .i64 x.f3)]
def rd_T63 (l : List S63) (i : Int) : S63:=l.getD i.toNat z63
theorem fl63 {l : List S63} : flatL (l.map e63):=flE fun x lv h=>by
  simp only [e63,AV.leaves,List.mem_cons,List.not_mem_nil,or_false] at h
  rcases h with rfl | rfl | rfl | rfl
  all_goals exact ⟨_,rfl⟩
structure S67 where
 f0 : List S63
 f1 : Int
 f2 : Int
 f3 : Int
def z67 : S67:=⟨([] : List S63),(0 : Int),(0 : Int),(0 : Int)⟩
def e67 (x : S67) : AV:=.agg [.sl .n 4 (x.f0.map e63),.lit (.int .i64 x.f1),.lit (.int .i64 x.f2),.lit (.int .i64 x.f3)]
def rd_T67 (l : List S67) (i : Int) : S67:=l.getD i.toNat z67
structure S65 where
 f0 : Int
 f1 : Int
 f2 : List S63
 f3 : Int
 f4 : Int
def z65 : S65:=⟨(0 : Int),(0 : Int),([] : List S63),(0 : Int),(0 : Int)⟩
def e65 (x : S65) : AV:=.agg [.lit (.int .i64 x.f0),.lit (.int .i64 x.f1),.sl .n 4 (x.f2.map e63),.lit (.int .i64 x.f3),.lit (.int .i64 x.f4)]
def rd_T65 (l : List S65) (i : Int) : S65:=l.getD i.toNat z65
structure S139 where
 f0 : Int
 f1 : Int
 f2 : S63
def z139 : S139:=⟨(0 : Int),(0 : Int),z63⟩
def e139 (x : S139) : AV:=.agg [.lit (.int .i64 x.f0),.lit (.int .i64 x.f1),.lit (.int .i64 x.f2.f0),.lit (.int .i64 x.f2.f1),.lit (.int .i64 x.f2.f2),.lit (.int .i64 x.f2.f3)]
def rd_T139 (l : List S139) (i : Int) : S139:=l.getD i.toNat z139
theorem fl139 {l : List S139} : flatL (l.map e139):=flE fun x lv h=>by
  simp only [e139,AV.leaves,List.mem_cons,List.not_mem_nil,or_false] at h
  rcases h with rfl | rfl | rfl | rfl | rfl | rfl
  all_goals exact ⟨_,rfl⟩
structure S154 where
 f0 : Int
 f1 : Int
 f2 : S63
def z154 : S154:=⟨(0 : Int),(0 : Int),z63⟩
def e154 (x : S154) : AV:=.agg [.lit (.int .i64 x.f0),.lit (.int .i64 x.f1),.lit (.int .i64 x.f2.f0),.lit (.int .i64 x.f2.f1),.lit (.int .i64 x.f2.f2),.lit (.int .i64 x.f2.f3)]
def rd_T154 (l : List S154) (i : Int) : S154:=l.getD i.toNat z154
theorem fl154 {l : List S154} : flatL (l.map e154):=flE fun x lv h=>by
  simp only [e154,AV.leaves,List.mem_cons,List.not_mem_nil,or_false] at h
  rcases h with rfl | rfl | rfl | rfl | rfl | rfl
  all_goals exact ⟨_,rfl⟩
structure S151 where
 f0 : Bool
 f1 : ByteArray
 f2 : Bool
def z151 : S151:=⟨false,ByteArray.empty,false⟩
def e151 (x : S151) : AV:=.agg [.lit (.bool x.f0),.lit (.string x.f1),.lit (.bool x.f2)]
def rd_T151 (l : List S151) (i : Int) : S151:=l.getD i.toNat z151
theorem fl151 {l : List S151} : flatL (l.map e151):=flE fun x lv h=>by
  simp only [e151,AV.leaves,List.mem_cons,List.not_mem_nil,or_false] at h
  rcases h with rfl | rfl | rfl
  all_goals exact ⟨_,rfl⟩
structure S59 where
 f0 : Int
 f1 : Int
 f2 : Int
 f3 : Bool
def z59 : S59:=⟨(0 : Int),(0 : Int),(0 : Int),false⟩
def e59 (x : S59) : AV:=.agg [.lit (.int .i64 x.f0),.lit (.int .i64 x.f1),.lit (.int .i64 x.f2),.lit (.bool x.f3)]
def rd_T59 (l : List S59) (i : Int) : S59:=l.getD i.toNat z59
theorem fl59 {l : List S59} : flatL (l.map e59):=flE fun x lv h=>by
  simp only [e59,AV.leaves,List.mem_cons,List.not_mem_nil,or_false] at h
  rcases h with rfl | rfl | rfl | rfl
  all_goals exact ⟨_,rfl⟩
structure S109 where
 f0 : Int
 f1 : Int
 f2 : Int
 f3 : S63
def z109 : S109:=⟨(0 : Int),(0 : Int),(0 : Int),z63⟩
def e109 (x : S109) : AV:=.agg [.lit (.int .i64 x.f0),.lit (.int .i64 x.f1),.lit (.int .i64 x.f2),.lit (.int .i64 x.f3.f0),.lit (.int .i64 x.f3.f1),.lit (.int .i64 x.f3.f2),.lit (.int .i64 x.f3.f3)]
def rd_T109 (l : List S109) (i : Int) : S109:=l.getD i.toNat z109
structure S29 where
 f0 : List S268
 f1 : List Int
 f2 : List S270
 f3 : Int
 f4 : List Int
def e29 (x : S29) : AV:=.agg [.sl .n 6 (x.f0.map e268),.sl .n 1 (x.f1.map (eI .i64)),.sl .n 6 (x.f2.map e270),.lit (.int .i64 x.f3),.sl .n 1 (x.f4.map (eI .i64))]
structure S33 where
 f0 : List (List (List S308))
 f1 : List S187
 f2 : List S190
 f3 : S29
 f4 : List S194
 f5 : Int
 f6 : List Int
 f7 : List S210
def e33 (x : S33) : AV:=.agg [.sl .n 1 (x.f0.map (eL 1 (eL 4 (e308)))),.sl .n 4 (x.f1.map e187),.sl .n 5 (x.f2.map e190),.sl .n 6 (x.f3.f0.map e268),.sl .n 1 (x.f3.f1.map (eI .i64)),.sl .n 6 (x.f3.f2.map e270),.lit (.int .i64 x.f3.f3),.sl .n 1 (x.f3.f4.map (eI .i64)),.sl .n 3 (x.f4.map e194),.lit (.int .i64 x.f5),.sl .n 1 (x.f6.map (eI .i64)),.sl .n 4 (x.f7.map e210)]
def ds67 : List Ds:=[.own 63 [],.v,.v,.v]
theorem cl67 {l : List S67} : clsL (l.map e67):=clE fun x lv h=>by
  simp only [e67,AV.leaves,List.mem_cons,List.not_mem_nil,or_false] at h
  rcases h with rfl | rfl | rfl | rfl
  all_goals rfl
def ds65 : List Ds:=[.v,.v,.own 63 [],.v,.v]
theorem cl65 {l : List S65} : clsL (l.map e65):=clE fun x lv h=>by
  simp only [e65,AV.leaves,List.mem_cons,List.not_mem_nil,or_false] at h
  rcases h with rfl | rfl | rfl | rfl | rfl
  all_goals rfl
theorem eq63 (d : Nat) (w : World) (a0 : Int) (a1 : Int) (a2 : Int) (a3 : Int) (b0 : Int) (b1 : Int) (b2 : Int) (b3 : Int) : (Op.equalIn (d + 2) 63 (.agg #[.int .i64 a0,.int .i64 a1,.int .i64 a2,.int .i64 a3]) (.agg #[.int .i64 b0,.int .i64 b1,.int .i64 b2,.int .i64 b3])).run Tryz.prog w = .ok (a0 == b0 && (a1 == b1 && (a2 == b2 && (a3 == b3)))) w:=by
 refine eqA_of Tryz.underlying63 (by kernel_rfl)<|eqf_cons (by rfl) (by first | (go_simp;done) | (go_simp;rfl)) (by first | (go_simp;done) | (go_simp;rfl)) (run_equalIn_int w _ _ _ _ _ _ Tryz.underlying3)<|eqf_cons (by rfl) (by first | (go_simp;done) | (go_simp;rfl)) (by first | (go_simp;done) | (go_simp;rfl)) (run_equalIn_int w _ _ _ _ _ _ Tryz.underlying3)<|eqf_cons (by rfl) (by first | (go_simp;done) | (go_simp;rfl)) (by first | (go_simp;done) | (go_simp;rfl)) (run_equalIn_int w _ _ _ _ _ _ Tryz.underlying3) ?_
 exact eqf_last (by rfl) (by first | (go_simp;done) | (go_simp;rfl)) (by first | (go_simp;done) | (go_simp;rfl)) (run_equalIn_int w _ _ _ _ _ _ Tryz.underlying3)
end Go.Proofs.YtkkglhhkpihmgaaGreat.PFnExactCalmWorld
