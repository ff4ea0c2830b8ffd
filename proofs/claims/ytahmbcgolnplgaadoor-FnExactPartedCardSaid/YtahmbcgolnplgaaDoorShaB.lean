/- development: SHA-256's words -/
import Derived.Test.YtahmbcgolnplgaaDoorShaA
set_option linter.unusedVariables false
set_option linter.unusedSimpArgs false
namespace Go.Proofs.YtahmbcgolnplgaaDoor.PFnExactParted
open Go Go.RowKit Go.Proofs.YtahmbcgolnplgaaDoorA Go.Proofs.YtahmbcgolnplgaaDoorL
/-! SHA-256: the words. -/
def rotV (a : Int) (n : Nat) : Int := bits .or .u32 (a.fdiv (2 ^ n)) (IntKind.u32.wrap (a * 2 ^ (32 - n)))
theorem spec_turn (a : Int) (n : Nat) (h0 : n ≤ 32) : spec_l03Turn.f a (n : Int) = some (rotV a n) := by
  unfold spec_l03Turn.f
  have e : IntKind.u64.wrap (32 - (n : Int)) = ((32 - n : Nat) : Int) := by simp [IntKind.wrap, IntKind.bits, IntKind.signed]; omega
  rw [if_pos (by omega), e, if_pos (by omega), show (IntKind.u32).bits = 32 from rfl, Int.toNat_natCast, Int.toNat_natCast, Nat.min_eq_left h0, Nat.min_eq_left (by omega)]
  rfl
theorem neg31 : ∀ n : Nat, n < 32 → 0 < n → bits .and .u64 (IntKind.u64.wrap (-(n : Int))) 31 = ((32 - n : Nat) : Int) := by decide +kernel
theorem impl_rot (a : Int) (n : Nat) (h0 : 0 < n) (h1 : n < 32) : bits_RotateLeft32.f a (-(n : Int)) = some (rotV a n) := by
  unfold bits_RotateLeft32.f
  rw [neg31 n h1 h0]
  have e : IntKind.u64.wrap (32 - ((32 - n : Nat) : Int)) = (n : Int) := by simp [IntKind.wrap, IntKind.bits, IntKind.signed]; omega
  rw [if_pos (by omega), e, if_pos (by omega), show (IntKind.u32).bits = 32 from rfl, Int.toNat_natCast, Int.toNat_natCast, Nat.min_eq_left (by omega), Nat.min_eq_left (by omega), or_comm']
  rfl
theorem st2 (a : Int) : spec_l03Turn.f a 2 = some (rotV a 2) := spec_turn a 2 (by decide)
theorem ir2 (a : Int) : bits_RotateLeft32.f a (-2) = some (rotV a 2) := impl_rot a 2 (by decide) (by decide)
theorem st6 (a : Int) : spec_l03Turn.f a 6 = some (rotV a 6) := spec_turn a 6 (by decide)
theorem ir6 (a : Int) : bits_RotateLeft32.f a (-6) = some (rotV a 6) := impl_rot a 6 (by decide) (by decide)
theorem st7 (a : Int) : spec_l03Turn.f a 7 = some (rotV a 7) := spec_turn a 7 (by decide)
theorem ir7 (a : Int) : bits_RotateLeft32.f a (-7) = some (rotV a 7) := impl_rot a 7 (by decide) (by decide)
theorem st11 (a : Int) : spec_l03Turn.f a 11 = some (rotV a 11) := spec_turn a 11 (by decide)
theorem ir11 (a : Int) : bits_RotateLeft32.f a (-11) = some (rotV a 11) := impl_rot a 11 (by decide) (by decide)
theorem st13 (a : Int) : spec_l03Turn.f a 13 = some (rotV a 13) := spec_turn a 13 (by decide)
theorem ir13 (a : Int) : bits_RotateLeft32.f a (-13) = some (rotV a 13) := impl_rot a 13 (by decide) (by decide)
theorem st17 (a : Int) : spec_l03Turn.f a 17 = some (rotV a 17) := spec_turn a 17 (by decide)
theorem ir17 (a : Int) : bits_RotateLeft32.f a (-17) = some (rotV a 17) := impl_rot a 17 (by decide) (by decide)
theorem st18 (a : Int) : spec_l03Turn.f a 18 = some (rotV a 18) := spec_turn a 18 (by decide)
theorem ir18 (a : Int) : bits_RotateLeft32.f a (-18) = some (rotV a 18) := impl_rot a 18 (by decide) (by decide)
theorem st19 (a : Int) : spec_l03Turn.f a 19 = some (rotV a 19) := spec_turn a 19 (by decide)
theorem ir19 (a : Int) : bits_RotateLeft32.f a (-19) = some (rotV a 19) := impl_rot a 19 (by decide) (by decide)
theorem st22 (a : Int) : spec_l03Turn.f a 22 = some (rotV a 22) := spec_turn a 22 (by decide)
theorem ir22 (a : Int) : bits_RotateLeft32.f a (-22) = some (rotV a 22) := impl_rot a 22 (by decide) (by decide)
theorem st25 (a : Int) : spec_l03Turn.f a 25 = some (rotV a 25) := spec_turn a 25 (by decide)
theorem ir25 (a : Int) : bits_RotateLeft32.f a (-25) = some (rotV a 25) := impl_rot a 25 (by decide) (by decide)
theorem xor_full (a : Int) : bits .xor .u32 4294967295 a = bits .xor .u32 a 4294967295 := by simp only [Go.bits]; rw [BitVec.xor_comm]
theorem u32_add (x y : Int) : IntKind.u32.wrap (IntKind.u32.wrap x + y) = IntKind.u32.wrap (x + y) := by rw [IntKind.wrap_u32, IntKind.wrap_u32, IntKind.wrap_u32]; omega
theorem u32_add' (x y : Int) : IntKind.u32.wrap (x + IntKind.u32.wrap y) = IntKind.u32.wrap (x + y) := by rw [IntKind.wrap_u32, IntKind.wrap_u32, IntKind.wrap_u32]; omega
theorem u32_in (x : Int) : 0 ≤ IntKind.u32.wrap x ∧ IntKind.u32.wrap x < 4294967296 := by rw [IntKind.wrap_u32]; omega
def t1V (v : List Int) (kk w : Int) : Int := IntKind.u32.wrap (IntKind.u32.wrap (IntKind.u32.wrap (IntKind.u32.wrap (rd v 7 + bits .xor .u32 (bits .xor .u32 (rotV (rd v 4) 6) (rotV (rd v 4) 11)) (rotV (rd v 4) 25)) + bits .xor .u32 (bits .and .u32 (rd v 4) (rd v 5)) (bits .and .u32 (bits .xor .u32 (rd v 4) 4294967295) (rd v 6))) + kk) + w)
def yV (v : List Int) : Int := bits .xor .u32 (bits .xor .u32 (rotV (rd v 0) 2) (rotV (rd v 0) 13)) (rotV (rd v 0) 22)
def mV (v : List Int) : Int := bits .xor .u32 (bits .xor .u32 (bits .and .u32 (rd v 0) (rd v 1)) (bits .and .u32 (rd v 0) (rd v 2))) (bits .and .u32 (rd v 1) (rd v 2))
def roundV (v : List Int) (kk w : Int) : List Int := [IntKind.u32.wrap (IntKind.u32.wrap (t1V v kk w + yV v) + mV v), rd v 0, rd v 1, rd v 2, IntKind.u32.wrap (rd v 3 + t1V v kk w), rd v 4, rd v 5, rd v 6]
set_option maxRecDepth 100000 in
theorem sets8 (q102 : List Int) (h : q102.length = 8) (T U : Int) : ((((((((q102.set 7 (rd q102 6)).set 6 (rd (q102.set 7 (rd q102 6)) 5)).set 5 (rd ((q102.set 7 (rd q102 6)).set 6 (rd (q102.set 7 (rd q102 6)) 5)) 4)).set 4 (IntKind.u32.wrap ((rd (((q102.set 7 (rd q102 6)).set 6 (rd (q102.set 7 (rd q102 6)) 5)).set 5 (rd ((q102.set 7 (rd q102 6)).set 6 (rd (q102.set 7 (rd q102 6)) 5)) 4)) 3) + T))).set 3 (rd ((((q102.set 7 (rd q102 6)).set 6 (rd (q102.set 7 (rd q102 6)) 5)).set 5 (rd ((q102.set 7 (rd q102 6)).set 6 (rd (q102.set 7 (rd q102 6)) 5)) 4)).set 4 (IntKind.u32.wrap ((rd (((q102.set 7 (rd q102 6)).set 6 (rd (q102.set 7 (rd q102 6)) 5)).set 5 (rd ((q102.set 7 (rd q102 6)).set 6 (rd (q102.set 7 (rd q102 6)) 5)) 4)) 3) + T))) 2)).set 2 (rd (((((q102.set 7 (rd q102 6)).set 6 (rd (q102.set 7 (rd q102 6)) 5)).set 5 (rd ((q102.set 7 (rd q102 6)).set 6 (rd (q102.set 7 (rd q102 6)) 5)) 4)).set 4 (IntKind.u32.wrap ((rd (((q102.set 7 (rd q102 6)).set 6 (rd (q102.set 7 (rd q102 6)) 5)).set 5 (rd ((q102.set 7 (rd q102 6)).set 6 (rd (q102.set 7 (rd q102 6)) 5)) 4)) 3) + T))).set 3 (rd ((((q102.set 7 (rd q102 6)).set 6 (rd (q102.set 7 (rd q102 6)) 5)).set 5 (rd ((q102.set 7 (rd q102 6)).set 6 (rd (q102.set 7 (rd q102 6)) 5)) 4)).set 4 (IntKind.u32.wrap ((rd (((q102.set 7 (rd q102 6)).set 6 (rd (q102.set 7 (rd q102 6)) 5)).set 5 (rd ((q102.set 7 (rd q102 6)).set 6 (rd (q102.set 7 (rd q102 6)) 5)) 4)) 3) + T))) 2)) 1)).set 1 (rd ((((((q102.set 7 (rd q102 6)).set 6 (rd (q102.set 7 (rd q102 6)) 5)).set 5 (rd ((q102.set 7 (rd q102 6)).set 6 (rd (q102.set 7 (rd q102 6)) 5)) 4)).set 4 (IntKind.u32.wrap ((rd (((q102.set 7 (rd q102 6)).set 6 (rd (q102.set 7 (rd q102 6)) 5)).set 5 (rd ((q102.set 7 (rd q102 6)).set 6 (rd (q102.set 7 (rd q102 6)) 5)) 4)) 3) + T))).set 3 (rd ((((q102.set 7 (rd q102 6)).set 6 (rd (q102.set 7 (rd q102 6)) 5)).set 5 (rd ((q102.set 7 (rd q102 6)).set 6 (rd (q102.set 7 (rd q102 6)) 5)) 4)).set 4 (IntKind.u32.wrap ((rd (((q102.set 7 (rd q102 6)).set 6 (rd (q102.set 7 (rd q102 6)) 5)).set 5 (rd ((q102.set 7 (rd q102 6)).set 6 (rd (q102.set 7 (rd q102 6)) 5)) 4)) 3) + T))) 2)).set 2 (rd (((((q102.set 7 (rd q102 6)).set 6 (rd (q102.set 7 (rd q102 6)) 5)).set 5 (rd ((q102.set 7 (rd q102 6)).set 6 (rd (q102.set 7 (rd q102 6)) 5)) 4)).set 4 (IntKind.u32.wrap ((rd (((q102.set 7 (rd q102 6)).set 6 (rd (q102.set 7 (rd q102 6)) 5)).set 5 (rd ((q102.set 7 (rd q102 6)).set 6 (rd (q102.set 7 (rd q102 6)) 5)) 4)) 3) + T))).set 3 (rd ((((q102.set 7 (rd q102 6)).set 6 (rd (q102.set 7 (rd q102 6)) 5)).set 5 (rd ((q102.set 7 (rd q102 6)).set 6 (rd (q102.set 7 (rd q102 6)) 5)) 4)).set 4 (IntKind.u32.wrap ((rd (((q102.set 7 (rd q102 6)).set 6 (rd (q102.set 7 (rd q102 6)) 5)).set 5 (rd ((q102.set 7 (rd q102 6)).set 6 (rd (q102.set 7 (rd q102 6)) 5)) 4)) 3) + T))) 2)) 1)) 0)).set 0 U) = [U, rd q102 0, rd q102 1, rd q102 2, IntKind.u32.wrap (rd q102 3 + T), rd q102 4, rd q102 5, rd q102 6] := by
  match q102, h with
  | [_, _, _, _, _, _, _, _], _ => rfl
def s0V (x : Int) : Int := bits .xor .u32 (bits .xor .u32 (rotV x 7) (rotV x 18)) (x.fdiv (2 ^ 3))
def s1V (x : Int) : Int := bits .xor .u32 (bits .xor .u32 (rotV x 17) (rotV x 19)) (x.fdiv (2 ^ 10))
def wNext (w : List Int) (i : Nat) : Int := IntKind.u32.wrap (IntKind.u32.wrap (IntKind.u32.wrap (rd w ((i : Int) - 16) + s0V (rd w ((i : Int) - 15))) + rd w ((i : Int) - 7)) + s1V (rd w ((i : Int) - 2)))
def schedW : Nat → Nat → List Int → List Int
  | 0, _, w => w
  | d + 1, i, w => schedW d (i + 1) (w.set i (wNext w i))
def roundsV : Nat → Nat → List Int → List Int → List Int → List Int
  | 0, _, v, _, _ => v
  | d + 1, i, v, w, K => roundsV d (i + 1) (roundV v (rd K (i : Int)) (rd w (i : Int))) w K
def wordsV : Nat → Nat → List Int → ByteArray → List Int
  | 0, _, w, _ => w
  | d + 1, i, w, b => wordsV d (i + 1) (w.set i (fourV b (4 * i))) b
def addV (h s : List Int) : List Int := (List.range 8).map fun i : Nat => IntKind.u32.wrap (rd h (i : Int) + rd s (i : Int))
theorem roundV_len (v : List Int) (kk w : Int) : (roundV v kk w).length = 8 := rfl
theorem rd_set {q : List Int} {i j : Nat} {x : Int} (h : i < q.length) : rd (q.set i x) (j : Int) = if i = j then x else rd q (j : Int) := by
  unfold rd
  rw [Int.toNat_natCast, List.getD_eq_getElem?_getD, List.getElem?_set, List.getD_eq_getElem?_getD]
  by_cases e : i = j
  · subst e; rw [if_pos rfl, if_pos rfl, if_pos h]; rfl
  · rw [if_neg e, if_neg e]
theorem ext8 {a b : List Int} {n : Nat} (ha : a.length = n) (hb : b.length = n) (h : ∀ j : Nat, j < n → rd a (j : Int) = rd b (j : Int)) : a = b := by
  refine List.ext_getElem (ha.trans hb.symm) fun i h1 h2 => ?_
  have := h i (by omega)
  unfold rd at this
  rw [Int.toNat_natCast, List.getD_eq_getElem?_getD, List.getD_eq_getElem?_getD, List.getElem?_eq_getElem h1, List.getElem?_eq_getElem h2] at this
  exact this
theorem addV_len (h s : List Int) : (addV h s).length = 8 := by simp [addV]
theorem rd_addV (h s : List Int) {j : Nat} (hj : j < 8) : rd (addV h s) (j : Int) = IntKind.u32.wrap (rd h (j : Int) + rd s (j : Int)) := by
  unfold addV rd
  simp [List.getD_eq_getElem?_getD, List.getElem?_map, List.getElem?_range hj]
theorem addV_in (h s : List Int) : ∀ x ∈ addV h s, 0 ≤ x ∧ x < 4294967296 := by
  intro x hx
  unfold addV at hx
  obtain ⟨i, _, rfl⟩ := List.mem_map.1 hx
  exact u32_in _
def blockV (h : List Int) (b : ByteArray) : List Int := addV h (roundsV 64 0 h (schedW 48 16 (wordsV 16 0 (List.replicate 64 0) b)) gW)
theorem schedW_len : ∀ (d i : Nat) (w : List Int), (schedW d i w).length = w.length
  | 0, _, _ => rfl
  | d + 1, i, w => by rw [schedW, schedW_len d, List.length_set]
theorem wordsV_len : ∀ (d i : Nat) (w : List Int) (b : ByteArray), (wordsV d i w b).length = w.length
  | 0, _, _, _ => rfl
  | d + 1, i, w, b => by rw [wordsV, wordsV_len d, List.length_set]
end Go.Proofs.YtahmbcgolnplgaaDoor.PFnExactParted
