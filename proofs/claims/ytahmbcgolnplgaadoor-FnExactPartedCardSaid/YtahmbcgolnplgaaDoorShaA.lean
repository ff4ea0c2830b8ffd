/- development: frames' texts, for both sides -/
import Derived.Test.YtahmbcgolnplgaaDoorPFnExactPartedx2
import Derived.Test.YtahmbcgolnplgaaDoorLib
import Derived.Laws.BitsLemmas
import Derived.Laws.BytesArg
import Derived.Laws.Strings
set_option linter.unusedVariables false
set_option linter.unusedSimpArgs false
namespace Go.Proofs.YtahmbcgolnplgaaDoor.PFnExactParted
open Go Go.RowKit Go.Proofs.YtahmbcgolnplgaaDoorA Go.Proofs.YtahmbcgolnplgaaDoorL
theorem lt_of {α : Type} {l : List α} {i : Nat} {x : α} (h : l[i]? = some x) : i < l.length := (List.getElem?_eq_some_iff.1 h).1
theorem wraps_i64 (n : Int) (h₀ : 0 ≤ n) (h₁ : n < 2 ^ 63) : IntKind.i64.wrap n = n := by rw [IntKind.wrap_i64]; omega
theorem wraps_u32 (n : Int) (h₀ : 0 ≤ n) (h₁ : n < 2 ^ 32) : IntKind.u32.wrap n = n := by rw [IntKind.wrap_u32]; omega
theorem and127 {x : Int} (h₀ : 0 ≤ x) (h₁ : x < 9223372036854775808) : Go.bits .and .i64 x 127 = x % 128 := bits_mask .i64 63 (by decide) wraps_i64 7 (by decide) x h₀ h₁
theorem and1 {x : Int} (h₀ : 0 ≤ x) (h₁ : x < 4294967296) : Go.bits .and .u32 x 1 = x % 2 := bits_mask .u32 32 (by decide) wraps_u32 1 (by decide) x h₀ h₁
theorem or_comm' (k : IntKind) (a b : Int) : Go.bits .or k a b = Go.bits .or k b a := by simp only [Go.bits]; rw [BitVec.or_comm]
theorem or128 {y : Int} (h₀ : 0 ≤ y) (h₁ : y < 128) : Go.bits .or .i64 y 128 = y + 128 := by
  rw [or_comm', bits_join .i64 63 (by decide) wraps_i64 7 128 y (by decide) (by decide) (by decide) h₀ h₁ (by omega)]; omega
theorem xor_bv (a b : Int) : Go.bits .xor .u32 a b = ((BitVec.ofInt 32 a ^^^ BitVec.ofInt 32 b).toNat : Int) := by
  show IntKind.u32.wrap (((BitVec.ofInt 32 a ^^^ BitVec.ofInt 32 b).toNat : Nat) : Int) = _
  have h := (BitVec.ofInt 32 a ^^^ BitVec.ofInt 32 b).isLt
  rw [IntKind.wrap_u32]
  omega
theorem ofInt_inj {a b : Int} (ha : 0 ≤ a ∧ a < 4294967296) (hb : 0 ≤ b ∧ b < 4294967296) (h : BitVec.ofInt 32 a = BitVec.ofInt 32 b) : a = b := by
  have := congrArg BitVec.toNat h
  rw [BitVec.toNat_ofInt, BitVec.toNat_ofInt] at this
  omega
theorem xor_inj {a b p : Int} (ha : 0 ≤ a ∧ a < 4294967296) (hb : 0 ≤ b ∧ b < 4294967296) (h : Go.bits .xor .u32 a p = Go.bits .xor .u32 b p) : a = b := by
  rw [xor_bv, xor_bv] at h
  have h1 : BitVec.ofInt 32 a ^^^ BitVec.ofInt 32 p = BitVec.ofInt 32 b ^^^ BitVec.ofInt 32 p := BitVec.eq_of_toNat_eq (by omega)
  refine ofInt_inj ha hb ?_
  have := congrArg (· ^^^ BitVec.ofInt 32 p) h1
  simpa [BitVec.xor_assoc] using this
theorem xor_inj' {a p q : Int} (hp : 0 ≤ p ∧ p < 4294967296) (hq : 0 ≤ q ∧ q < 4294967296) (h : Go.bits .xor .u32 a p = Go.bits .xor .u32 a q) : p = q := by
  rw [xor_bv, xor_bv] at h
  have h1 : BitVec.ofInt 32 a ^^^ BitVec.ofInt 32 p = BitVec.ofInt 32 a ^^^ BitVec.ofInt 32 q := BitVec.eq_of_toNat_eq (by omega)
  refine ofInt_inj hp hq ?_
  have := congrArg (BitVec.ofInt 32 a ^^^ ·) h1
  simpa [← BitVec.xor_assoc] using this
theorem xor_top {a : Int} (ha : 0 ≤ a ∧ a < 2147483648) : 2147483648 ≤ Go.bits .xor .u32 a 3558460437 := by
  rw [xor_bv]
  have h1 : (BitVec.ofInt 32 a).msb = false := by
    rw [BitVec.msb_eq_false_iff_two_mul_lt, BitVec.toNat_ofInt]; omega
  have h2 : (BitVec.ofInt 32 3558460437).msb = true := by decide
  have h3 : (BitVec.ofInt 32 a ^^^ BitVec.ofInt 32 3558460437).msb = true := by rw [BitVec.msb_xor, h1, h2]; rfl
  rw [BitVec.msb_eq_true_iff_two_mul_ge] at h3
  omega
def rnd (x : Int) : Int := if x % 2 = 1 then Go.bits .xor .u32 (x / 2) 3558460437 else x / 2
theorem xor_in (a b : Int) : 0 ≤ Go.bits .xor .u32 a b ∧ Go.bits .xor .u32 a b < 4294967296 := by
  rw [xor_bv]
  have h := (BitVec.ofInt 32 a ^^^ BitVec.ofInt 32 b).isLt
  omega
theorem rnd_in {x : Int} (hx : 0 ≤ x ∧ x < 4294967296) : 0 ≤ rnd x ∧ rnd x < 4294967296 := by
  unfold rnd
  split
  · exact xor_in _ _
  · omega
theorem rnd_inj {x y : Int} (hx : 0 ≤ x ∧ x < 4294967296) (hy : 0 ≤ y ∧ y < 4294967296) (h : rnd x = rnd y) : x = y := by
  unfold rnd at h
  by_cases h1 : x % 2 = 1
  · have t1 := xor_top (a := x / 2) (by omega)
    by_cases h2 : y % 2 = 1
    · rw [if_pos h1, if_pos h2] at h
      have := xor_inj (by omega) (by omega) h
      omega
    · rw [if_pos h1, if_neg h2] at h; omega
  · by_cases h2 : y % 2 = 1
    · have t2 := xor_top (a := y / 2) (by omega)
      rw [if_neg h1, if_pos h2] at h; omega
    · rw [if_neg h1, if_neg h2] at h; omega
def rnds : Nat → Int → Int
  | 0, x => x
  | n + 1, x => rnds n (rnd x)
theorem rnds_in : ∀ (n : Nat) {x : Int}, 0 ≤ x ∧ x < 4294967296 → 0 ≤ rnds n x ∧ rnds n x < 4294967296
  | 0, _, h => h
  | n + 1, _, h => rnds_in n (rnd_in h)
theorem rnds_inj : ∀ (n : Nat) {x y : Int}, 0 ≤ x ∧ x < 4294967296 → 0 ≤ y ∧ y < 4294967296 → rnds n x = rnds n y → x = y
  | 0, _, _, _, _, h => h
  | n + 1, _, _, hx, hy, h => rnd_inj hx hy (rnds_inj n (rnd_in hx) (rnd_in hy) h)
/-- The sum of bytes, from x on. -/
def sumV : List Int → Int → Int
  | [], x => x
  | b :: l, x => sumV l (rnds 8 (Go.bits .xor .u32 x b))
theorem sumV_in : ∀ (l : List Int) {x : Int}, 0 ≤ x ∧ x < 4294967296 → 0 ≤ sumV l x ∧ sumV l x < 4294967296
  | [], _, h => h
  | b :: l, _, _ => sumV_in l (rnds_in 8 (xor_in _ _))
theorem sumV_inj : ∀ (l : List Int) {x y : Int}, 0 ≤ x ∧ x < 4294967296 → 0 ≤ y ∧ y < 4294967296 → sumV l x = sumV l y → x = y
  | [], _, _, _, _, h => h
  | b :: l, _, _, hx, hy, h => xor_inj hx hy (rnds_inj 8 (xor_in _ _) (xor_in _ _) (sumV_inj l (rnds_in 8 (xor_in _ _)) (rnds_in 8 (xor_in _ _)) h))
/-- A turned byte gives another sum. -/
theorem sumV_turn : ∀ (l m : List Int) (b c x : Int), 0 ≤ x ∧ x < 4294967296 → (0 ≤ b ∧ b < 4294967296) → (0 ≤ c ∧ c < 4294967296) → sumV (l ++ b :: m) x = sumV (l ++ c :: m) x → b = c
  | [], m, b, c, x, hx, hb, hc, h => xor_inj' hb hc (rnds_inj 8 (xor_in _ _) (xor_in _ _) (sumV_inj m (rnds_in 8 (xor_in _ _)) (rnds_in 8 (xor_in _ _)) h))
  | a :: l, m, b, c, x, hx, hb, hc, h => sumV_turn l m b c _ (rnds_in 8 (xor_in _ _)) hb hc h
theorem bt_of {s : ByteArray} {i : Nat} (h : i < s.size) : (bytesOf s)[i]? = some (bt s (i : Int)) ∧ 0 ≤ bt s (i : Int) ∧ bt s (i : Int) < 256 := by
  have hl : i < s.data.toList.length := by rw [Array.length_toList]; exact h
  have e : bt s (i : Int) = ((s.data.toList[i].toNat : Nat) : Int) := by
    unfold bt
    rw [dif_pos (by simpa using h)]
    simp
    rfl
  have hb := UInt8.toNat_lt s.data.toList[i]
  refine ⟨?_, by omega, by omega⟩
  unfold bytesOf
  rw [List.getElem?_map, List.getElem?_eq_getElem hl, e]; rfl
theorem impl_rounds (s : ByteArray) (i : Nat) (hi : i < s.size) (hn : s.size ≤ 100000000) (r : Int) : ∀ (d j : Nat) (x : Int), j + d = 8 → 0 ≤ x ∧ x < 4294967296 → Ev (fun k => impl_SumMore.l1 k s (rnds d x) ((i : Int) + 1)) r → Ev (fun k => impl_SumMore.l0 k s (i : Int) x (j : Int)) r := by
  intro d
  induction d with
  | zero =>
    intro j x hj hx h
    refine Ev.step (fun _ => rfl) ?_
    simp only [impl_SumMore.l0]
    rw [w64 (x := (i : Int) + 1) (by omega) (by omega)]
    exact Ev.neg (by omega) h
  | succ d ih =>
    intro j x hj hx h
    have h2 := ih (j + 1) (rnd x) (by omega) (rnd_in hx) h
    refine Ev.step (fun _ => rfl) ?_
    simp only [impl_SumMore.l0]
    rw [w64 (x := (j : Int) + 1) (by omega) (by omega), and1 hx.1 hx.2, show x.fdiv (2 ^ 1) = x / 2 from Int.fdiv_eq_ediv_of_nonneg _ (by decide)]
    refine Ev.pos (by omega) ?_
    unfold rnd at h2
    by_cases h1 : x % 2 = 1
    · rw [if_pos h1] at h2; exact Ev.pos h1 h2
    · rw [if_neg h1] at h2; exact Ev.neg h1 h2
theorem spec_rounds (s : ByteArray) (i : Nat) (hi : i < s.size) (hn : s.size ≤ 100000000) (r : Int) : ∀ (d j : Nat) (x : Int), j + d = 8 → 0 ≤ x ∧ x < 4294967296 → Ev (fun k => spec_SumMore.l1 k s (rnds d x) ((i : Int) + 1)) r → Ev (fun k => spec_SumMore.l0 k s (i : Int) x (j : Int)) r := by
  intro d
  induction d with
  | zero =>
    intro j x hj hx h
    refine Ev.step (fun _ => rfl) ?_
    simp only [spec_SumMore.l0]
    rw [w64 (x := (i : Int) + 1) (by omega) (by omega)]
    exact Ev.neg (by omega) h
  | succ d ih =>
    intro j x hj hx h
    have h2 := ih (j + 1) (rnd x) (by omega) (rnd_in hx) h
    refine Ev.step (fun _ => rfl) ?_
    simp only [spec_SumMore.l0]
    rw [w64 (x := (j : Int) + 1) (by omega) (by omega), Int.tmod_eq_emod_of_nonneg hx.1, Int.tdiv_eq_ediv_of_nonneg hx.1, wraps_u32 (x / 2) (by omega) (by omega)]
    refine Ev.pos (by omega) ?_
    unfold rnd at h2
    by_cases h1 : x % 2 = 1
    · rw [if_pos h1] at h2; exact Ev.pos h1 h2
    · rw [if_neg h1] at h2; exact Ev.neg h1 h2
def sumS (s : ByteArray) : Int := sumV (bytesOf s) 4294967295
theorem impl_sums (s : ByteArray) (hn : s.size ≤ 100000000) : ∀ (d i : Nat) (x : Int), s.size - i = d → i ≤ s.size → 0 ≤ x ∧ x < 4294967296 → Ev (fun k => impl_SumMore.l1 k s x (i : Int)) (sumV ((bytesOf s).drop i) x) := by
  intro d
  induction d with
  | zero =>
    intro i x hd hi hx
    obtain rfl : i = s.size := by omega
    rw [List.drop_of_length_le (by rw [bytesOf_length]; omega)]
    refine Ev.step (fun _ => rfl) ?_
    simp only [impl_SumMore.l1]; exact Ev.neg (by omega) (Ev.now _)
  | succ d ih =>
    intro i x hd hi hx
    obtain ⟨hb, b0, b1⟩ := bt_of (s := s) (i := i) (by omega)
    have hl : i < (bytesOf s).length := by rw [bytesOf_length]; omega
    have e : (bytesOf s)[i] = bt s (i : Int) := by rw [List.getElem?_eq_getElem hl] at hb; exact Option.some.inj hb
    have hr := ih (i + 1) (rnds 8 (Go.bits .xor .u32 x (bt s (i : Int)))) (by omega) (by omega) (rnds_in 8 (xor_in _ _))
    rw [List.drop_eq_getElem_cons hl, e]
    refine Ev.step (fun _ => rfl) ?_
    simp only [impl_SumMore.l1]
    rw [wraps_u32 (bt s (i : Int)) (by omega) (by omega)]
    exact Ev.pos (by omega) (Ev.pos (by omega) (impl_rounds s i (by omega) hn _ 8 0 _ rfl (xor_in _ _) hr))
theorem impl_sumOf_ev (s : ByteArray) (hn : s.size ≤ 100000000) : Ev (fun k => impl_SumOf.f k s) (sumS s) := by
  unfold impl_SumOf.f impl_SumMore.f; exact Ev.bind (impl_sums s hn s.size 0 4294967295 rfl (Nat.zero_le _) (by omega)) (Ev.now _)
theorem spec_sums (s : ByteArray) (hn : s.size ≤ 100000000) : ∀ (d i : Nat) (x : Int), s.size - i = d → i ≤ s.size → 0 ≤ x ∧ x < 4294967296 → Ev (fun k => spec_SumMore.l1 k s x (i : Int)) (sumV ((bytesOf s).drop i) x) := by
  intro d
  induction d with
  | zero =>
    intro i x hd hi hx
    obtain rfl : i = s.size := by omega
    rw [List.drop_of_length_le (by rw [bytesOf_length]; omega)]
    refine Ev.step (fun _ => rfl) ?_
    simp only [spec_SumMore.l1]; exact Ev.neg (by omega) (Ev.now _)
  | succ d ih =>
    intro i x hd hi hx
    obtain ⟨hb, b0, b1⟩ := bt_of (s := s) (i := i) (by omega)
    have hl : i < (bytesOf s).length := by rw [bytesOf_length]; omega
    have e : (bytesOf s)[i] = bt s (i : Int) := by rw [List.getElem?_eq_getElem hl] at hb; exact Option.some.inj hb
    have hr := ih (i + 1) (rnds 8 (Go.bits .xor .u32 x (bt s (i : Int)))) (by omega) (by omega) (rnds_in 8 (xor_in _ _))
    rw [List.drop_eq_getElem_cons hl, e]
    refine Ev.step (fun _ => rfl) ?_
    simp only [spec_SumMore.l1]
    rw [wraps_u32 (bt s (i : Int)) (by omega) (by omega)]
    exact Ev.pos (by omega) (Ev.pos (by omega) (spec_rounds s i (by omega) hn _ 8 0 _ rfl (xor_in _ _) hr))
theorem spec_sumOf_ev (s : ByteArray) (hn : s.size ≤ 100000000) : Ev (fun k => spec_SumOf.f k s) (sumS s) := by
  unfold spec_SumOf.f spec_SumMore.f; exact Ev.bind (spec_sums s hn s.size 0 4294967295 rfl (Nat.zero_le _) (by omega)) (Ev.now _)
theorem sumOf_ev (s : ByteArray) (hn : s.size ≤ 100000000) : Ev (fun k => impl_SumOf.f k s) (sumS s) ∧ Ev (fun k => spec_SumOf.f k s) (sumS s) := ⟨impl_sumOf_ev s hn, spec_sumOf_ev s hn⟩
theorem bytesOf_str (l : List Int) (h : ∀ x ∈ l, 0 ≤ x ∧ x < 256) : bytesOf (strOfNums l) = l := by
  unfold bytesOf strOfNums
  simp only [List.map_map]
  refine (List.map_congr_left (g := id) fun x hx => ?_).trans (List.map_id l)
  have := h x hx
  simp only [Function.comp, id]
  rw [UInt8.toNat_ofNat']
  omega
theorem bytesOf_app (a b : ByteArray) : bytesOf (a ++ b) = bytesOf a ++ bytesOf b := by
  unfold bytesOf
  simp
theorem bytesOf_take (s : ByteArray) (n : Nat) : bytesOf (s.extract 0 n) = (bytesOf s).take n := by
  unfold bytesOf
  simp [ByteArray.data_extract]
theorem bytesOf_inj {a b : ByteArray} (h : bytesOf a = bytesOf b) : a = b := by
  unfold bytesOf at h
  have h2 : a.data.toList = b.data.toList := by
    refine (List.map_inj_right (f := fun x : UInt8 => (x.toNat : Int)) (fun x y hxy => ?_)).1 h
    exact UInt8.toNat_inj.1 (by omega)
  cases a; cases b
  simp at h2
  rw [h2]
/-! Bytes of a text, and the numbers they tell. -/
theorem bt_nat (s : ByteArray) (i : Nat) (h : i < s.size) : bt s (i : Int) = (s[i].toNat : Int) := by simp [bt, h]
theorem bt_range (s : ByteArray) (i : Int) : 0 ≤ bt s i ∧ bt s i < 256 := by
  unfold bt
  split
  · rename_i h; have := (s[i.toNat]'h).toNat_lt; omega
  · omega
theorem str_append (xs ys : List Int) : strOfNums (xs ++ ys) = strOfNums xs ++ strOfNums ys := by
  apply ByteArray.ext; simp [strOfNums]
theorem one_byte (s : ByteArray) (i : Nat) (h : i < s.size) : strOfNums [bt s (i : Int) % 256] = s.extract i (i + 1) := by
  rw [ByteArray.extract_add_one (by omega)]
  have hb : ((s[i].toNat : Int) % 256).toNat = s[i].toNat := by have := s[i].toNat_lt; omega
  apply ByteArray.ext
  simp [strOfNums, bt_nat s i h, hb]
theorem two_bytes (s : ByteArray) (i : Nat) (h : i + 1 < s.size) : strOfNums [bt s (i : Int) % 256, bt s ((i + 1 : Nat) : Int) % 256] = s.extract i (i + 2) := by
  rw [ByteArray.extract_eq_extract_append_extract (i + 1) (by omega) (by omega), ← one_byte s i (by omega), ← one_byte s (i + 1) (by omega), ← str_append]; rfl
theorem four_bytes (s : ByteArray) (i : Nat) (h : i + 3 < s.size) : strOfNums [bt s (i : Int) % 256, bt s ((i + 1 : Nat) : Int) % 256, bt s ((i + 2 : Nat) : Int) % 256, bt s ((i + 3 : Nat) : Int) % 256] = s.extract i (i + 4) := by
  rw [ByteArray.extract_eq_extract_append_extract (i + 2) (by omega) (by omega), ← two_bytes s i (by omega), ← two_bytes s (i + 2) (by omega), ← str_append]; rfl
def fourV (s : ByteArray) (i : Nat) : Int := bt s (i : Int) * 16777216 + bt s ((i + 1 : Nat) : Int) * 65536 + bt s ((i + 2 : Nat) : Int) * 256 + bt s ((i + 3 : Nat) : Int)
def fourS (n : Int) : ByteArray := strOfNums [(n / 16777216) % 256, (n / 65536) % 256, (n / 256) % 256, n % 256]
theorem fourV_in (s : ByteArray) (i : Nat) : 0 ≤ fourV s i ∧ fourV s i < 4294967296 := by
  have h0 := bt_range s (i : Int); have h1 := bt_range s ((i + 1 : Nat) : Int); have h2 := bt_range s ((i + 2 : Nat) : Int); have h3 := bt_range s ((i + 3 : Nat) : Int)
  unfold fourV; omega
theorem four_of (s : ByteArray) (i : Nat) (h : i + 3 < s.size) : fourS (fourV s i) = s.extract i (i + 4) := by
  rw [← four_bytes s i h]
  have h0 := bt_range s (i : Int); have h1 := bt_range s ((i + 1 : Nat) : Int); have h2 := bt_range s ((i + 2 : Nat) : Int); have h3 := bt_range s ((i + 3 : Nat) : Int)
  unfold fourS fourV
  congr 1
  simp only [List.cons.injEq, and_true]
  refine ⟨by omega, by omega, by omega, by omega⟩
theorem impl_fourAt_of (s : ByteArray) (i : Nat) (h : i + 3 < s.size) (hs : s.size ≤ 100000000) : impl_fourAt.f s (i : Int) = some (fourV s i) := by
  have h0 := bt_range s (i : Int); have h1 := bt_range s ((i + 1 : Nat) : Int); have h2 := bt_range s ((i + 2 : Nat) : Int); have h3 := bt_range s ((i + 3 : Nat) : Int)
  unfold impl_fourAt.f fourV
  rw [w64 (x := (i : Int) + 1) (by omega) (by omega), w64 (x := (i : Int) + 2) (by omega) (by omega), w64 (x := (i : Int) + 3) (by omega) (by omega)]
  rw [show (i : Int) + 1 = ((i + 1 : Nat) : Int) by omega, show (i : Int) + 2 = ((i + 2 : Nat) : Int) by omega, show (i : Int) + 3 = ((i + 3 : Nat) : Int) by omega]
  rw [if_pos (by omega), if_pos (by omega), if_pos (by omega), if_pos (by omega), if_pos (by omega), if_pos (by omega), if_pos (by omega), if_pos (by omega)]
  generalize bt s (i : Int) = b0 at *; generalize bt s ((i + 1 : Nat) : Int) = b1 at *; generalize bt s ((i + 2 : Nat) : Int) = b2 at *; generalize bt s ((i + 3 : Nat) : Int) = b3 at *
  rw [w64 (x := b0) (by omega) (by omega), w64 (x := b1) (by omega) (by omega), w64 (x := b2) (by omega) (by omega), w64 (x := b3) (by omega) (by omega)]
  rw [show (2 : Int) ^ 24 = 16777216 from rfl, show (2 : Int) ^ 16 = 65536 from rfl, show (2 : Int) ^ 8 = 256 from rfl]
  rw [w64 (x := b0 * 16777216) (by omega) (by omega), w64 (x := b1 * 65536) (by omega) (by omega), w64 (x := b2 * 256) (by omega) (by omega)]
  rw [bits_join .i64 63 (by decide) wraps_i64 24 (b0 * 16777216) (b1 * 65536) (by omega) (by omega) (by omega) (by omega) (by omega) (by omega)]
  rw [bits_join .i64 63 (by decide) wraps_i64 16 (b0 * 16777216 + b1 * 65536) (b2 * 256) (by omega) (by omega) (by omega) (by omega) (by omega) (by omega)]
  rw [bits_join .i64 63 (by decide) wraps_i64 8 (b0 * 16777216 + b1 * 65536 + b2 * 256) b3 (by omega) (by omega) (by omega) (by omega) (by omega) (by omega)]
def unsV (t : ByteArray) : ByteArray × Bool := if (4 ≤ t.size ∧ t.size ≤ 20004) ∧ sumS (t.extract 0 (t.size - 4)) = fourV t (t.size - 4) then (t.extract 0 (t.size - 4), true) else (ByteArray.empty, false)
theorem unsV_yes {t : ByteArray} (hs : 4 ≤ t.size ∧ t.size ≤ 20004) (he : sumS (t.extract 0 (t.size - 4)) = fourV t (t.size - 4)) : unsV t = (t.extract 0 (t.size - 4), true) := if_pos ⟨hs, he⟩
theorem unsV_no {t : ByteArray} (h : ¬ ((4 ≤ t.size ∧ t.size ≤ 20004) ∧ sumS (t.extract 0 (t.size - 4)) = fourV t (t.size - 4))) : unsV t = (ByteArray.empty, false) := if_neg h
theorem within_of (x lo hi : Int) : impl_within.f x lo hi = some (decide (lo ≤ x ∧ x ≤ hi)) := by
  unfold impl_within.f
  by_cases h1 : x ≥ lo
  · rw [if_pos h1]; congr 1; rw [Bool.eq_iff_iff]; simp; omega
  · rw [if_neg h1]; congr 1; rw [Bool.eq_iff_iff]; simp; omega
theorem sumS_in (s : ByteArray) : 0 ≤ sumS s ∧ sumS s < 4294967296 := sumV_in _ (by omega)
theorem spec_l01In_of (x lo hi : Int) : spec_l01In.f x lo hi = some (decide (lo ≤ x ∧ x ≤ hi)) := by
  unfold spec_l01In.f
  rw [ite_some]; congr 1; rw [Bool.eq_iff_iff]
  by_cases h : x ≥ lo <;> simp [h] <;> omega
theorem item_ok (a b c d : Int) : ∃ r : Bool, spec_ItemOk.f a b c d = some r ∧ (r = true → 0 ≤ d ∧ d ≤ 1000000000) := by
  unfold spec_ItemOk.f spec_HalfOk.f
  simp only [spec_l01In_of, Option.bind_some]
  by_cases h1 : a = 1
  · rw [if_pos h1]
    by_cases h2 : 0 ≤ b ∧ b ≤ 4294967295
    · rw [if_pos (by simpa using h2)]
      by_cases h3 : 0 ≤ c ∧ c ≤ 4294967295
      · rw [if_pos (by simpa using h3)]; exact ⟨_, rfl, fun h => by have := beq_iff_eq.1 h; omega⟩
      · rw [if_neg (by simpa using h3)]; exact ⟨_, rfl, fun h => by cases h⟩
    · rw [if_neg (by simpa using h2)]; exact ⟨_, rfl, fun h => by cases h⟩
  · rw [if_neg h1]
    by_cases h2 : a = 2
    · rw [if_pos h2]
      by_cases h3 : 1 ≤ d ∧ d ≤ 1000000000
      · rw [if_pos (by simpa using h3)]
        by_cases h4 : b = 0
        · rw [if_pos h4]; exact ⟨_, rfl, fun _ => by omega⟩
        · rw [if_neg h4]; exact ⟨_, rfl, fun h => by cases h⟩
      · rw [if_neg (by simpa using h3)]; exact ⟨_, rfl, fun h => by cases h⟩
    · rw [if_neg h2]; exact ⟨_, rfl, fun h => by cases h⟩
theorem within_eq (x lo hi : Int) : impl_within.f x lo hi = spec_l01In.f x lo hi := rfl
theorem isPid_of (a : Int) : impl_isPid.f a = spec_l01In.f a 0 2 := by
  show (spec_l01In.f a 0 2).bind (fun t => some t) = _
  cases spec_l01In.f a 0 2 <;> rfl
theorem frameOk_eq (x0 x1 x2 x3 x4 x5 x6 : Int) : impl_FrameOk.f x0 x1 x2 x3 x4 x5 x6 = spec_FrameOk.f x0 x1 x2 x3 x4 x5 x6 := by
  unfold impl_FrameOk.f spec_FrameOk.f
  rw [isPid_of]; rfl
theorem frameOk_of (x0 x1 x2 x3 x4 x5 x6 : Int) : ∃ b : Bool, spec_FrameOk.f x0 x1 x2 x3 x4 x5 x6 = some b ∧ (b = true → (0 ≤ x1 ∧ x1 ≤ 2) ∧ (1 ≤ x2 ∧ x2 ≤ 1000000000) ∧ 0 ≤ x6 ∧ x6 ≤ 1000000000) := by
  unfold spec_FrameOk.f
  simp only [spec_l01In_of, Option.bind_some]
  by_cases h1 : 0 ≤ x1 ∧ x1 ≤ 2
  · rw [if_pos (by simpa using h1)]
    by_cases h2 : 1 ≤ x2 ∧ x2 ≤ 1000000000
    · rw [if_pos (by simpa using h2)]
      by_cases h3 : x0 = 1
      · obtain ⟨r, hr, hr'⟩ := item_ok x3 x4 x5 x6
        rw [if_pos h3, hr]
        exact ⟨r, rfl, fun h => ⟨h1, h2, hr' h⟩⟩
      · rw [if_neg h3]
        by_cases h4 : x0 = 2
        · rw [if_pos h4]
          refine ⟨_, rfl, fun h => ⟨h1, h2, ?_⟩⟩
          simp at h; omega
        · rw [if_neg h4]; exact ⟨_, rfl, fun h => by cases h⟩
    · rw [if_neg (by simpa using h2)]; exact ⟨_, rfl, fun h => by cases h⟩
  · rw [if_neg (by simpa using h1)]; exact ⟨_, rfl, fun h => by cases h⟩
/-! Frames as texts: what is written, and what is read of it. -/
theorem str1 {s : ByteArray} {l : List Int} (hl : ∀ x ∈ l, 0 ≤ x ∧ x < 256) (h : bytesOf s = l) : s = strOfNums l := bytesOf_inj (by rw [h, bytesOf_str l hl])
theorem fd24 (x : Int) : x.fdiv (2 ^ 24) = x / 16777216 := Int.fdiv_eq_ediv_of_nonneg _ (by decide)
theorem fd16 (x : Int) : x.fdiv (2 ^ 16) = x / 65536 := Int.fdiv_eq_ediv_of_nonneg _ (by decide)
theorem fd8 (x : Int) : x.fdiv (2 ^ 8) = x / 256 := Int.fdiv_eq_ediv_of_nonneg _ (by decide)
theorem fd7 (x : Int) : x.fdiv (2 ^ 7) = x / 128 := Int.fdiv_eq_ediv_of_nonneg _ (by decide)
theorem impl_four_of (x : Int) : impl_four.f x = some (fourS x) := by
  unfold impl_four.f fourS
  rw [fd24, fd16, fd8, IntKind.wrap_u8, IntKind.wrap_u8, IntKind.wrap_u8, IntKind.wrap_u8]
theorem spec_four_of (x : Int) : spec_l06Four.f x = some (fourS x) := impl_four_of x
theorem spec_four2_of (x : Int) : spec_l02Four.f x = some (fourS x) := impl_four_of x
theorem fourS_size (n : Int) : (fourS n).size = 4 := by unfold fourS; rw [strOfNums_size]; rfl
theorem byte_inj {a b : Int} (ha : 0 ≤ a ∧ a < 256) (hb : 0 ≤ b ∧ b < 256) (h : UInt8.ofNat a.toNat = UInt8.ofNat b.toNat) : a = b := by
  have := congrArg UInt8.toNat h
  simp [UInt8.toNat_ofNat'] at this
  omega
theorem fourS_inj {a b : Int} (ha : 0 ≤ a ∧ a < 4294967296) (hb : 0 ≤ b ∧ b < 4294967296) (h : fourS a = fourS b) : a = b := by
  unfold fourS strOfNums at h
  simp only [List.map_cons, List.map_nil, ByteArray.mk.injEq, List.toArray_eq_toArray_eq, List.cons.injEq, and_true] at h
  have e0 := byte_inj (by omega) (by omega) h.1
  have e1 := byte_inj (by omega) (by omega) h.2.1
  have e2 := byte_inj (by omega) (by omega) h.2.2.1
  have e3 := byte_inj (by omega) (by omega) h.2.2.2
  omega
theorem same_text {a b : ByteArray} : a.toList = b.toList ↔ a = b := by
  rw [ByteArray.toList_eq, ByteArray.toList_eq]
  constructor
  · intro h; exact ByteArray.ext (Array.toList_inj.1 h)
  · rintro rfl; rfl
theorem same_beq {a b : ByteArray} : ((a.toList == b.toList) = true) ↔ a = b := by rw [beq_iff_eq]; exact same_text
/-! A number's drawing. -/
def varL : Nat → Int → List Int
  | 0, n => [n % 256]
  | d + 1, n => if n > 127 then (n % 128 + 128) :: varL d (n / 128) else [n % 256]
def varT (n : Int) : ByteArray := strOfNums (varL 4 n)
theorem varL_len : ∀ (d : Nat) (n : Int), 1 ≤ (varL d n).length ∧ (varL d n).length ≤ d + 1
  | 0, n => by simp [varL]
  | d + 1, n => by
    unfold varL
    have := varL_len d (n / 128)
    split <;> simp <;> omega
theorem varT_size (n : Int) : 1 ≤ (varT n).size ∧ (varT n).size ≤ 5 := by
  have := varL_len 4 n
  unfold varT
  rw [strOfNums_size]
  omega
theorem varL_byte : ∀ (d : Nat) (n : Int), ∀ x ∈ varL d n, 0 ≤ x ∧ x < 256
  | 0, n, x, h => by unfold varL at h; rw [List.mem_singleton] at h; omega
  | d + 1, n, x, h => by
    unfold varL at h
    split at h
    · rcases List.mem_cons.1 h with h | h
      · omega
      · exact varL_byte d _ x h
    · rw [List.mem_singleton] at h; omega
theorem bytesOf_varT (n : Int) : bytesOf (varT n) = varL 4 n := bytesOf_str _ (varL_byte 4 n)
theorem impl_var_in : ∀ (d : Nat) (n : Int) (out : List Int), 0 ≤ n → n < 128 ^ (d + 1) → out.length + d ≤ 1000 → n < 9223372036854775808 → Ev (fun k => impl_VarText.l0 k n out) (strOfNums (out ++ varL d n), true) := by
  intro d
  induction d with
  | zero =>
    intro n out h0 h1 hl _
    refine Ev.step (fun _ => rfl) ?_
    simp only [impl_VarText.l0]
    refine Ev.neg (by omega) (Ev.pos (by simp; omega) ?_)
    rw [IntKind.wrap_u8]; exact Ev.now _
  | succ d ih =>
    intro n out h0 h1 hl h2
    have hp : (128 : Int) ^ (d + 1 + 1) = 128 ^ (d + 1) * 128 := Int.pow_succ _ _
    refine Ev.step (fun _ => rfl) ?_
    simp only [impl_VarText.l0]
    unfold varL
    by_cases h : n > 127
    · rw [if_pos h]
      refine Ev.pos h (Ev.pos (by simp; omega) ?_)
      rw [and127 h0 h2, or128 (by omega) (by omega), IntKind.wrap_u8, fd7, show (n % 128 + 128) % 256 = n % 128 + 128 by omega, show out ++ (n % 128 + 128) :: varL d (n / 128) = (out ++ [n % 128 + 128]) ++ varL d (n / 128) by simp]
      exact ih (n / 128) _ (by omega) (by omega) (by simp; omega) (by omega)
    · rw [if_neg h]
      refine Ev.neg h (Ev.pos (by simp; omega) ?_)
      rw [IntKind.wrap_u8]; exact Ev.now _
theorem spec_var_in : ∀ (d : Nat) (n : Int) (out : List Int), 0 ≤ n → n < 128 ^ (d + 1) → out.length + d ≤ 1000 → n < 9223372036854775808 → Ev (fun k => spec_l01Var.l0 k n out) (strOfNums (out ++ varL d n)) := by
  intro d
  induction d with
  | zero =>
    intro n out h0 h1 hl _
    refine Ev.step (fun _ => rfl) ?_
    simp only [spec_l01Var.l0]
    refine Ev.neg (by omega) (Ev.pos (by simp; omega) ?_)
    rw [IntKind.wrap_u8]; exact Ev.now _
  | succ d ih =>
    intro n out h0 h1 hl h2
    have hp : (128 : Int) ^ (d + 1 + 1) = 128 ^ (d + 1) * 128 := Int.pow_succ _ _
    refine Ev.step (fun _ => rfl) ?_
    simp only [spec_l01Var.l0]
    unfold varL
    by_cases h : n > 127
    · rw [if_pos h]
      refine Ev.pos h (Ev.pos (by simp; omega) ?_)
      rw [Int.tmod_eq_emod_of_nonneg h0, Int.tdiv_eq_ediv_of_nonneg h0, w64 (x := n % 128 + 128) (by omega) (by omega), w64 (x := n / 128) (by omega) (by omega), IntKind.wrap_u8, show (n % 128 + 128) % 256 = n % 128 + 128 by omega, show out ++ (n % 128 + 128) :: varL d (n / 128) = (out ++ [n % 128 + 128]) ++ varL d (n / 128) by simp]
      exact ih (n / 128) _ (by omega) (by omega) (by simp; omega) (by omega)
    · rw [if_neg h]
      refine Ev.neg h (Ev.pos (by simp; omega) ?_)
      rw [IntKind.wrap_u8]; exact Ev.now _
theorem impl_var_ev (n : Int) (h0 : 0 ≤ n) (h1 : n ≤ 1000000000) : Ev (fun k => impl_VarText.f k n) (varT n, true) := by
  unfold impl_VarText.f
  exact Ev.bindc (within_of _ _ _) (Ev.pos (by simp; omega) (impl_var_in 4 n [] h0 (by omega) (by simp) (by omega)))
theorem impl_var_no (n : Int) (h1 : ¬ (0 ≤ n ∧ n ≤ 1000000000)) : Ev (fun k => impl_VarText.f k n) (ByteArray.empty, false) := by
  unfold impl_VarText.f
  exact Ev.bindc (within_of _ _ _) (Ev.neg (by simp; omega) (Ev.now _))
theorem spec_var_ev (n : Int) (h0 : 0 ≤ n) (h1 : n ≤ 1000000000) : Ev (fun k => spec_l01Var.f k n) (varT n) := by
  unfold spec_l01Var.f
  exact spec_var_in 4 n [] h0 (by omega) (by simp) (by omega)
/-! Reading a number. -/
theorem pw1 : ∀ j : Nat, j < 5 → (2 : Int) ^ min (7 * (j : Int)).toNat IntKind.i64.bits = 128 ^ j := by decide
theorem pw2 : ∀ j : Nat, j < 5 → (2 : Int) ^ (7 * j) = 128 ^ j := by decide
theorem pw3 : ∀ j : Nat, j < 6 → 1 ≤ (128 : Int) ^ j ∧ (128 : Int) ^ j ≤ 34359738368 := by decide
theorem shift_or (j : Nat) (hj : j < 5) (n c : Int) (h0 : 0 ≤ n) (h1 : n < 128 ^ j) (c0 : 0 ≤ c) (c1 : c < 128) : Go.bits .or .i64 n (wrap64 (c * 2 ^ min (wrap64 (7 * (j : Int))).toNat IntKind.i64.bits)) = n + c * 128 ^ j := by
  have hp := pw3 j (by omega)
  have m0 : 0 ≤ c * 128 ^ j := Int.mul_nonneg c0 (by omega)
  have m1 : c * 128 ^ j ≤ 127 * 34359738368 := Int.mul_le_mul (by omega) hp.2 (by omega) (by omega)
  have hm : (c * 128 ^ j) % 128 ^ j = 0 := Int.mul_emod_left _ _
  rw [w64 (x := 7 * (j : Int)) (by omega) (by omega), pw1 j hj, w64 (x := c * 128 ^ j) (by omega) (by omega), or_comm']
  rw [bits_join .i64 63 (by decide) wraps_i64 (7 * j) (c * 128 ^ j) n m0 (by rw [pw2 j hj]; exact hm) (by omega) h0 (by rw [pw2 j hj]; exact h1) (by omega)]
  omega
theorem wraps_u8 (n : Int) (h₀ : 0 ≤ n) (h₁ : n < 2 ^ 8) : IntKind.u8.wrap n = n := by rw [IntKind.wrap_u8]; omega
theorem and_u8 {x : Int} (h₀ : 0 ≤ x) (h₁ : x < 256) : Go.bits .and .u8 x 127 = x % 128 := bits_mask .u8 8 (by decide) wraps_u8 7 (by decide) x h₀ h₁
/-- What was read at a place is a number, and what stands there is its drawing. -/
def RV (s : ByteArray) (a : Nat) (m q : Int) : Prop := (0 ≤ m ∧ m ≤ 1000000000) ∧ ∃ e : Nat, q = e ∧ a < e ∧ e ≤ s.size ∧ varT m = s.extract a e
theorem bytesOf_extract (s : ByteArray) (a e : Nat) : bytesOf (s.extract a e) = ((bytesOf s).take e).drop a := by
  unfold bytesOf
  simp [ByteArray.data_extract, List.drop_take, List.map_take, List.map_drop]
/-! The text of a frame. -/
def frB (x0 x1 x2 x3 x4 x5 x6 : Int) : ByteArray := ((((strOfNums [x0 % 256, x1 % 256] ++ varT x2) ++ strOfNums [x3 % 256]) ++ fourS x4) ++ fourS x5) ++ varT x6
def selV (t : ByteArray) : ByteArray × Bool := if t.size ≤ 20000 then (t ++ fourS (sumS t), true) else (ByteArray.empty, false)
theorem frB_size (x0 x1 x2 x3 x4 x5 x6 : Int) : (frB x0 x1 x2 x3 x4 x5 x6).size = 11 + (varT x2).size + (varT x6).size := by
  unfold frB; simp only [ByteArray.size_append, strOfNums_size, fourS_size, List.length_cons, List.length_nil]; omega
theorem selV_yes {t : ByteArray} (h : t.size ≤ 20000) : selV t = (t ++ fourS (sumS t), true) := if_pos h
theorem selV_size (t : ByteArray) : (selV t).1.size ≤ t.size + 4 := by
  unfold selV
  split
  · simp only [ByteArray.size_append, fourS_size]; omega
  · exact Nat.zero_le _
theorem selV_frB (x0 x1 x2 x3 x4 x5 x6 : Int) : selV (frB x0 x1 x2 x3 x4 x5 x6) = (frB x0 x1 x2 x3 x4 x5 x6 ++ fourS (sumS (frB x0 x1 x2 x3 x4 x5 x6)), true) := by
  have h1 := varT_size x2; have h2 := varT_size x6
  exact selV_yes (by rw [frB_size]; omega)
theorem spec_sealed_ev (t : ByteArray) (h : t.size ≤ 100000000) : Ev (fun k => spec_Sealed.f k t) (selV t) := by
  unfold spec_Sealed.f selV
  have hs := spec_sumOf_ev t h
  have hi := sumS_in t
  by_cases h1 : t.size ≤ 20000
  · rw [if_pos h1]
    exact Ev.neg (by omega) (Ev.bind hs (Ev.bindc (spec_four2_of _) (Ev.pos (by rw [fourS_size]; omega) (Ev.now _))))
  · rw [if_neg h1]
    exact Ev.pos (by omega) (Ev.now _)
theorem impl_sealed_ev (t : ByteArray) (h : t.size ≤ 100000000) : Ev (fun k => impl_Sealed.f k t) (selV t) := by
  unfold impl_Sealed.f selV
  have hs := impl_sumOf_ev t h
  have hi := sumS_in t
  by_cases h1 : t.size ≤ 20000
  · rw [if_pos h1]
    refine Ev.neg (by omega) (Ev.bind hs ?_)
    rw [w64 (x := sumS t) (by omega) (by omega)]
    exact Ev.bindc (impl_four_of _) (Ev.pos (by rw [fourS_size]; omega) (Ev.now _))
  · rw [if_neg h1]
    exact Ev.pos (by omega) (Ev.now _)
theorem sealed_ev (t : ByteArray) (h : t.size ≤ 100000000) : Ev (fun k => spec_Sealed.f k t) (selV t) ∧ Ev (fun k => impl_Sealed.f k t) (selV t) := ⟨spec_sealed_ev t h, impl_sealed_ev t h⟩
theorem fourS_id {n : Int} (h : 0 ≤ n ∧ n < 4294967296) (t : ByteArray) : fourV (t ++ fourS n) t.size = n := by
  refine fourS_inj (fourV_in _ _) h ?_
  rw [four_of _ _ (by rw [ByteArray.size_append, fourS_size]; omega)]
  refine bytesOf_inj ?_
  rw [bytesOf_extract, bytesOf_app, List.take_of_length_le (by rw [List.length_append, bytesOf_length, bytesOf_length, fourS_size]; omega), List.drop_append_of_le_length (by rw [bytesOf_length]; omega), List.drop_of_length_le (by rw [bytesOf_length]; omega), List.nil_append]
theorem ext_all {t u : ByteArray} : (t ++ u).extract 0 t.size = t := by
  refine bytesOf_inj ?_
  rw [bytesOf_extract, bytesOf_app, List.drop_zero, List.take_append_of_le_length (by rw [bytesOf_length]; omega), List.take_of_length_le (by rw [bytesOf_length]; omega)]
theorem unsV_sel {t : ByteArray} (h : t.size ≤ 20000) : unsV (t ++ fourS (sumS t)) = (t, true) := by
  have e : (t ++ fourS (sumS t)).size - 4 = t.size := by rw [ByteArray.size_append, fourS_size]; omega
  have := unsV_yes (t := t ++ fourS (sumS t)) (by rw [ByteArray.size_append, fourS_size]; omega) (by rw [e, ext_all, fourS_id (sumS_in t)])
  rw [this, e, ext_all]
theorem unsV_ok {a s : ByteArray} (h : unsV a = (s, true)) : s.size + 4 = a.size ∧ s.size ≤ 20000 ∧ a = s ++ fourS (sumS s) := by
  unfold unsV at h
  split at h
  · rename_i hc
    injection h with h1 _
    subst h1
    have hz : (a.extract 0 (a.size - 4)).size = a.size - 4 := by rw [ByteArray.size_extract]; omega
    refine ⟨by omega, by omega, ?_⟩
    rw [hc.2, four_of a (a.size - 4) (by omega), ← ByteArray.extract_eq_extract_append_extract (a.size - 4) (by omega) (by omega), show a.size - 4 + 4 = a.size by omega, ByteArray.extract_zero_size]
  · injection h with _ h2
    cases h2
theorem frameText_ev {x0 x1 x2 x3 x4 x5 x6 : Int} {b : Bool} (hb : spec_FrameOk.f x0 x1 x2 x3 x4 x5 x6 = some b) : Ev (fun k => spec_FrameText.f k x0 x1 x2 x3 x4 x5 x6) (if b = true then selV (frB x0 x1 x2 x3 x4 x5 x6) else (ByteArray.empty, false)) ∧ Ev (fun k => impl_FrameText.f k x0 x1 x2 x3 x4 x5 x6) (if b = true then selV (frB x0 x1 x2 x3 x4 x5 x6) else (ByteArray.empty, false)) := by
  have hb' := (frameOk_eq x0 x1 x2 x3 x4 x5 x6).trans hb
  unfold spec_FrameText.f impl_FrameText.f
  cases b with
  | false => exact ⟨Ev.bindc hb (Ev.neg (by simp) (Ev.now _)), Ev.bindc hb' (Ev.neg (by simp) (Ev.now _))⟩
  | true =>
    obtain ⟨b, h1, h2⟩ := frameOk_of x0 x1 x2 x3 x4 x5 x6
    rw [hb] at h1
    injection h1 with h1; subst h1
    obtain ⟨_, h3, h4⟩ := h2 rfl
    have z2 := varT_size x2; have z6 := varT_size x6
    have hz := frB_size x0 x1 x2 x3 x4 x5 x6
    have hs := sealed_ev (frB x0 x1 x2 x3 x4 x5 x6) (by omega)
    rw [if_pos rfl]
    simp only [IntKind.wrap_u8]
    constructor
    · refine Ev.bindc hb (Ev.pos rfl (Ev.bind (spec_var_ev x2 (by omega) (by omega)) (Ev.pos ?_ (Ev.pos ?_ (Ev.bindc (spec_four_of _) (Ev.pos ?_ (Ev.bindc (spec_four_of _) (Ev.pos ?_ (Ev.bind (spec_var_ev x6 (by omega) (by omega)) (Ev.pos ?_ (Ev.bind hs.1 (Ev.now _))))))))))))
      all_goals (simp only [ByteArray.size_append, strOfNums_size, fourS_size, List.length_cons, List.length_nil]; omega)
    · refine Ev.bindc hb' (Ev.pos rfl (Ev.bind (impl_var_ev x2 (by omega) (by omega)) (Ev.bind (impl_var_ev x6 (by omega) (by omega)) (Ev.pos ?_ (Ev.pos ?_ (Ev.bindc (impl_four_of _) (Ev.pos ?_ (Ev.bindc (impl_four_of _) (Ev.pos ?_ (Ev.pos ?_ (Ev.bind hs.2 (Ev.now _))))))))))))
      all_goals (simp only [ByteArray.size_append, strOfNums_size, fourS_size, List.length_cons, List.length_nil]; omega)
theorem joined (s : ByteArray) (e1 e2 : Nat) (m c : Int) (h1 : 2 < e1) (h2 : e1 + 9 < e2) (h3 : e2 ≤ s.size) (v1 : varT m = s.extract 2 e1) (v2 : varT c = s.extract (e1 + 9) e2) :
    frB (bt s 0) (bt s 1) m (bt s (e1 : Int)) (fourV s (e1 + 1)) (fourV s (e1 + 5)) c = s.extract 0 e2 := by
  have t0 : strOfNums [bt s 0 % 256, bt s 1 % 256] = s.extract 0 2 := two_bytes s 0 (by omega)
  have t1 : fourS (fourV s (e1 + 1)) = s.extract (e1 + 1) (e1 + 5) := four_of s (e1 + 1) (by omega)
  have t2 : fourS (fourV s (e1 + 5)) = s.extract (e1 + 5) (e1 + 9) := four_of s (e1 + 5) (by omega)
  unfold frB
  rw [t0, t1, t2, v1, v2, one_byte s e1 (by omega)]
  rw [← ByteArray.extract_eq_extract_append_extract 2 (by omega) (by omega), ← ByteArray.extract_eq_extract_append_extract e1 (by omega) (by omega), ← ByteArray.extract_eq_extract_append_extract (e1 + 1) (by omega) (by omega), ← ByteArray.extract_eq_extract_append_extract (e1 + 5) (by omega) (by omega), ← ByteArray.extract_eq_extract_append_extract (e1 + 9) (by omega) (by omega)]
def rf0 : Int × Int × Int × Int × Int × Int × Int × Bool := (0, 0, 0, 0, 0, 0, 0, false)
/-- What was read is what the text's frame tells. -/
def FT (a : ByteArray) (r : Int × Int × Int × Int × Int × Int × Int × Bool) : Prop := r.2.2.2.2.2.2.2 = true → spec_FrameOk.f r.1 r.2.1 r.2.2.1 r.2.2.2.1 r.2.2.2.2.1 r.2.2.2.2.2.1 r.2.2.2.2.2.2.1 = some true ∧ selV (frB r.1 r.2.1 r.2.2.1 r.2.2.2.1 r.2.2.2.2.1 r.2.2.2.2.2.1 r.2.2.2.2.2.2.1) = (a, true)
theorem ft0 (a : ByteArray) : FT a rf0 := fun h => by simp [rf0] at h
end Go.Proofs.YtahmbcgolnplgaaDoor.PFnExactParted
