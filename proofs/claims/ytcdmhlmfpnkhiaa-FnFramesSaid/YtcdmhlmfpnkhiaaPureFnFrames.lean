/- laws.FnFrames returns true at every input. No condition. -/
import Derived.Test.YtcdmhlmfpnkhiaaExFnFrames
import Derived.Test.YtcdmhlmfpnkhiaaArgFnFrames
set_option linter.unusedVariables false
set_option linter.unusedSimpArgs false
namespace Go.Proofs.Ytcdmhlmfpnkhiaa.PFnFrames
open Go.RowKit Go.Proofs.YtcdmhlmfpnkhiaaA Go.Proofs.YtcdmhlmfpnkhiaaL Go.Proofs.Ytcdmhlmfpnkhiaa.AFnFrames
theorem i64_of {x : Int} (h : OkN .i64 x) : -9223372036854775808 ≤ x ∧ x ≤ 9223372036854775807 := bounds_i64 h
theorem wraps_i64 (n : Int) (h₀ : 0 ≤ n) (h₁ : n < 2 ^ 63) : IntKind.i64.wrap n = n := by rw [IntKind.wrap_i64]; omega
theorem wraps_u32 (n : Int) (h₀ : 0 ≤ n) (h₁ : n < 2 ^ 32) : IntKind.u32.wrap n = n := by rw [IntKind.wrap_u32]; omega
theorem and127 {x : Int} (h₀ : 0 ≤ x) (h₁ : x < 9223372036854775808) : Go.bits .and .i64 x 127 = x % 128 := bits_mask .i64 63 (by decide) wraps_i64 7 (by decide) x h₀ h₁
theorem and1 {x : Int} (h₀ : 0 ≤ x) (h₁ : x < 4294967296) : Go.bits .and .u32 x 1 = x % 2 := bits_mask .u32 32 (by decide) wraps_u32 1 (by decide) x h₀ h₁
theorem or_comm' (k : IntKind) (a b : Int) : Go.bits .or k a b = Go.bits .or k b a := by simp only [Go.bits]; rw [BitVec.or_comm]
theorem or128 {y : Int} (h₀ : 0 ≤ y) (h₁ : y < 128) : Go.bits .or .i64 y 128 = y + 128 := by
  rw [or_comm', bits_join .i64 63 (by decide) wraps_i64 7 128 y (by decide) (by decide) (by decide) h₀ h₁ (by omega)]; omega
theorem xor_bv (a b : Int) : Go.bits .xor .u32 a b = ((BitVec.ofInt 32 a ^^^ BitVec.ofInt 32 b).toNat : Int) := by
  show IntKind.u32.wrap (((BitVec.ofInt 32 a ^^^ BitVec.ofInt 32 b).toNat : Nat) : Int) = _
  have h := (BitVec.ofInt 32 a ^^^ BitVec.ofInt 32 b).isLt
  rw [IntKind.wrap_u32]
  omega
theorem ofInt_inj {a b : Int} (ha : 0 ≤ a ∧ a < 4294967296) (hb : 0 ≤ b ∧ b < 4294967296) (h : BitVec.ofInt 32 a = BitVec.ofInt 32 b) : a = b := by
  have := congrArg BitVec.toNat h
  rw [BitVec.toNat_ofInt, BitVec.toNat_ofInt] at this
  omega
theorem xor_inj {a b p : Int} (ha : 0 ≤ a ∧ a < 4294967296) (hb : 0 ≤ b ∧ b < 4294967296) (h : Go.bits .xor .u32 a p = Go.bits .xor .u32 b p) : a = b := by
  rw [xor_bv, xor_bv] at h
  have h1 : BitVec.ofInt 32 a ^^^ BitVec.ofInt 32 p = BitVec.ofInt 32 b ^^^ BitVec.ofInt 32 p := BitVec.eq_of_toNat_eq (by omega)
  refine ofInt_inj ha hb ?_
  have := congrArg (· ^^^ BitVec.ofInt 32 p) h1
  simpa [BitVec.xor_assoc] using this
theorem xor_inj' {a p q : Int} (hp : 0 ≤ p ∧ p < 4294967296) (hq : 0 ≤ q ∧ q < 4294967296) (h : Go.bits .xor .u32 a p = Go.bits .xor .u32 a q) : p = q := by
  rw [xor_bv, xor_bv] at h
  have h1 : BitVec.ofInt 32 a ^^^ BitVec.ofInt 32 p = BitVec.ofInt 32 a ^^^ BitVec.ofInt 32 q := BitVec.eq_of_toNat_eq (by omega)
  refine ofInt_inj hp hq ?_
  have := congrArg (BitVec.ofInt 32 a ^^^ ·) h1
  simpa [← BitVec.xor_assoc] using this
theorem xor_top {a : Int} (ha : 0 ≤ a ∧ a < 2147483648) : 2147483648 ≤ Go.bits .xor .u32 a 3558460437 := by
  rw [xor_bv]
  have h1 : (BitVec.ofInt 32 a).msb = false := by
    rw [BitVec.msb_eq_false_iff_two_mul_lt, BitVec.toNat_ofInt]; omega
  have h2 : (BitVec.ofInt 32 3558460437).msb = true := by decide
  have h3 : (BitVec.ofInt 32 a ^^^ BitVec.ofInt 32 3558460437).msb = true := by rw [BitVec.msb_xor, h1, h2]; rfl
  rw [BitVec.msb_eq_true_iff_two_mul_ge] at h3
  omega
def rnd (x : Int) : Int := if x % 2 = 1 then Go.bits .xor .u32 (x / 2) 3558460437 else x / 2
theorem xor_in (a b : Int) : 0 ≤ Go.bits .xor .u32 a b ∧ Go.bits .xor .u32 a b < 4294967296 := by
  rw [xor_bv]
  have h := (BitVec.ofInt 32 a ^^^ BitVec.ofInt 32 b).isLt
  omega
theorem rnd_in {x : Int} (hx : 0 ≤ x ∧ x < 4294967296) : 0 ≤ rnd x ∧ rnd x < 4294967296 := by
  unfold rnd
  split
  · exact xor_in _ _
  · omega
theorem rnd_inj {x y : Int} (hx : 0 ≤ x ∧ x < 4294967296) (hy : 0 ≤ y ∧ y < 4294967296) (h : rnd x = rnd y) : x = y := by
  unfold rnd at h
  by_cases h1 : x % 2 = 1
  · have t1 := xor_top (a := x / 2) (by omega)
    by_cases h2 : y % 2 = 1
    · rw [if_pos h1, if_pos h2] at h
      have := xor_inj (by omega) (by omega) h
      omega
    · rw [if_pos h1, if_neg h2] at h; omega
  · by_cases h2 : y % 2 = 1
    · have t2 := xor_top (a := y / 2) (by omega)
      rw [if_neg h1, if_pos h2] at h; omega
    · rw [if_neg h1, if_neg h2] at h; omega
def rnds : Nat → Int → Int
  | 0, x => x
  | n + 1, x => rnds n (rnd x)
theorem rnds_in : ∀ (n : Nat) {x : Int}, 0 ≤ x ∧ x < 4294967296 → 0 ≤ rnds n x ∧ rnds n x < 4294967296
  | 0, _, h => h
  | n + 1, _, h => rnds_in n (rnd_in h)
theorem rnds_inj : ∀ (n : Nat) {x y : Int}, 0 ≤ x ∧ x < 4294967296 → 0 ≤ y ∧ y < 4294967296 → rnds n x = rnds n y → x = y
  | 0, _, _, _, _, h => h
  | n + 1, _, _, hx, hy, h => rnd_inj hx hy (rnds_inj n (rnd_in hx) (rnd_in hy) h)
/-- The sum of bytes, from x on. -/
def sumV : List Int → Int → Int
  | [], x => x
  | b :: l, x => sumV l (rnds 8 (Go.bits .xor .u32 x b))
theorem sumV_in : ∀ (l : List Int) {x : Int}, 0 ≤ x ∧ x < 4294967296 → 0 ≤ sumV l x ∧ sumV l x < 4294967296
  | [], _, h => h
  | b :: l, _, _ => sumV_in l (rnds_in 8 (xor_in _ _))
theorem sumV_inj : ∀ (l : List Int) {x y : Int}, 0 ≤ x ∧ x < 4294967296 → 0 ≤ y ∧ y < 4294967296 → sumV l x = sumV l y → x = y
  | [], _, _, _, _, h => h
  | b :: l, _, _, hx, hy, h => xor_inj hx hy (rnds_inj 8 (xor_in _ _) (xor_in _ _) (sumV_inj l (rnds_in 8 (xor_in _ _)) (rnds_in 8 (xor_in _ _)) h))
/-- A turned byte gives another sum. -/
theorem sumV_turn : ∀ (l m : List Int) (b c x : Int), 0 ≤ x ∧ x < 4294967296 → (0 ≤ b ∧ b < 4294967296) → (0 ≤ c ∧ c < 4294967296) → sumV (l ++ b :: m) x = sumV (l ++ c :: m) x → b = c
  | [], m, b, c, x, hx, hb, hc, h => xor_inj' hb hc (rnds_inj 8 (xor_in _ _) (xor_in _ _) (sumV_inj m (rnds_in 8 (xor_in _ _)) (rnds_in 8 (xor_in _ _)) h))
  | a :: l, m, b, c, x, hx, hb, hc, h => sumV_turn l m b c _ (rnds_in 8 (xor_in _ _)) hb hc h
theorem bt_of {s : ByteArray} {i : Nat} (h : i < s.size) : (bytesOf s)[i]? = some (bt s (i : Int)) ∧ 0 ≤ bt s (i : Int) ∧ bt s (i : Int) < 256 := by
  have hl : i < s.data.toList.length := by rw [Array.length_toList]; exact h
  have e : bt s (i : Int) = ((s.data.toList[i].toNat : Nat) : Int) := by
    unfold bt
    rw [dif_pos (by simpa using h)]
    simp
    rfl
  have hb := UInt8.toNat_lt s.data.toList[i]
  refine ⟨?_, by omega, by omega⟩
  unfold bytesOf
  rw [List.getElem?_map, List.getElem?_eq_getElem hl, e]; rfl
theorem impl_rounds (s : ByteArray) (i : Nat) (hi : i < s.size) (hn : s.size ≤ 100000000) (r : Int) : ∀ (d j : Nat) (x : Int), j + d = 8 → 0 ≤ x ∧ x < 4294967296 → Ev (fun k => impl_SumMore.l1 k s (rnds d x) ((i : Int) + 1)) r → Ev (fun k => impl_SumMore.l0 k s (i : Int) x (j : Int)) r := by
  intro d
  induction d with
  | zero =>
    intro j x hj hx h
    refine Ev.step (fun _ => rfl) ?_
    simp only [impl_SumMore.l0]
    rw [w64 (x := (i : Int) + 1) (by omega) (by omega)]
    exact Ev.neg (by omega) h
  | succ d ih =>
    intro j x hj hx h
    have h2 := ih (j + 1) (rnd x) (by omega) (rnd_in hx) h
    refine Ev.step (fun _ => rfl) ?_
    simp only [impl_SumMore.l0]
    rw [w64 (x := (j : Int) + 1) (by omega) (by omega), and1 hx.1 hx.2, show x.fdiv (2 ^ 1) = x / 2 from Int.fdiv_eq_ediv_of_nonneg _ (by decide)]
    refine Ev.pos (by omega) ?_
    unfold rnd at h2
    by_cases h1 : x % 2 = 1
    · rw [if_pos h1] at h2; exact Ev.pos h1 h2
    · rw [if_neg h1] at h2; exact Ev.neg h1 h2
theorem spec_rounds (s : ByteArray) (i : Nat) (hi : i < s.size) (hn : s.size ≤ 100000000) (r : Int) : ∀ (d j : Nat) (x : Int), j + d = 8 → 0 ≤ x ∧ x < 4294967296 → Ev (fun k => spec_SumMore.l1 k s (rnds d x) ((i : Int) + 1)) r → Ev (fun k => spec_SumMore.l0 k s (i : Int) x (j : Int)) r := by
  intro d
  induction d with
  | zero =>
    intro j x hj hx h
    refine Ev.step (fun _ => rfl) ?_
    simp only [spec_SumMore.l0]
    rw [w64 (x := (i : Int) + 1) (by omega) (by omega)]
    exact Ev.neg (by omega) h
  | succ d ih =>
    intro j x hj hx h
    have h2 := ih (j + 1) (rnd x) (by omega) (rnd_in hx) h
    refine Ev.step (fun _ => rfl) ?_
    simp only [spec_SumMore.l0]
    rw [w64 (x := (j : Int) + 1) (by omega) (by omega), Int.tmod_eq_emod_of_nonneg hx.1, Int.tdiv_eq_ediv_of_nonneg hx.1, wraps_u32 (x / 2) (by omega) (by omega)]
    refine Ev.pos (by omega) ?_
    unfold rnd at h2
    by_cases h1 : x % 2 = 1
    · rw [if_pos h1] at h2; exact Ev.pos h1 h2
    · rw [if_neg h1] at h2; exact Ev.neg h1 h2
theorem sums_ev (s : ByteArray) (hn : s.size ≤ 100000000) : ∀ (d i : Nat) (x : Int), s.size - i = d → i ≤ s.size → 0 ≤ x ∧ x < 4294967296 → Ev (fun k => impl_SumMore.l1 k s x (i : Int)) (sumV ((bytesOf s).drop i) x) ∧ Ev (fun k => spec_SumMore.l1 k s x (i : Int)) (sumV ((bytesOf s).drop i) x) := by
  intro d
  induction d with
  | zero =>
    intro i x hd hi hx
    obtain rfl : i = s.size := by omega
    rw [List.drop_of_length_le (by rw [bytesOf_length]; omega)]
    constructor
    · refine Ev.step (fun _ => rfl) ?_
      simp only [impl_SumMore.l1]; exact Ev.neg (by omega) (Ev.now _)
    · refine Ev.step (fun _ => rfl) ?_
      simp only [spec_SumMore.l1]; exact Ev.neg (by omega) (Ev.now _)
  | succ d ih =>
    intro i x hd hi hx
    obtain ⟨hb, b0, b1⟩ := bt_of (s := s) (i := i) (by omega)
    have hl : i < (bytesOf s).length := by rw [bytesOf_length]; omega
    have e : (bytesOf s)[i] = bt s (i : Int) := by rw [List.getElem?_eq_getElem hl] at hb; exact Option.some.inj hb
    have hr := ih (i + 1) (rnds 8 (Go.bits .xor .u32 x (bt s (i : Int)))) (by omega) (by omega) (rnds_in 8 (xor_in _ _))
    rw [List.drop_eq_getElem_cons hl, e]
    constructor
    · refine Ev.step (fun _ => rfl) ?_
      simp only [impl_SumMore.l1]
      rw [wraps_u32 (bt s (i : Int)) (by omega) (by omega)]
      exact Ev.pos (by omega) (Ev.pos (by omega) (impl_rounds s i (by omega) hn _ 8 0 _ rfl (xor_in _ _) hr.1))
    · refine Ev.step (fun _ => rfl) ?_
      simp only [spec_SumMore.l1]
      rw [wraps_u32 (bt s (i : Int)) (by omega) (by omega)]
      exact Ev.pos (by omega) (Ev.pos (by omega) (spec_rounds s i (by omega) hn _ 8 0 _ rfl (xor_in _ _) hr.2))
def sumS (s : ByteArray) : Int := sumV (bytesOf s) 4294967295
theorem sumOf_ev (s : ByteArray) (hn : s.size ≤ 100000000) : Ev (fun k => impl_SumOf.f k s) (sumS s) ∧ Ev (fun k => spec_SumOf.f k s) (sumS s) := by
  obtain ⟨h1, h2⟩ := sums_ev s hn s.size 0 4294967295 rfl (Nat.zero_le _) (by omega)
  exact ⟨by unfold impl_SumOf.f impl_SumMore.f; exact Ev.bind h1 (Ev.now _), by unfold spec_SumOf.f spec_SumMore.f; exact Ev.bind h2 (Ev.now _)⟩
theorem bytesOf_str (l : List Int) (h : ∀ x ∈ l, 0 ≤ x ∧ x < 256) : bytesOf (strOfNums l) = l := by
  unfold bytesOf strOfNums
  simp only [List.map_map]
  refine (List.map_congr_left (g := id) fun x hx => ?_).trans (List.map_id l)
  have := h x hx
  simp only [Function.comp, id]
  rw [UInt8.toNat_ofNat']
  omega
theorem bytesOf_app (a b : ByteArray) : bytesOf (a ++ b) = bytesOf a ++ bytesOf b := by
  unfold bytesOf
  simp
theorem bytesOf_take (s : ByteArray) (n : Nat) : bytesOf (s.extract 0 n) = (bytesOf s).take n := by
  unfold bytesOf
  simp [ByteArray.data_extract]
theorem bytesOf_inj {a b : ByteArray} (h : bytesOf a = bytesOf b) : a = b := by
  unfold bytesOf at h
  have h2 : a.data.toList = b.data.toList := by
    refine (List.map_inj_right (f := fun x : UInt8 => (x.toNat : Int)) (fun x y hxy => ?_)).1 h
    exact UInt8.toNat_inj.1 (by omega)
  cases a; cases b
  simp at h2
  rw [h2]
/-! Bytes of a text, and the numbers they tell. -/
theorem bt_nat (s : ByteArray) (i : Nat) (h : i < s.size) : bt s (i : Int) = (s[i].toNat : Int) := by simp [bt, h]
theorem bt_range (s : ByteArray) (i : Int) : 0 ≤ bt s i ∧ bt s i < 256 := by
  unfold bt
  split
  · rename_i h; have := (s[i.toNat]'h).toNat_lt; omega
  · omega
theorem str_append (xs ys : List Int) : strOfNums (xs ++ ys) = strOfNums xs ++ strOfNums ys := by
  apply ByteArray.ext; simp [strOfNums]
theorem one_byte (s : ByteArray) (i : Nat) (h : i < s.size) : strOfNums [bt s (i : Int) % 256] = s.extract i (i + 1) := by
  rw [ByteArray.extract_add_one (by omega)]
  have hb : ((s[i].toNat : Int) % 256).toNat = s[i].toNat := by have := s[i].toNat_lt; omega
  apply ByteArray.ext
  simp [strOfNums, bt_nat s i h, hb]
theorem two_bytes (s : ByteArray) (i : Nat) (h : i + 1 < s.size) : strOfNums [bt s (i : Int) % 256, bt s ((i + 1 : Nat) : Int) % 256] = s.extract i (i + 2) := by
  rw [ByteArray.extract_eq_extract_append_extract (i + 1) (by omega) (by omega), ← one_byte s i (by omega), ← one_byte s (i + 1) (by omega), ← str_append]; rfl
theorem four_bytes (s : ByteArray) (i : Nat) (h : i + 3 < s.size) : strOfNums [bt s (i : Int) % 256, bt s ((i + 1 : Nat) : Int) % 256, bt s ((i + 2 : Nat) : Int) % 256, bt s ((i + 3 : Nat) : Int) % 256] = s.extract i (i + 4) := by
  rw [ByteArray.extract_eq_extract_append_extract (i + 2) (by omega) (by omega), ← two_bytes s i (by omega), ← two_bytes s (i + 2) (by omega), ← str_append]; rfl
def fourV (s : ByteArray) (i : Nat) : Int := bt s (i : Int) * 16777216 + bt s ((i + 1 : Nat) : Int) * 65536 + bt s ((i + 2 : Nat) : Int) * 256 + bt s ((i + 3 : Nat) : Int)
def fourS (n : Int) : ByteArray := strOfNums [(n / 16777216) % 256, (n / 65536) % 256, (n / 256) % 256, n % 256]
theorem fourV_in (s : ByteArray) (i : Nat) : 0 ≤ fourV s i ∧ fourV s i < 4294967296 := by
  have h0 := bt_range s (i : Int); have h1 := bt_range s ((i + 1 : Nat) : Int); have h2 := bt_range s ((i + 2 : Nat) : Int); have h3 := bt_range s ((i + 3 : Nat) : Int)
  unfold fourV; omega
theorem four_of (s : ByteArray) (i : Nat) (h : i + 3 < s.size) : fourS (fourV s i) = s.extract i (i + 4) := by
  rw [← four_bytes s i h]
  have h0 := bt_range s (i : Int); have h1 := bt_range s ((i + 1 : Nat) : Int); have h2 := bt_range s ((i + 2 : Nat) : Int); have h3 := bt_range s ((i + 3 : Nat) : Int)
  unfold fourS fourV
  congr 1
  simp only [List.cons.injEq, and_true]
  refine ⟨by omega, by omega, by omega, by omega⟩
theorem impl_fourAt_of (s : ByteArray) (i : Nat) (h : i + 3 < s.size) (hs : s.size ≤ 100000000) : impl_fourAt.f s (i : Int) = some (fourV s i) := by
  have h0 := bt_range s (i : Int); have h1 := bt_range s ((i + 1 : Nat) : Int); have h2 := bt_range s ((i + 2 : Nat) : Int); have h3 := bt_range s ((i + 3 : Nat) : Int)
  unfold impl_fourAt.f fourV
  rw [w64 (x := (i : Int) + 1) (by omega) (by omega), w64 (x := (i : Int) + 2) (by omega) (by omega), w64 (x := (i : Int) + 3) (by omega) (by omega)]
  rw [show (i : Int) + 1 = ((i + 1 : Nat) : Int) by omega, show (i : Int) + 2 = ((i + 2 : Nat) : Int) by omega, show (i : Int) + 3 = ((i + 3 : Nat) : Int) by omega]
  rw [if_pos (by omega), if_pos (by omega), if_pos (by omega), if_pos (by omega), if_pos (by omega), if_pos (by omega), if_pos (by omega), if_pos (by omega)]
  generalize bt s (i : Int) = b0 at *; generalize bt s ((i + 1 : Nat) : Int) = b1 at *; generalize bt s ((i + 2 : Nat) : Int) = b2 at *; generalize bt s ((i + 3 : Nat) : Int) = b3 at *
  rw [w64 (x := b0) (by omega) (by omega), w64 (x := b1) (by omega) (by omega), w64 (x := b2) (by omega) (by omega), w64 (x := b3) (by omega) (by omega)]
  rw [show (2 : Int) ^ 24 = 16777216 from rfl, show (2 : Int) ^ 16 = 65536 from rfl, show (2 : Int) ^ 8 = 256 from rfl]
  rw [w64 (x := b0 * 16777216) (by omega) (by omega), w64 (x := b1 * 65536) (by omega) (by omega), w64 (x := b2 * 256) (by omega) (by omega)]
  rw [bits_join .i64 63 (by decide) wraps_i64 24 (b0 * 16777216) (b1 * 65536) (by omega) (by omega) (by omega) (by omega) (by omega) (by omega)]
  rw [bits_join .i64 63 (by decide) wraps_i64 16 (b0 * 16777216 + b1 * 65536) (b2 * 256) (by omega) (by omega) (by omega) (by omega) (by omega) (by omega)]
  rw [bits_join .i64 63 (by decide) wraps_i64 8 (b0 * 16777216 + b1 * 65536 + b2 * 256) b3 (by omega) (by omega) (by omega) (by omega) (by omega) (by omega)]
theorem spec_l17Four_of (s : ByteArray) (i : Nat) (h : i + 3 < s.size) (hs : s.size ≤ 100000000) : spec_l17Four.f s (i : Int) = some (fourV s i) := impl_fourAt_of s i h hs
def unsV (t : ByteArray) : ByteArray × Bool := if (4 ≤ t.size ∧ t.size ≤ 20004) ∧ sumS (t.extract 0 (t.size - 4)) = fourV t (t.size - 4) then (t.extract 0 (t.size - 4), true) else (ByteArray.empty, false)
theorem unsV_yes {t : ByteArray} (hs : 4 ≤ t.size ∧ t.size ≤ 20004) (he : sumS (t.extract 0 (t.size - 4)) = fourV t (t.size - 4)) : unsV t = (t.extract 0 (t.size - 4), true) := if_pos ⟨hs, he⟩
theorem unsV_no {t : ByteArray} (h : ¬ ((4 ≤ t.size ∧ t.size ≤ 20004) ∧ sumS (t.extract 0 (t.size - 4)) = fourV t (t.size - 4))) : unsV t = (ByteArray.empty, false) := if_neg h
theorem within_of (x lo hi : Int) : impl_within.f x lo hi = some (decide (lo ≤ x ∧ x ≤ hi)) := by
  unfold impl_within.f
  by_cases h1 : x ≥ lo
  · rw [if_pos h1]; congr 1; rw [Bool.eq_iff_iff]; simp; omega
  · rw [if_neg h1]; congr 1; rw [Bool.eq_iff_iff]; simp; omega
theorem sumS_in (s : ByteArray) : 0 ≤ sumS s ∧ sumS s < 4294967296 := sumV_in _ (by omega)
theorem impl_Unsealed_ev (t : ByteArray) (h : t.size ≤ 1048576) : Ev (fun k => impl_Unsealed.f k t) (unsV t) := by
  unfold impl_Unsealed.f
  rw [w64 (x := (t.size : Int) - 4) (by omega) (by omega)]
  refine Ev.bindc (within_of _ _ _) ?_
  by_cases hs : 4 ≤ t.size ∧ t.size ≤ 20004
  · rw [show (t.size : Int) - 4 = ((t.size - 4 : Nat) : Int) by omega, Int.toNat_natCast]
    have hsum := (sumOf_ev (t.extract 0 (t.size - 4)) (by rw [ByteArray.size_extract]; omega)).1
    have hin := sumS_in (t.extract 0 (t.size - 4))
    have hf := impl_fourAt_of t (t.size - 4) (by omega) (by omega)
    refine Ev.pos (decide_eq_true (by omega)) (Ev.pos (by omega) (Ev.pos (by omega) (Ev.bind hsum (Ev.bindc hf ?_))))
    rw [w64 (x := sumS (t.extract 0 (t.size - 4))) (by omega) (by omega)]
    by_cases he : sumS (t.extract 0 (t.size - 4)) = fourV t (t.size - 4)
    · rw [unsV_yes hs he]; exact Ev.pos he (Ev.now _)
    · rw [unsV_no (fun h => he h.2)]; exact Ev.neg he (Ev.now _)
  · rw [unsV_no (fun h => hs h.1)]
    exact Ev.neg (by rw [decide_eq_true_eq]; omega) (Ev.now _)
theorem bytes_bt {s : ByteArray} {i : Nat} (h : i < s.size) : bt s (i : Int) = (bytesOf s).getD i 0 := by
  rw [List.getD_eq_getElem?_getD, (bt_of h).1]; rfl
/-- A text that is sealed is none any more once one of its bytes is another. -/
theorem turned_bad {s t : ByteArray} {i : Nat} {v : Int} (hi : i < s.size) (hv : 0 ≤ v ∧ v < 256) (hne : v ≠ (bytesOf s).getD i 0) (ht : bytesOf t = (bytesOf s).set i v) (hs : (unsV s).2 = true) : (unsV t).2 = false := by
  have hlen : t.size = s.size := by rw [← bytesOf_length t, ht, List.length_set, bytesOf_length]
  by_cases hc : (4 ≤ s.size ∧ s.size ≤ 20004) ∧ sumS (s.extract 0 (s.size - 4)) = fourV s (s.size - 4)
  · obtain ⟨h1, h2⟩ := hc
    rw [unsV_no]
    rintro ⟨_, h3⟩
    rw [hlen] at h3
    have hsl : i < (bytesOf s).length := by rw [bytesOf_length]; exact hi
    have tb : ∀ j, j < s.size → bt t (j : Int) = if j = i then v else bt s (j : Int) := fun j hj => by
      rw [bytes_bt (by omega), bytes_bt hj, ht, List.getD_eq_getElem?_getD, List.getD_eq_getElem?_getD, List.getElem?_set]
      by_cases hji : i = j
      · subst hji; rw [if_pos rfl, if_pos hsl, if_pos rfl]; rfl
      · rw [if_neg hji, if_neg (Ne.symm hji)]
    have hb := (bt_of hi).2
    rw [← bytes_bt hi] at hne
    by_cases hin : i < s.size - 4
    · have e4 : fourV t (s.size - 4) = fourV s (s.size - 4) := by
        unfold fourV
        rw [tb _ (by omega), tb _ (by omega), tb _ (by omega), tb _ (by omega), if_neg (by omega), if_neg (by omega), if_neg (by omega), if_neg (by omega)]
      rw [e4, ← h2] at h3
      unfold sumS at h3
      rw [bytesOf_take, bytesOf_take, ht, List.take_set] at h3
      have hl2 : i < ((bytesOf s).take (s.size - 4)).length := by rw [List.length_take, bytesOf_length]; omega
      have e1 : (bytesOf s).take (s.size - 4) = ((bytesOf s).take (s.size - 4)).take i ++ bt s (i : Int) :: ((bytesOf s).take (s.size - 4)).drop (i + 1) := by
        have hx : ((bytesOf s).take (s.size - 4))[i] = bt s (i : Int) := by
          have := (bt_of hi).1
          rw [List.getElem?_eq_getElem hsl] at this
          rw [List.getElem_take]; exact Option.some.inj this
        rw [← hx, ← List.drop_eq_getElem_cons hl2, List.take_append_drop]
      rw [List.set_eq_take_append_cons_drop, if_pos hl2] at h3
      have h4 := h3.trans (congrArg (fun l => sumV l 4294967295) e1)
      exact hne (sumV_turn _ _ v (bt s (i : Int)) _ (by omega) (by omega) (by omega) h4)
    · have et : t.extract 0 (s.size - 4) = s.extract 0 (s.size - 4) := bytesOf_inj (by rw [bytesOf_take, bytesOf_take, ht, List.take_set_of_le (by omega)])
      rw [et, h2] at h3
      unfold fourV at h3
      rw [tb _ (by omega), tb _ (by omega), tb _ (by omega), tb _ (by omega)] at h3
      have r0 := bt_range s ((s.size - 4 : Nat) : Int); have r1 := bt_range s ((s.size - 4 + 1 : Nat) : Int); have r2 := bt_range s ((s.size - 4 + 2 : Nat) : Int); have r3 := bt_range s ((s.size - 4 + 3 : Nat) : Int)
      have hcase : i = s.size - 4 ∨ i = s.size - 4 + 1 ∨ i = s.size - 4 + 2 ∨ i = s.size - 4 + 3 := by omega
      rcases hcase with h | h | h | h <;> rw [h] at hne
      · rw [if_pos h.symm, if_neg (show ¬ s.size - 4 + 1 = i by omega), if_neg (show ¬ s.size - 4 + 2 = i by omega), if_neg (show ¬ s.size - 4 + 3 = i by omega)] at h3; omega
      · rw [if_neg (show ¬ s.size - 4 = i by omega), if_pos h.symm, if_neg (show ¬ s.size - 4 + 2 = i by omega), if_neg (show ¬ s.size - 4 + 3 = i by omega)] at h3; omega
      · rw [if_neg (show ¬ s.size - 4 = i by omega), if_neg (show ¬ s.size - 4 + 1 = i by omega), if_pos h.symm, if_neg (show ¬ s.size - 4 + 3 = i by omega)] at h3; omega
      · rw [if_neg (show ¬ s.size - 4 = i by omega), if_neg (show ¬ s.size - 4 + 1 = i by omega), if_neg (show ¬ s.size - 4 + 2 = i by omega), if_pos h.symm] at h3; omega
  · rw [unsV_no hc] at hs; cases hs
theorem spec_l01In_of (x lo hi : Int) : spec_l01In.f x lo hi = some (decide (lo ≤ x ∧ x ≤ hi)) := by
  unfold spec_l01In.f
  rw [ite_some]; congr 1; rw [Bool.eq_iff_iff]
  by_cases h : x ≥ lo <;> simp [h] <;> omega
theorem item_ok (a b c d : Int) : ∃ r : Bool, spec_ItemOk.f a b c d = some r ∧ (r = true → 0 ≤ d ∧ d ≤ 1000000000) := by
  unfold spec_ItemOk.f spec_HalfOk.f
  simp only [spec_l01In_of, Option.bind_some]
  by_cases h1 : a = 1
  · rw [if_pos h1]
    by_cases h2 : 0 ≤ b ∧ b ≤ 4294967295
    · rw [if_pos (by simpa using h2)]
      by_cases h3 : 0 ≤ c ∧ c ≤ 4294967295
      · rw [if_pos (by simpa using h3)]; exact ⟨_, rfl, fun h => by have := beq_iff_eq.1 h; omega⟩
      · rw [if_neg (by simpa using h3)]; exact ⟨_, rfl, fun h => by cases h⟩
    · rw [if_neg (by simpa using h2)]; exact ⟨_, rfl, fun h => by cases h⟩
  · rw [if_neg h1]
    by_cases h2 : a = 2
    · rw [if_pos h2]
      by_cases h3 : 1 ≤ d ∧ d ≤ 1000000000
      · rw [if_pos (by simpa using h3)]
        by_cases h4 : b = 0
        · rw [if_pos h4]; exact ⟨_, rfl, fun _ => by omega⟩
        · rw [if_neg h4]; exact ⟨_, rfl, fun h => by cases h⟩
      · rw [if_neg (by simpa using h3)]; exact ⟨_, rfl, fun h => by cases h⟩
    · rw [if_neg h2]; exact ⟨_, rfl, fun h => by cases h⟩
theorem within_eq (x lo hi : Int) : impl_within.f x lo hi = spec_l01In.f x lo hi := rfl
theorem isPid_of (a : Int) : impl_isPid.f a = spec_l01In.f a 0 2 := by
  show (spec_l01In.f a 0 2).bind (fun t => some t) = _
  cases spec_l01In.f a 0 2 <;> rfl
theorem frameOk_eq (x0 x1 x2 x3 x4 x5 x6 : Int) : impl_FrameOk.f x0 x1 x2 x3 x4 x5 x6 = spec_FrameOk.f x0 x1 x2 x3 x4 x5 x6 := by
  unfold impl_FrameOk.f spec_FrameOk.f
  rw [isPid_of]; rfl
theorem frameOk_of (x0 x1 x2 x3 x4 x5 x6 : Int) : ∃ b : Bool, spec_FrameOk.f x0 x1 x2 x3 x4 x5 x6 = some b ∧ (b = true → (0 ≤ x1 ∧ x1 ≤ 2) ∧ (1 ≤ x2 ∧ x2 ≤ 1000000000) ∧ 0 ≤ x6 ∧ x6 ≤ 1000000000) := by
  unfold spec_FrameOk.f
  simp only [spec_l01In_of, Option.bind_some]
  by_cases h1 : 0 ≤ x1 ∧ x1 ≤ 2
  · rw [if_pos (by simpa using h1)]
    by_cases h2 : 1 ≤ x2 ∧ x2 ≤ 1000000000
    · rw [if_pos (by simpa using h2)]
      by_cases h3 : x0 = 1
      · obtain ⟨r, hr, hr'⟩ := item_ok x3 x4 x5 x6
        rw [if_pos h3, hr]
        exact ⟨r, rfl, fun h => ⟨h1, h2, hr' h⟩⟩
      · rw [if_neg h3]
        by_cases h4 : x0 = 2
        · rw [if_pos h4]
          refine ⟨_, rfl, fun h => ⟨h1, h2, ?_⟩⟩
          simp at h; omega
        · rw [if_neg h4]; exact ⟨_, rfl, fun h => by cases h⟩
    · rw [if_neg (by simpa using h2)]; exact ⟨_, rfl, fun h => by cases h⟩
  · rw [if_neg (by simpa using h1)]; exact ⟨_, rfl, fun h => by cases h⟩
/-! Frames as texts: what is written, and what is read of it. -/
theorem str1 {s : ByteArray} {l : List Int} (hl : ∀ x ∈ l, 0 ≤ x ∧ x < 256) (h : bytesOf s = l) : s = strOfNums l := bytesOf_inj (by rw [h, bytesOf_str l hl])
theorem fd24 (x : Int) : x.fdiv (2 ^ 24) = x / 16777216 := Int.fdiv_eq_ediv_of_nonneg _ (by decide)
theorem fd16 (x : Int) : x.fdiv (2 ^ 16) = x / 65536 := Int.fdiv_eq_ediv_of_nonneg _ (by decide)
theorem fd8 (x : Int) : x.fdiv (2 ^ 8) = x / 256 := Int.fdiv_eq_ediv_of_nonneg _ (by decide)
theorem fd7 (x : Int) : x.fdiv (2 ^ 7) = x / 128 := Int.fdiv_eq_ediv_of_nonneg _ (by decide)
theorem impl_four_of (x : Int) : impl_four.f x = some (fourS x) := by
  unfold impl_four.f fourS
  rw [fd24, fd16, fd8, IntKind.wrap_u8, IntKind.wrap_u8, IntKind.wrap_u8, IntKind.wrap_u8]
theorem spec_four_of (x : Int) : spec_l06Four.f x = some (fourS x) := impl_four_of x
theorem spec_four2_of (x : Int) : spec_l02Four.f x = some (fourS x) := impl_four_of x
theorem fourS_size (n : Int) : (fourS n).size = 4 := by unfold fourS; rw [strOfNums_size]; rfl
theorem byte_inj {a b : Int} (ha : 0 ≤ a ∧ a < 256) (hb : 0 ≤ b ∧ b < 256) (h : UInt8.ofNat a.toNat = UInt8.ofNat b.toNat) : a = b := by
  have := congrArg UInt8.toNat h
  simp [UInt8.toNat_ofNat'] at this
  omega
theorem fourS_inj {a b : Int} (ha : 0 ≤ a ∧ a < 4294967296) (hb : 0 ≤ b ∧ b < 4294967296) (h : fourS a = fourS b) : a = b := by
  unfold fourS strOfNums at h
  simp only [List.map_cons, List.map_nil, ByteArray.mk.injEq, List.toArray_eq_toArray_eq, List.cons.injEq, and_true] at h
  have e0 := byte_inj (by omega) (by omega) h.1
  have e1 := byte_inj (by omega) (by omega) h.2.1
  have e2 := byte_inj (by omega) (by omega) h.2.2.1
  have e3 := byte_inj (by omega) (by omega) h.2.2.2
  omega
theorem same_text {a b : ByteArray} : a.toList = b.toList ↔ a = b := by
  rw [ByteArray.toList_eq, ByteArray.toList_eq]
  constructor
  · intro h; exact ByteArray.ext (Array.toList_inj.1 h)
  · rintro rfl; rfl
theorem same_beq {a b : ByteArray} : ((a.toList == b.toList) = true) ↔ a = b := by rw [beq_iff_eq]; exact same_text
/-! A number's drawing. -/
def varL : Nat → Int → List Int
  | 0, n => [n % 256]
  | d + 1, n => if n > 127 then (n % 128 + 128) :: varL d (n / 128) else [n % 256]
def varT (n : Int) : ByteArray := strOfNums (varL 4 n)
theorem varL_len : ∀ (d : Nat) (n : Int), 1 ≤ (varL d n).length ∧ (varL d n).length ≤ d + 1
  | 0, n => by simp [varL]
  | d + 1, n => by
    unfold varL
    have := varL_len d (n / 128)
    split <;> simp <;> omega
theorem varT_size (n : Int) : 1 ≤ (varT n).size ∧ (varT n).size ≤ 5 := by
  have := varL_len 4 n
  unfold varT
  rw [strOfNums_size]
  omega
theorem varL_byte : ∀ (d : Nat) (n : Int), ∀ x ∈ varL d n, 0 ≤ x ∧ x < 256
  | 0, n, x, h => by unfold varL at h; rw [List.mem_singleton] at h; omega
  | d + 1, n, x, h => by
    unfold varL at h
    split at h
    · rcases List.mem_cons.1 h with h | h
      · omega
      · exact varL_byte d _ x h
    · rw [List.mem_singleton] at h; omega
theorem bytesOf_varT (n : Int) : bytesOf (varT n) = varL 4 n := bytesOf_str _ (varL_byte 4 n)
theorem impl_var_in : ∀ (d : Nat) (n : Int) (out : List Int), 0 ≤ n → n < 128 ^ (d + 1) → out.length + d ≤ 1000 → n < 9223372036854775808 → Ev (fun k => impl_VarText.l0 k n out) (strOfNums (out ++ varL d n), true) := by
  intro d
  induction d with
  | zero =>
    intro n out h0 h1 hl _
    refine Ev.step (fun _ => rfl) ?_
    simp only [impl_VarText.l0]
    refine Ev.neg (by omega) (Ev.pos (by simp; omega) ?_)
    rw [IntKind.wrap_u8]; exact Ev.now _
  | succ d ih =>
    intro n out h0 h1 hl h2
    have hp : (128 : Int) ^ (d + 1 + 1) = 128 ^ (d + 1) * 128 := Int.pow_succ _ _
    refine Ev.step (fun _ => rfl) ?_
    simp only [impl_VarText.l0]
    unfold varL
    by_cases h : n > 127
    · rw [if_pos h]
      refine Ev.pos h (Ev.pos (by simp; omega) ?_)
      rw [and127 h0 h2, or128 (by omega) (by omega), IntKind.wrap_u8, fd7, show (n % 128 + 128) % 256 = n % 128 + 128 by omega, show out ++ (n % 128 + 128) :: varL d (n / 128) = (out ++ [n % 128 + 128]) ++ varL d (n / 128) by simp]
      exact ih (n / 128) _ (by omega) (by omega) (by simp; omega) (by omega)
    · rw [if_neg h]
      refine Ev.neg h (Ev.pos (by simp; omega) ?_)
      rw [IntKind.wrap_u8]; exact Ev.now _
theorem spec_var_in : ∀ (d : Nat) (n : Int) (out : List Int), 0 ≤ n → n < 128 ^ (d + 1) → out.length + d ≤ 1000 → n < 9223372036854775808 → Ev (fun k => spec_l01Var.l0 k n out) (strOfNums (out ++ varL d n)) := by
  intro d
  induction d with
  | zero =>
    intro n out h0 h1 hl _
    refine Ev.step (fun _ => rfl) ?_
    simp only [spec_l01Var.l0]
    refine Ev.neg (by omega) (Ev.pos (by simp; omega) ?_)
    rw [IntKind.wrap_u8]; exact Ev.now _
  | succ d ih =>
    intro n out h0 h1 hl h2
    have hp : (128 : Int) ^ (d + 1 + 1) = 128 ^ (d + 1) * 128 := Int.pow_succ _ _
    refine Ev.step (fun _ => rfl) ?_
    simp only [spec_l01Var.l0]
    unfold varL
    by_cases h : n > 127
    · rw [if_pos h]
      refine Ev.pos h (Ev.pos (by simp; omega) ?_)
      rw [Int.tmod_eq_emod_of_nonneg h0, Int.tdiv_eq_ediv_of_nonneg h0, w64 (x := n % 128 + 128) (by omega) (by omega), w64 (x := n / 128) (by omega) (by omega), IntKind.wrap_u8, show (n % 128 + 128) % 256 = n % 128 + 128 by omega, show out ++ (n % 128 + 128) :: varL d (n / 128) = (out ++ [n % 128 + 128]) ++ varL d (n / 128) by simp]
      exact ih (n / 128) _ (by omega) (by omega) (by simp; omega) (by omega)
    · rw [if_neg h]
      refine Ev.neg h (Ev.pos (by simp; omega) ?_)
      rw [IntKind.wrap_u8]; exact Ev.now _
theorem impl_var_ev (n : Int) (h0 : 0 ≤ n) (h1 : n ≤ 1000000000) : Ev (fun k => impl_VarText.f k n) (varT n, true) := by
  unfold impl_VarText.f
  exact Ev.bindc (within_of _ _ _) (Ev.pos (by simp; omega) (impl_var_in 4 n [] h0 (by omega) (by simp) (by omega)))
theorem impl_var_no (n : Int) (h1 : ¬ (0 ≤ n ∧ n ≤ 1000000000)) : Ev (fun k => impl_VarText.f k n) (ByteArray.empty, false) := by
  unfold impl_VarText.f
  exact Ev.bindc (within_of _ _ _) (Ev.neg (by simp; omega) (Ev.now _))
theorem spec_var_ev (n : Int) (h0 : 0 ≤ n) (h1 : n ≤ 1000000000) : Ev (fun k => spec_l01Var.f k n) (varT n) := by
  unfold spec_l01Var.f
  exact spec_var_in 4 n [] h0 (by omega) (by simp) (by omega)
/-! Reading a number. -/
theorem pw1 : ∀ j : Nat, j < 5 → (2 : Int) ^ min (7 * (j : Int)).toNat IntKind.i64.bits = 128 ^ j := by decide
theorem pw2 : ∀ j : Nat, j < 5 → (2 : Int) ^ (7 * j) = 128 ^ j := by decide
theorem pw3 : ∀ j : Nat, j < 6 → 1 ≤ (128 : Int) ^ j ∧ (128 : Int) ^ j ≤ 34359738368 := by decide
theorem shift_or (j : Nat) (hj : j < 5) (n c : Int) (h0 : 0 ≤ n) (h1 : n < 128 ^ j) (c0 : 0 ≤ c) (c1 : c < 128) : Go.bits .or .i64 n (wrap64 (c * 2 ^ min (wrap64 (7 * (j : Int))).toNat IntKind.i64.bits)) = n + c * 128 ^ j := by
  have hp := pw3 j (by omega)
  have m0 : 0 ≤ c * 128 ^ j := Int.mul_nonneg c0 (by omega)
  have m1 : c * 128 ^ j ≤ 127 * 34359738368 := Int.mul_le_mul (by omega) hp.2 (by omega) (by omega)
  have hm : (c * 128 ^ j) % 128 ^ j = 0 := Int.mul_emod_left _ _
  rw [w64 (x := 7 * (j : Int)) (by omega) (by omega), pw1 j hj, w64 (x := c * 128 ^ j) (by omega) (by omega), or_comm']
  rw [bits_join .i64 63 (by decide) wraps_i64 (7 * j) (c * 128 ^ j) n m0 (by rw [pw2 j hj]; exact hm) (by omega) h0 (by rw [pw2 j hj]; exact h1) (by omega)]
  omega
theorem wraps_u8 (n : Int) (h₀ : 0 ≤ n) (h₁ : n < 2 ^ 8) : IntKind.u8.wrap n = n := by rw [IntKind.wrap_u8]; omega
theorem and_u8 {x : Int} (h₀ : 0 ≤ x) (h₁ : x < 256) : Go.bits .and .u8 x 127 = x % 128 := bits_mask .u8 8 (by decide) wraps_u8 7 (by decide) x h₀ h₁
/-- What was read at a place is a number, and what stands there is its drawing. -/
def RV (s : ByteArray) (a : Nat) (m q : Int) : Prop := (0 ≤ m ∧ m ≤ 1000000000) ∧ ∃ e : Nat, q = e ∧ a < e ∧ e ≤ s.size ∧ varT m = s.extract a e
theorem readVar_in (s : ByteArray) (hs : s.size ≤ 100000000) (a : Nat) : ∀ (d j : Nat) (n : Int), 5 - j = d → j ≤ 5 → a + j ≤ s.size → 0 ≤ n → n < 128 ^ j →
    ∃ (m q : Int) (b : Bool), Ev (fun k => spec_ReadVar.l0 k s (a : Int) n (128 ^ j) ((a + j : Nat) : Int)) (m, q, b) ∧ Ev (fun k => impl_ReadVar.l0 k s (a : Int) n (j : Int)) (m, q, b) ∧ (b = true → RV s a m q) ∧ (b = false → m = 0 ∧ q = 0) := by
  intro d
  induction d with
  | zero =>
    intro j n hd hj ha h0 h1
    refine ⟨0, 0, false, ?_, ?_, fun h => (by cases h), fun _ => ⟨rfl, rfl⟩⟩
    · refine Ev.step (fun _ => rfl) ?_
      simp only [spec_ReadVar.l0]
      refine Ev.both (fun _ => ?_) (fun _ => Ev.now _)
      rw [w64 (x := (a : Int) + 5) (by omega) (by omega)]
      exact Ev.neg (by omega) (Ev.now _)
    · refine Ev.step (fun _ => rfl) ?_
      simp only [impl_ReadVar.l0]
      exact Ev.neg (by omega) (Ev.now _)
  | succ d ih =>
    intro j n hd hj ha h0 h1
    by_cases hz : a + j < s.size
    · have hb := bt_range s ((a + j : Nat) : Int)
      have hp := pw3 j (by omega)
      have hp' := pw3 (j + 1) (by omega)
      have hpe : (128 : Int) ^ (j + 1) = 128 ^ j * 128 := Int.pow_succ _ _
      have hc0 : 0 ≤ bt s ((a + j : Nat) : Int) % 128 := by omega
      have hc1 : bt s ((a + j : Nat) : Int) % 128 < 128 := by omega
      have m0 : 0 ≤ (bt s ((a + j : Nat) : Int) % 128) * 128 ^ j := Int.mul_nonneg hc0 (by omega)
      have m1 : (bt s ((a + j : Nat) : Int) % 128) * 128 ^ j ≤ 127 * 128 ^ j := Int.mul_le_mul_of_nonneg_right (by omega) (by omega)
      have hor := shift_or j (by omega) n (bt s ((a + j : Nat) : Int) % 128) h0 h1 hc0 hc1
      generalize hN : n + (bt s ((a + j : Nat) : Int) % 128) * 128 ^ j = N at hor
      have hN0 : 0 ≤ N := by omega
      have hN1 : N < 128 ^ (j + 1) := by omega
      have wa : ∀ _ : Unit, wrap64 ((a : Int) + (j : Int)) = ((a + j : Nat) : Int) := fun _ => by rw [w64 (by omega) (by omega)]; omega
      have wa1 : ∀ _ : Unit, wrap64 (((a + j : Nat) : Int) + 1) = ((a + j + 1 : Nat) : Int) := fun _ => by rw [w64 (by omega) (by omega)]; omega
      have wj : ∀ _ : Unit, wrap64 ((j : Int) + 1) = ((j + 1 : Nat) : Int) := fun _ => by rw [w64 (by omega) (by omega)]; omega
      have wb : ∀ _ : Unit, wrap64 (bt s ((a + j : Nat) : Int)) = bt s ((a + j : Nat) : Int) := fun _ => w64 (by omega) (by omega)
      have wN : ∀ _ : Unit, wrap64 (n + wrap64 ((bt s ((a + j : Nat) : Int)).tmod 128 * 128 ^ j)) = N := fun _ => by rw [Int.tmod_eq_emod_of_nonneg hb.1, w64 (x := bt s ((a + j : Nat) : Int) % 128 * 128 ^ j) (by omega) (by omega), hN, w64 (by omega) (by omega)]
      have wI : ∀ _ : Unit, Go.bits .or .i64 n (wrap64 (wrap64 (Go.bits .and .u8 (bt s ((a + j : Nat) : Int)) 127) * 2 ^ min (wrap64 (7 * (j : Int))).toNat IntKind.i64.bits)) = N := fun _ => by rw [and_u8 hb.1 hb.2, w64 (x := bt s ((a + j : Nat) : Int) % 128) (by omega) (by omega)]; exact hor
      have sp : ∀ (r : Int × Int × Bool), Ev (fun k => if bt s ((a + j : Nat) : Int) < 128 then (if N > 1000000000 then some (0, 0, false) else ((spec_l01Var.f k N).bind fun t => (if 0 ≤ (a : Int) then (if (a : Int) ≤ ((a + j + 1 : Nat) : Int) then (if ((a + j + 1 : Nat) : Int) ≤ (s.size : Int) then (if (t.toList == (s.extract (a : Int).toNat ((a + j + 1 : Nat) : Int).toNat).toList) = true then some (N, ((a + j + 1 : Nat) : Int), true) else some (0, 0, false)) else none) else none) else none))) else (spec_ReadVar.l0 k s (a : Int) N (128 ^ (j + 1)) ((a + j + 1 : Nat) : Int))) r →
          Ev (fun k => spec_ReadVar.l0 k s (a : Int) n (128 ^ j) ((a + j : Nat) : Int)) r := by
        intro r hr
        refine Ev.step (fun _ => rfl) ?_
        simp only [spec_ReadVar.l0]
        rw [w64 (x := (a : Int) + 5) (by omega) (by omega), wb (), wN (), wa1 (), ← hpe, w64 (x := 128 ^ (j + 1)) (by omega) (by omega)]
        exact Ev.pos (by omega) (Ev.pos (by omega) (Ev.pos (by omega) hr))
      have im : ∀ (r : Int × Int × Bool), Ev (fun k => if bt s ((a + j : Nat) : Int) > 127 then (impl_ReadVar.l0 k s (a : Int) N ((j + 1 : Nat) : Int)) else ((impl_VarText.f k N).bind fun t => (if t.2 = true then (if 0 ≤ (a : Int) then (if (a : Int) ≤ ((a + j + 1 : Nat) : Int) then (if ((a + j + 1 : Nat) : Int) ≤ (s.size : Int) then (if (t.1.toList == (s.extract (a : Int).toNat ((a + j + 1 : Nat) : Int).toNat).toList) = true then some (N, ((a + j + 1 : Nat) : Int), true) else some (0, 0, false)) else none) else none) else none) else some (0, 0, false)))) r →
          Ev (fun k => impl_ReadVar.l0 k s (a : Int) n (j : Int)) r := by
        intro r hr
        refine Ev.step (fun _ => rfl) ?_
        simp only [impl_ReadVar.l0]
        rw [wa (), wI (), wj (), wa1 ()]
        exact Ev.pos (by omega) (Ev.pos (by omega) (Ev.pos (by omega) (Ev.pos (by rw [w64 (by omega) (by omega)]; omega) hr)))
      by_cases hc : bt s ((a + j : Nat) : Int) < 128
      · by_cases hb9 : N > 1000000000
        · refine ⟨0, 0, false, sp _ (Ev.pos hc (Ev.pos hb9 (Ev.now _))), im _ (Ev.neg (by omega) (Ev.bind (impl_var_no N (by omega)) (Ev.neg (by simp) (Ev.now _)))), fun h => (by cases h), fun _ => ⟨rfl, rfl⟩⟩
        · have v1 := spec_var_ev N hN0 (by omega)
          have v2 := impl_var_ev N hN0 (by omega)
          by_cases he : varT N = s.extract a (a + j + 1)
          · refine ⟨N, ((a + j + 1 : Nat) : Int), true, sp _ (Ev.pos hc (Ev.neg hb9 (Ev.bind v1 (Ev.pos (by omega) (Ev.pos (by omega) (Ev.pos (by omega) (Ev.pos (same_beq.2 he) (Ev.now _)))))))), im _ (Ev.neg (by omega) (Ev.bind v2 (Ev.pos rfl (Ev.pos (by omega) (Ev.pos (by omega) (Ev.pos (by omega) (Ev.pos (same_beq.2 he) (Ev.now _)))))))), fun _ => ?_, fun h => (by cases h)⟩
            exact ⟨⟨hN0, by omega⟩, a + j + 1, rfl, by omega, by omega, he⟩
          · exact ⟨0, 0, false, sp _ (Ev.pos hc (Ev.neg hb9 (Ev.bind v1 (Ev.pos (by omega) (Ev.pos (by omega) (Ev.pos (by omega) (Ev.neg (fun h => he (same_beq.1 h)) (Ev.now _)))))))), im _ (Ev.neg (by omega) (Ev.bind v2 (Ev.pos rfl (Ev.pos (by omega) (Ev.pos (by omega) (Ev.pos (by omega) (Ev.neg (fun h => he (same_beq.1 h)) (Ev.now _)))))))), fun h => (by cases h), fun _ => ⟨rfl, rfl⟩⟩
      · obtain ⟨m, q, b, r1, r2, r3⟩ := ih (j + 1) N (by omega) (by omega) (by omega) hN0 hN1
        exact ⟨m, q, b, sp _ (Ev.neg hc r1), im _ (Ev.pos (by omega) r2), r3⟩
    · refine ⟨0, 0, false, ?_, ?_, fun h => (by cases h), fun _ => ⟨rfl, rfl⟩⟩
      · refine Ev.step (fun _ => rfl) ?_
        simp only [spec_ReadVar.l0]
        exact Ev.neg (by omega) (Ev.now _)
      · refine Ev.step (fun _ => rfl) ?_
        simp only [impl_ReadVar.l0]
        refine Ev.pos (by omega) ?_
        rw [w64 (x := (a : Int) + (j : Int)) (by omega) (by omega)]
        exact Ev.neg (by omega) (Ev.now _)
theorem readVar_ev (s : ByteArray) (hs : s.size ≤ 100000000) (a : Nat) (ha : a ≤ s.size) : ∃ (m q : Int) (b : Bool), Ev (fun k => spec_ReadVar.f k s (a : Int)) (m, q, b) ∧ Ev (fun k => impl_ReadVar.f k s (a : Int)) (m, q, b) ∧ (b = true → RV s a m q) ∧ (b = false → m = 0 ∧ q = 0) := by
  obtain ⟨m, q, b, r1, r2, r3⟩ := readVar_in s hs a 5 0 0 rfl (by omega) (by omega) (by omega) (by decide)
  refine ⟨m, q, b, ?_, ?_, r3⟩
  · unfold spec_ReadVar.f
    exact Ev.bindc (spec_l01In_of _ _ _) (Ev.pos (by simp; omega) r1)
  · unfold impl_ReadVar.f
    exact Ev.bindc (within_of _ _ _) (Ev.pos (by simp; omega) r2)
/-- A drawn number is read. -/
theorem impl_rv_in (s : ByteArray) (hs : s.size ≤ 100000000) (a e : Nat) (m : Int) (hm : 0 ≤ m ∧ m ≤ 1000000000) (he : e ≤ s.size) (hx : varT m = s.extract a e) : ∀ (d j : Nat) (n r : Int), j + d = 4 → 0 ≤ n → n < 128 ^ j → 0 ≤ r → r < 128 ^ (d + 1) → n + r * 128 ^ j = m → (∀ i, i < (varL d r).length → bt s ((a + j + i : Nat) : Int) = (varL d r).getD i 0) → e = a + j + (varL d r).length → Ev (fun k => impl_ReadVar.l0 k s (a : Int) n (j : Int)) (m, (e : Int), true) := by
  intro d
  induction d with
  | zero =>
    intro j n r hj h0 h1 r0 r1 hmr hb hl
    have hb0 := hb 0 (by simp [varL])
    have e0 : (varL 0 r).getD 0 0 = r := by simp [varL]; omega
    rw [e0] at hb0
    have el : (varL 0 r).length = 1 := rfl
    rw [el] at hl
    have hor := shift_or j (by omega) n r h0 h1 r0 (by omega)
    refine Ev.step (fun _ => rfl) ?_
    simp only [impl_ReadVar.l0]
    have wa : ∀ _ : Unit, wrap64 ((a : Int) + (j : Int)) = ((a + j + 0 : Nat) : Int) := fun _ => by rw [w64 (by omega) (by omega)]; omega
    have wa1 : ∀ _ : Unit, wrap64 (((a + j + 0 : Nat) : Int) + 1) = (e : Int) := fun _ => by rw [w64 (by omega) (by omega)]; omega
    rw [wa (), hb0, and_u8 r0 (by omega), show r % 128 = r by omega, w64 (x := r) (by omega) (by omega), hor, hmr, wa1 ()]
    exact Ev.pos (by omega) (Ev.pos (by omega) (Ev.pos (by omega) (Ev.pos (by rw [w64 (by omega) (by omega)]; omega) (Ev.neg (by omega) (Ev.bind (impl_var_ev m hm.1 hm.2) (Ev.pos rfl (Ev.pos (by omega) (Ev.pos (by omega) (Ev.pos (by omega) (Ev.pos (same_beq.2 hx) (Ev.now _)))))))))))
  | succ d ih =>
    intro j n r hj h0 h1 r0 r1 hmr hb hl
    have hpe : (128 : Int) ^ (j + 1) = 128 ^ j * 128 := Int.pow_succ _ _
    have hpd : (128 : Int) ^ (d + 1 + 1) = 128 ^ (d + 1) * 128 := Int.pow_succ _ _
    have hp := pw3 j (by omega)
    have wa : ∀ _ : Unit, wrap64 ((a : Int) + (j : Int)) = ((a + j + 0 : Nat) : Int) := fun _ => by rw [w64 (by omega) (by omega)]; omega
    have wj : ∀ _ : Unit, wrap64 ((j : Int) + 1) = ((j + 1 : Nat) : Int) := fun _ => by rw [w64 (by omega) (by omega)]; omega
    by_cases h : r > 127
    · have ev : varL (d + 1) r = (r % 128 + 128) :: varL d (r / 128) := by rw [varL]; exact if_pos h
      rw [ev] at hb hl
      have hb0 := hb 0 (by simp)
      rw [List.getD_cons_zero] at hb0
      rw [List.length_cons] at hl
      have hor := shift_or j (by omega) n (r % 128) h0 h1 (by omega) (by omega)
      have m0 : 0 ≤ (r % 128) * 128 ^ j := Int.mul_nonneg (by omega) (by omega)
      have m1 : (r % 128) * 128 ^ j ≤ 127 * 128 ^ j := Int.mul_le_mul_of_nonneg_right (by omega) (by omega)
      refine Ev.step (fun _ => rfl) ?_
      simp only [impl_ReadVar.l0]
      rw [wa (), hb0, and_u8 (by omega) (by omega), show (r % 128 + 128) % 128 = r % 128 by omega, w64 (x := r % 128) (by omega) (by omega), hor, wj ()]
      refine Ev.pos (by omega) (Ev.pos (by omega) (Ev.pos (by omega) (Ev.pos (by rw [w64 (by omega) (by omega)]; omega) (Ev.pos (by omega) ?_))))
      refine ih (j + 1) _ (r / 128) (by omega) (by omega) (by omega) (by omega) (by omega) ?_ (fun i hi => ?_) (by omega)
      · rw [hpe, ← hmr, show r / 128 * (128 ^ j * 128) = (128 * (r / 128)) * 128 ^ j by rw [Int.mul_comm (128 ^ j) 128, ← Int.mul_assoc, Int.mul_comm (r / 128) 128], Int.add_assoc, ← Int.add_mul, Int.emod_add_mul_ediv]
      · have := hb (i + 1) (by simp; omega)
        rw [List.getD_cons_succ] at this
        rw [← this]; congr 2; omega
    · have ev : varL (d + 1) r = [r % 256] := by rw [varL]; exact if_neg h
      rw [ev] at hb hl
      have hb0 := hb 0 (by simp)
      rw [List.getD_cons_zero, show r % 256 = r by omega] at hb0
      have el : [r % 256].length = 1 := rfl
      rw [el] at hl
      have hor := shift_or j (by omega) n r h0 h1 r0 (by omega)
      have wa1 : ∀ _ : Unit, wrap64 (((a + j + 0 : Nat) : Int) + 1) = (e : Int) := fun _ => by rw [w64 (by omega) (by omega)]; omega
      refine Ev.step (fun _ => rfl) ?_
      simp only [impl_ReadVar.l0]
      rw [wa (), hb0, and_u8 r0 (by omega), show r % 128 = r by omega, w64 (x := r) (by omega) (by omega), hor, hmr, wa1 ()]
      exact Ev.pos (by omega) (Ev.pos (by omega) (Ev.pos (by omega) (Ev.pos (by rw [w64 (by omega) (by omega)]; omega) (Ev.neg (by omega) (Ev.bind (impl_var_ev m hm.1 hm.2) (Ev.pos rfl (Ev.pos (by omega) (Ev.pos (by omega) (Ev.pos (by omega) (Ev.pos (same_beq.2 hx) (Ev.now _)))))))))))
theorem bytesOf_extract (s : ByteArray) (a e : Nat) : bytesOf (s.extract a e) = ((bytesOf s).take e).drop a := by
  unfold bytesOf
  simp [ByteArray.data_extract, List.drop_take, List.map_take, List.map_drop]
theorem impl_rv_of (s : ByteArray) (hs : s.size ≤ 100000000) (a e : Nat) (m : Int) (hm : 0 ≤ m ∧ m ≤ 1000000000) (ha : a ≤ e) (he : e ≤ s.size) (hx : varT m = s.extract a e) : Ev (fun k => impl_ReadVar.f k s (a : Int)) (m, (e : Int), true) := by
  have hb : varL 4 m = ((bytesOf s).take e).drop a := by rw [← bytesOf_varT, hx, bytesOf_extract]
  have hl : (varL 4 m).length = e - a := by rw [hb, List.length_drop, List.length_take, bytesOf_length]; omega
  unfold impl_ReadVar.f
  refine Ev.bindc (within_of _ _ _) (Ev.pos (by simp; omega) ?_)
  refine impl_rv_in s hs a e m hm he hx 4 0 0 m rfl (by omega) (by omega) hm.1 (by omega) (by omega) (fun i hi => ?_) (by omega)
  rw [bytes_bt (by omega), hb, List.getD_eq_getElem?_getD, List.getD_eq_getElem?_getD, List.getElem?_drop, List.getElem?_take_of_lt (by omega)]
  rfl
/-! The text of a frame. -/
def frB (x0 x1 x2 x3 x4 x5 x6 : Int) : ByteArray := ((((strOfNums [x0 % 256, x1 % 256] ++ varT x2) ++ strOfNums [x3 % 256]) ++ fourS x4) ++ fourS x5) ++ varT x6
def selV (t : ByteArray) : ByteArray × Bool := if t.size ≤ 20000 then (t ++ fourS (sumS t), true) else (ByteArray.empty, false)
theorem frB_size (x0 x1 x2 x3 x4 x5 x6 : Int) : (frB x0 x1 x2 x3 x4 x5 x6).size = 11 + (varT x2).size + (varT x6).size := by
  unfold frB; simp only [ByteArray.size_append, strOfNums_size, fourS_size, List.length_cons, List.length_nil]; omega
theorem selV_yes {t : ByteArray} (h : t.size ≤ 20000) : selV t = (t ++ fourS (sumS t), true) := if_pos h
theorem selV_size (t : ByteArray) : (selV t).1.size ≤ t.size + 4 := by
  unfold selV
  split
  · simp only [ByteArray.size_append, fourS_size]; omega
  · exact Nat.zero_le _
theorem selV_frB (x0 x1 x2 x3 x4 x5 x6 : Int) : selV (frB x0 x1 x2 x3 x4 x5 x6) = (frB x0 x1 x2 x3 x4 x5 x6 ++ fourS (sumS (frB x0 x1 x2 x3 x4 x5 x6)), true) := by
  have h1 := varT_size x2; have h2 := varT_size x6
  exact selV_yes (by rw [frB_size]; omega)
theorem sealed_ev (t : ByteArray) (h : t.size ≤ 100000000) : Ev (fun k => spec_Sealed.f k t) (selV t) ∧ Ev (fun k => impl_Sealed.f k t) (selV t) := by
  unfold spec_Sealed.f impl_Sealed.f selV
  have hs := sumOf_ev t h
  have hi := sumS_in t
  by_cases h1 : t.size ≤ 20000
  · rw [if_pos h1]
    refine ⟨Ev.neg (by omega) (Ev.bind hs.2 (Ev.bindc (spec_four2_of _) (Ev.pos (by rw [fourS_size]; omega) (Ev.now _)))), Ev.neg (by omega) (Ev.bind hs.1 ?_)⟩
    rw [w64 (x := sumS t) (by omega) (by omega)]
    exact Ev.bindc (impl_four_of _) (Ev.pos (by rw [fourS_size]; omega) (Ev.now _))
  · rw [if_neg h1]
    exact ⟨Ev.pos (by omega) (Ev.now _), Ev.pos (by omega) (Ev.now _)⟩
theorem fourS_id {n : Int} (h : 0 ≤ n ∧ n < 4294967296) (t : ByteArray) : fourV (t ++ fourS n) t.size = n := by
  refine fourS_inj (fourV_in _ _) h ?_
  rw [four_of _ _ (by rw [ByteArray.size_append, fourS_size]; omega)]
  refine bytesOf_inj ?_
  rw [bytesOf_extract, bytesOf_app, List.take_of_length_le (by rw [List.length_append, bytesOf_length, bytesOf_length, fourS_size]; omega), List.drop_append_of_le_length (by rw [bytesOf_length]; omega), List.drop_of_length_le (by rw [bytesOf_length]; omega), List.nil_append]
theorem ext_all {t u : ByteArray} : (t ++ u).extract 0 t.size = t := by
  refine bytesOf_inj ?_
  rw [bytesOf_extract, bytesOf_app, List.drop_zero, List.take_append_of_le_length (by rw [bytesOf_length]; omega), List.take_of_length_le (by rw [bytesOf_length]; omega)]
theorem unsV_sel {t : ByteArray} (h : t.size ≤ 20000) : unsV (t ++ fourS (sumS t)) = (t, true) := by
  have e : (t ++ fourS (sumS t)).size - 4 = t.size := by rw [ByteArray.size_append, fourS_size]; omega
  have := unsV_yes (t := t ++ fourS (sumS t)) (by rw [ByteArray.size_append, fourS_size]; omega) (by rw [e, ext_all, fourS_id (sumS_in t)])
  rw [this, e, ext_all]
theorem unsV_ok {a s : ByteArray} (h : unsV a = (s, true)) : s.size + 4 = a.size ∧ s.size ≤ 20000 ∧ a = s ++ fourS (sumS s) := by
  unfold unsV at h
  split at h
  · rename_i hc
    injection h with h1 _
    subst h1
    have hz : (a.extract 0 (a.size - 4)).size = a.size - 4 := by rw [ByteArray.size_extract]; omega
    refine ⟨by omega, by omega, ?_⟩
    rw [hc.2, four_of a (a.size - 4) (by omega), ← ByteArray.extract_eq_extract_append_extract (a.size - 4) (by omega) (by omega), show a.size - 4 + 4 = a.size by omega, ByteArray.extract_zero_size]
  · injection h with _ h2
    cases h2
theorem spec_Unsealed_ev (t : ByteArray) (h : t.size ≤ 1048576) : Ev (fun k => spec_Unsealed.f k t) (unsV t) := by
  unfold spec_Unsealed.f
  rw [w64 (x := (t.size : Int) - 4) (by omega) (by omega)]
  by_cases h1 : (t.size : Int) - 4 < 0
  · rw [unsV_no (fun h => by omega)]; exact Ev.pos h1 (Ev.now _)
  by_cases h2 : (t.size : Int) - 4 > 20000
  · rw [unsV_no (fun h => by omega)]; exact Ev.neg h1 (Ev.pos h2 (Ev.now _))
  rw [show (t.size : Int) - 4 = ((t.size - 4 : Nat) : Int) by omega, Int.toNat_natCast]
  have hsum := (sumOf_ev (t.extract 0 (t.size - 4)) (by rw [ByteArray.size_extract]; omega)).2
  have hin := sumS_in (t.extract 0 (t.size - 4))
  have hx := four_of t (t.size - 4) (by omega)
  rw [show t.size - 4 + 4 = t.size by omega] at hx
  refine Ev.neg (by omega) (Ev.neg (by omega) (Ev.pos (by omega) (Ev.pos (by omega) (Ev.bind hsum (Ev.bindc (spec_four2_of _) ?_)))))
  by_cases he : sumS (t.extract 0 (t.size - 4)) = fourV t (t.size - 4)
  · rw [unsV_yes (by omega) he]
    exact Ev.pos (same_beq.2 (by rw [he, hx])) (Ev.now _)
  · rw [unsV_no (fun h => he h.2)]
    exact Ev.neg (fun h => he (fourS_inj hin (fourV_in _ _) (by rw [hx]; exact (same_beq.1 h).symm))) (Ev.now _)
theorem frameText_ev {x0 x1 x2 x3 x4 x5 x6 : Int} {b : Bool} (hb : spec_FrameOk.f x0 x1 x2 x3 x4 x5 x6 = some b) : Ev (fun k => spec_FrameText.f k x0 x1 x2 x3 x4 x5 x6) (if b = true then selV (frB x0 x1 x2 x3 x4 x5 x6) else (ByteArray.empty, false)) ∧ Ev (fun k => impl_FrameText.f k x0 x1 x2 x3 x4 x5 x6) (if b = true then selV (frB x0 x1 x2 x3 x4 x5 x6) else (ByteArray.empty, false)) := by
  have hb' := (frameOk_eq x0 x1 x2 x3 x4 x5 x6).trans hb
  unfold spec_FrameText.f impl_FrameText.f
  cases b with
  | false => exact ⟨Ev.bindc hb (Ev.neg (by simp) (Ev.now _)), Ev.bindc hb' (Ev.neg (by simp) (Ev.now _))⟩
  | true =>
    obtain ⟨b, h1, h2⟩ := frameOk_of x0 x1 x2 x3 x4 x5 x6
    rw [hb] at h1
    injection h1 with h1; subst h1
    obtain ⟨_, h3, h4⟩ := h2 rfl
    have z2 := varT_size x2; have z6 := varT_size x6
    have hz := frB_size x0 x1 x2 x3 x4 x5 x6
    have hs := sealed_ev (frB x0 x1 x2 x3 x4 x5 x6) (by omega)
    rw [if_pos rfl]
    simp only [IntKind.wrap_u8]
    constructor
    · refine Ev.bindc hb (Ev.pos rfl (Ev.bind (spec_var_ev x2 (by omega) (by omega)) (Ev.pos ?_ (Ev.pos ?_ (Ev.bindc (spec_four_of _) (Ev.pos ?_ (Ev.bindc (spec_four_of _) (Ev.pos ?_ (Ev.bind (spec_var_ev x6 (by omega) (by omega)) (Ev.pos ?_ (Ev.bind hs.1 (Ev.now _))))))))))))
      all_goals (simp only [ByteArray.size_append, strOfNums_size, fourS_size, List.length_cons, List.length_nil]; omega)
    · refine Ev.bindc hb' (Ev.pos rfl (Ev.bind (impl_var_ev x2 (by omega) (by omega)) (Ev.bind (impl_var_ev x6 (by omega) (by omega)) (Ev.pos ?_ (Ev.pos ?_ (Ev.bindc (impl_four_of _) (Ev.pos ?_ (Ev.bindc (impl_four_of _) (Ev.pos ?_ (Ev.pos ?_ (Ev.bind hs.2 (Ev.now _))))))))))))
      all_goals (simp only [ByteArray.size_append, strOfNums_size, fourS_size, List.length_cons, List.length_nil]; omega)
theorem joined (s : ByteArray) (e1 e2 : Nat) (m c : Int) (h1 : 2 < e1) (h2 : e1 + 9 < e2) (h3 : e2 ≤ s.size) (v1 : varT m = s.extract 2 e1) (v2 : varT c = s.extract (e1 + 9) e2) :
    frB (bt s 0) (bt s 1) m (bt s (e1 : Int)) (fourV s (e1 + 1)) (fourV s (e1 + 5)) c = s.extract 0 e2 := by
  have t0 : strOfNums [bt s 0 % 256, bt s 1 % 256] = s.extract 0 2 := two_bytes s 0 (by omega)
  have t1 : fourS (fourV s (e1 + 1)) = s.extract (e1 + 1) (e1 + 5) := four_of s (e1 + 1) (by omega)
  have t2 : fourS (fourV s (e1 + 5)) = s.extract (e1 + 5) (e1 + 9) := four_of s (e1 + 5) (by omega)
  unfold frB
  rw [t0, t1, t2, v1, v2, one_byte s e1 (by omega)]
  rw [← ByteArray.extract_eq_extract_append_extract 2 (by omega) (by omega), ← ByteArray.extract_eq_extract_append_extract e1 (by omega) (by omega), ← ByteArray.extract_eq_extract_append_extract (e1 + 1) (by omega) (by omega), ← ByteArray.extract_eq_extract_append_extract (e1 + 5) (by omega) (by omega), ← ByteArray.extract_eq_extract_append_extract (e1 + 9) (by omega) (by omega)]
def rf0 : Int × Int × Int × Int × Int × Int × Int × Bool := (0, 0, 0, 0, 0, 0, 0, false)
/-- What was read is what the text's frame tells. -/
def FT (a : ByteArray) (r : Int × Int × Int × Int × Int × Int × Int × Bool) : Prop := r.2.2.2.2.2.2.2 = true → spec_FrameOk.f r.1 r.2.1 r.2.2.1 r.2.2.2.1 r.2.2.2.2.1 r.2.2.2.2.2.1 r.2.2.2.2.2.2.1 = some true ∧ selV (frB r.1 r.2.1 r.2.2.1 r.2.2.2.1 r.2.2.2.2.1 r.2.2.2.2.2.1 r.2.2.2.2.2.2.1) = (a, true)
theorem ft0 (a : ByteArray) : FT a rf0 := fun h => by simp [rf0] at h
theorem readFrame_no {a : ByteArray} (h : a.size ≤ 1048576) (hu : (unsV a).2 = false) : Ev (fun k => impl_ReadFrame.f k a) rf0 := by
  unfold impl_ReadFrame.f
  exact Ev.bind (impl_Unsealed_ev a h) (Ev.neg (by rw [hu]; simp) (Ev.now _))
/-- Behind the first number. -/
theorem frame_in (a s : ByteArray) (hs : s.size ≤ 20000) (ha : a = s ++ fourS (sumS s)) (m : Int) (e1 : Nat) (hm : 0 ≤ m ∧ m ≤ 1000000000) (l1 : 2 < e1) (l2 : e1 + 9 ≤ s.size) (v1 : varT m = s.extract 2 e1)
    (sr : Ev (fun k => spec_ReadVar.f k s 2) (m, (e1 : Int), true)) (ir : Ev (fun k => impl_ReadVar.f k s 2) (m, (e1 : Int), true)) (us : unsV a = (s, true)) (hz : a.size ≤ 1048576) :
    ∃ r, Ev (fun k => spec_ReadFrame.f k a) r ∧ Ev (fun k => impl_ReadFrame.f k a) r ∧ FT a r := by
  have b0 := bt_range s 0; have b1 := bt_range s 1; have b2 := bt_range s (e1 : Int)
  obtain ⟨c, q, b, r1, r2, r3, _⟩ := readVar_ev s (by omega) (e1 + 9) l2
  obtain ⟨fo, ef, hf⟩ := frameOk_of (bt s 0) (bt s 1) m (bt s (e1 : Int)) (fourV s (e1 + 1)) (fourV s (e1 + 5)) c
  have et := (frameText_ev ef).1
  have ef' := (frameOk_eq (bt s 0) (bt s 1) m (bt s (e1 : Int)) (fourV s (e1 + 1)) (fourV s (e1 + 5)) c).trans ef
  have u := spec_Unsealed_ev a hz; have u' := impl_Unsealed_ev a hz
  rw [us] at u u'
  generalize hv : (if fo = true then selV (frB (bt s 0) (bt s 1) m (bt s (e1 : Int)) (fourV s (e1 + 1)) (fourV s (e1 + 5)) c) else (ByteArray.empty, false)) = v at et
  have sp : ∀ r, (if b = true then (if v.2 = true then (if (v.1.toList == a.toList) = true then some (bt s 0, bt s 1, m, bt s (e1 : Int), fourV s (e1 + 1), fourV s (e1 + 5), c, true) else some rf0) else some rf0) else some rf0) = some r → Ev (fun k => spec_ReadFrame.f k a) r := by
    intro r hr
    unfold spec_ReadFrame.f
    refine Ev.bind u (Ev.pos rfl (Ev.neg (by dsimp only; omega) (Ev.bind sr ?_)))
    dsimp only
    rw [w64 (x := (s.size : Int) - (e1 : Int)) (by omega) (by omega), w64 (x := (e1 : Int) + 9) (by omega) (by omega), w64 (x := (e1 : Int) + 1) (by omega) (by omega), w64 (x := (e1 : Int) + 5) (by omega) (by omega), w64 (x := bt s 0) (by omega) (by omega), w64 (x := bt s 1) (by omega) (by omega), w64 (x := bt s (e1 : Int)) (by omega) (by omega)]
    exact Ev.pos rfl (Ev.neg (by omega) (Ev.bind r1 (Ev.pos (by omega) (Ev.pos (by omega) (Ev.pos (by omega) (Ev.pos (by omega) (Ev.bindc (spec_l17Four_of s (e1 + 1) (by omega) (by omega)) (Ev.bindc (spec_l17Four_of s (e1 + 5) (by omega) (by omega)) (Ev.bind et (Ev.const hr)))))))))) 
  have im : ∀ r, (if b = true then (if q = (s.size : Int) then (if fo = true then some (bt s 0, bt s 1, m, bt s (e1 : Int), fourV s (e1 + 1), fourV s (e1 + 5), c, true) else some rf0) else some rf0) else some rf0) = some r → Ev (fun k => impl_ReadFrame.f k a) r := by
    intro r hr
    unfold impl_ReadFrame.f
    refine Ev.bind u' (Ev.pos rfl (Ev.neg (by dsimp only; omega) (Ev.bind ir ?_)))
    dsimp only
    rw [w64 (x := (s.size : Int) - (e1 : Int)) (by omega) (by omega), w64 (x := (e1 : Int) + 9) (by omega) (by omega), w64 (x := (e1 : Int) + 1) (by omega) (by omega), w64 (x := (e1 : Int) + 5) (by omega) (by omega), w64 (x := bt s 0) (by omega) (by omega), w64 (x := bt s 1) (by omega) (by omega), w64 (x := bt s (e1 : Int)) (by omega) (by omega)]
    refine Ev.pos rfl (Ev.neg (by omega) (Ev.bind r2 (Ev.pos (by omega) (Ev.pos (by omega) (Ev.pos (by omega) (Ev.pos (by omega) (Ev.bindc (impl_fourAt_of s (e1 + 1) (by omega) (by omega)) (Ev.bindc (impl_fourAt_of s (e1 + 5) (by omega) (by omega)) ?_)))))))) 
    simp only [ef', Option.bind_some]
    exact Ev.const hr
  cases b with
  | false => exact ⟨rf0, sp _ (by simp), im _ (by simp), ft0 a⟩
  | true =>
    obtain ⟨hc, e2, rfl, l3, l4, v2⟩ := r3 rfl
    cases fo with
    | false =>
      rw [if_neg (by simp)] at hv
      subst hv
      exact ⟨rf0, sp _ (by simp), im _ (by simp), ft0 a⟩
    | true =>
      have hj := joined s e1 e2 m c l1 l3 l4 v1 v2
      rw [if_pos rfl, hj, selV_yes (by rw [ByteArray.size_extract]; omega)] at hv
      subst hv
      by_cases hq : e2 = s.size
      · subst hq
        rw [ByteArray.extract_zero_size] at hj sp
        refine ⟨_, sp _ (by rw [if_pos rfl, if_pos rfl, if_pos (same_beq.2 ha.symm)]), im _ (by rw [if_pos rfl, if_pos rfl, if_pos rfl]), fun _ => ⟨ef, ?_⟩⟩
        dsimp only
        rw [hj, selV_yes hs, ← ha]
      · refine ⟨rf0, sp _ ?_, im _ ?_, ft0 a⟩
        · rw [if_pos rfl, if_pos rfl, if_neg]
          intro h
          have := congrArg ByteArray.size (same_beq.1 h)
          rw [ha] at this
          simp only [ByteArray.size_append, ByteArray.size_extract, fourS_size] at this
          omega
        · rw [if_pos rfl, if_neg (by omega)]
theorem readFrame_ev (a : ByteArray) (h : a.size ≤ 1048576) : ∃ r, Ev (fun k => spec_ReadFrame.f k a) r ∧ Ev (fun k => impl_ReadFrame.f k a) r ∧ FT a r := by
  have u := spec_Unsealed_ev a h; have u' := impl_Unsealed_ev a h
  cases hu : unsV a with
  | mk s b =>
    rw [hu] at u u'
    cases b with
    | false =>
      refine ⟨rf0, ?_, readFrame_no h (by rw [hu]), ft0 a⟩
      unfold spec_ReadFrame.f
      exact Ev.bind u (Ev.neg (by simp) (Ev.now _))
    | true =>
      obtain ⟨hz, hs, ha⟩ := unsV_ok hu
      by_cases h2 : (s.size : Int) < 2
      · refine ⟨rf0, ?_, ?_, ft0 a⟩
        · unfold spec_ReadFrame.f
          exact Ev.bind u (Ev.pos rfl (Ev.pos h2 (Ev.now _)))
        · unfold impl_ReadFrame.f
          exact Ev.bind u' (Ev.pos rfl (Ev.pos h2 (Ev.now _)))
      obtain ⟨m, q, b, r1, r2, r3, _⟩ := readVar_ev s (by omega) 2 (by omega)
      cases b with
      | false =>
        refine ⟨rf0, ?_, ?_, ft0 a⟩
        · unfold spec_ReadFrame.f
          exact Ev.bind u (Ev.pos rfl (Ev.neg h2 (Ev.bind r1 (Ev.neg (by simp) (Ev.now _)))))
        · unfold impl_ReadFrame.f
          exact Ev.bind u' (Ev.pos rfl (Ev.neg h2 (Ev.bind r2 (Ev.neg (by simp) (Ev.now _)))))
      | true =>
        obtain ⟨hm, e1, rfl, l1, l2, v1⟩ := r3 rfl
        by_cases h9 : (s.size : Int) - (e1 : Int) < 9
        · refine ⟨rf0, ?_, ?_, ft0 a⟩
          · unfold spec_ReadFrame.f
            refine Ev.bind u (Ev.pos rfl (Ev.neg h2 (Ev.bind r1 (Ev.pos rfl (Ev.pos ?_ (Ev.now _))))))
            dsimp only; rw [w64 (by omega) (by omega)]; exact h9
          · unfold impl_ReadFrame.f
            refine Ev.bind u' (Ev.pos rfl (Ev.neg h2 (Ev.bind r2 (Ev.pos rfl (Ev.pos ?_ (Ev.now _))))))
            dsimp only; rw [w64 (by omega) (by omega)]; exact h9
        · exact frame_in a s hs ha m e1 hm l1 (by omega) v1 r1 r2 hu h
/-! A right frame comes back from its text. -/
theorem item_rng {a b c d : Int} (h : spec_ItemOk.f a b c d = some true) : (a = 1 ∧ (0 ≤ b ∧ b ≤ 4294967295) ∧ (0 ≤ c ∧ c ≤ 4294967295) ∧ d = 0) ∨ (a = 2 ∧ b = 0 ∧ c = 0 ∧ 1 ≤ d ∧ d ≤ 1000000000) := by
  unfold spec_ItemOk.f spec_HalfOk.f at h
  simp only [spec_l01In_of, Option.bind_some] at h
  by_cases h1 : a = 1
  · rw [if_pos h1] at h
    by_cases h2 : 0 ≤ b ∧ b ≤ 4294967295
    · rw [if_pos (by simpa using h2)] at h
      by_cases h3 : 0 ≤ c ∧ c ≤ 4294967295
      · rw [if_pos (by simpa using h3)] at h
        have := beq_iff_eq.1 (Option.some.inj h)
        exact .inl ⟨h1, h2, h3, this⟩
      · rw [if_neg (by simpa using h3)] at h; cases h
    · rw [if_neg (by simpa using h2)] at h; cases h
  · rw [if_neg h1] at h
    by_cases h2 : a = 2
    · rw [if_pos h2] at h
      by_cases h3 : 1 ≤ d ∧ d ≤ 1000000000
      · rw [if_pos (by simpa using h3)] at h
        by_cases h4 : b = 0
        · rw [if_pos h4] at h
          have := beq_iff_eq.1 (Option.some.inj h)
          exact .inr ⟨h2, h4, this, h3⟩
        · rw [if_neg h4] at h; cases h
      · rw [if_neg (by simpa using h3)] at h; cases h
    · rw [if_neg h2] at h; cases h
theorem frame_rng {x0 x1 x2 x3 x4 x5 x6 : Int} (h : spec_FrameOk.f x0 x1 x2 x3 x4 x5 x6 = some true) : (0 ≤ x1 ∧ x1 ≤ 2) ∧ (1 ≤ x2 ∧ x2 ≤ 1000000000) ∧ ((x0 = 1 ∧ spec_ItemOk.f x3 x4 x5 x6 = some true) ∨ (x0 = 2 ∧ x3 = 0 ∧ x4 = 0 ∧ x5 = 0 ∧ x6 = 0)) := by
  unfold spec_FrameOk.f at h
  simp only [spec_l01In_of, Option.bind_some] at h
  by_cases h1 : 0 ≤ x1 ∧ x1 ≤ 2
  · rw [if_pos (by simpa using h1)] at h
    by_cases h2 : 1 ≤ x2 ∧ x2 ≤ 1000000000
    · rw [if_pos (by simpa using h2)] at h
      refine ⟨h1, h2, ?_⟩
      by_cases h3 : x0 = 1
      · rw [if_pos h3] at h
        obtain ⟨r, hr, _⟩ := item_ok x3 x4 x5 x6
        rw [hr] at h
        rw [← h]
        exact .inl ⟨h3, hr⟩
      · rw [if_neg h3] at h
        by_cases h4 : x0 = 2
        · rw [if_pos h4] at h
          have := Option.some.inj h
          simp at this
          exact .inr ⟨h4, this⟩
        · rw [if_neg h4] at h; cases h
    · rw [if_neg (by simpa using h2)] at h; cases h
  · rw [if_neg (by simpa using h1)] at h; cases h
theorem frame_bytes {x0 x1 x2 x3 x4 x5 x6 : Int} (h : spec_FrameOk.f x0 x1 x2 x3 x4 x5 x6 = some true) : (0 ≤ x0 ∧ x0 < 256) ∧ (0 ≤ x1 ∧ x1 < 256) ∧ (0 ≤ x2 ∧ x2 ≤ 1000000000) ∧ (0 ≤ x3 ∧ x3 < 256) ∧ (0 ≤ x4 ∧ x4 < 4294967296) ∧ (0 ≤ x5 ∧ x5 < 4294967296) ∧ (0 ≤ x6 ∧ x6 ≤ 1000000000) := by
  obtain ⟨h1, h2, h3 | h3⟩ := frame_rng h
  · have := item_rng h3.2
    omega
  · omega
theorem ext_mid (x y z : ByteArray) : ((x ++ y) ++ z).extract x.size (x.size + y.size) = y := by
  refine bytesOf_inj ?_
  rw [bytesOf_extract, bytesOf_app, bytesOf_app, List.take_append_of_le_length (by rw [List.length_append, bytesOf_length, bytesOf_length]; omega), List.take_of_length_le (by rw [List.length_append, bytesOf_length, bytesOf_length]; omega), List.drop_append_of_le_length (by rw [bytesOf_length]; omega), List.drop_of_length_le (by rw [bytesOf_length]; omega), List.nil_append]
theorem four_mid (x z : ByteArray) {n : Int} (h : 0 ≤ n ∧ n < 4294967296) (i : Nat) (hi : i = x.size) : fourV ((x ++ fourS n) ++ z) i = n := by
  subst hi
  refine fourS_inj (fourV_in _ _) h ?_
  rw [four_of _ _ (by simp only [ByteArray.size_append, fourS_size]; omega), ← fourS_size n, ext_mid]
theorem bt_mid (x z : ByteArray) {v : Int} (h : 0 ≤ v ∧ v < 256) (i : Nat) (hi : i = x.size) : bt ((x ++ strOfNums [v]) ++ z) (i : Int) = v := by
  subst hi
  have hb : bytesOf (strOfNums [v]) = [v] := bytesOf_str _ (fun y hy => by rw [List.mem_singleton] at hy; omega)
  rw [bytes_bt (by simp only [ByteArray.size_append, strOfNums_size, List.length_cons, List.length_nil]; omega), bytesOf_app, bytesOf_app, hb, List.append_assoc, List.getD_eq_getElem?_getD, List.getElem?_append_right (by rw [bytesOf_length]; omega), bytesOf_length, Nat.sub_self]
  rfl
theorem frB_parts {x0 x1 x2 x3 x4 x5 x6 : Int} (h0 : 0 ≤ x0 ∧ x0 < 256) (h1 : 0 ≤ x1 ∧ x1 < 256) (h3 : 0 ≤ x3 ∧ x3 < 256) (h4 : 0 ≤ x4 ∧ x4 < 4294967296) (h5 : 0 ≤ x5 ∧ x5 < 4294967296) (s : ByteArray) (hs : s = frB x0 x1 x2 x3 x4 x5 x6) :
    bt s 0 = x0 ∧ bt s 1 = x1 ∧ varT x2 = s.extract 2 (2 + (varT x2).size) ∧ bt s ((2 + (varT x2).size : Nat) : Int) = x3 ∧ fourV s (2 + (varT x2).size + 1) = x4 ∧ fourV s (2 + (varT x2).size + 5) = x5 ∧ varT x6 = s.extract (2 + (varT x2).size + 9) s.size := by
  have e0 : x0 % 256 = x0 := by omega
  have e1 : x1 % 256 = x1 := by omega
  have e3 : x3 % 256 = x3 := by omega
  have ea : strOfNums [x0, x1] = strOfNums [x0] ++ strOfNums [x1] := str_append [x0] [x1]
  have hz := frB_size x0 x1 x2 x3 x4 x5 x6
  rw [← hs] at hz
  unfold frB at hs
  rw [e0, e1, e3] at hs
  refine ⟨?_, ?_, ?_, ?_, ?_, ?_, ?_⟩
  · have := bt_mid ByteArray.empty (((((strOfNums [x1] ++ varT x2) ++ strOfNums [x3]) ++ fourS x4) ++ fourS x5) ++ varT x6) h0 0 rfl
    rw [ByteArray.empty_append] at this
    rw [hs, ea]; simp only [ByteArray.append_assoc] at this ⊢; exact this
  · have := bt_mid (strOfNums [x0]) ((((varT x2 ++ strOfNums [x3]) ++ fourS x4) ++ fourS x5) ++ varT x6) h1 1 (by rw [strOfNums_size]; rfl)
    rw [hs, ea]; simp only [ByteArray.append_assoc] at this ⊢; exact this
  · have := ext_mid (strOfNums [x0, x1]) (varT x2) (((strOfNums [x3] ++ fourS x4) ++ fourS x5) ++ varT x6)
    rw [strOfNums_size, show [x0, x1].length = 2 from rfl] at this
    rw [hs]; simp only [ByteArray.append_assoc] at this ⊢; exact this.symm
  · have := bt_mid (strOfNums [x0, x1] ++ varT x2) ((fourS x4 ++ fourS x5) ++ varT x6) h3 (2 + (varT x2).size) (by rw [ByteArray.size_append, strOfNums_size]; rfl)
    rw [hs]; simp only [ByteArray.append_assoc] at this ⊢; exact this
  · have := four_mid ((strOfNums [x0, x1] ++ varT x2) ++ strOfNums [x3]) (fourS x5 ++ varT x6) h4 (2 + (varT x2).size + 1) (by simp only [ByteArray.size_append, strOfNums_size]; rfl)
    rw [hs]; simp only [ByteArray.append_assoc] at this ⊢; exact this
  · have := four_mid (((strOfNums [x0, x1] ++ varT x2) ++ strOfNums [x3]) ++ fourS x4) (varT x6) h5 (2 + (varT x2).size + 5) (by simp only [ByteArray.size_append, strOfNums_size, fourS_size]; rfl)
    rw [hs]; simp only [ByteArray.append_assoc] at this ⊢; exact this
  · have := ext_mid ((((strOfNums [x0, x1] ++ varT x2) ++ strOfNums [x3]) ++ fourS x4) ++ fourS x5) (varT x6) ByteArray.empty
    rw [ByteArray.append_empty] at this
    have hx : ((((strOfNums [x0, x1] ++ varT x2) ++ strOfNums [x3]) ++ fourS x4) ++ fourS x5).size = 2 + (varT x2).size + 9 := by simp only [ByteArray.size_append, strOfNums_size, fourS_size]; rfl
    rw [hx, show 2 + (varT x2).size + 9 + (varT x6).size = s.size by omega] at this
    rw [← hs] at this
    exact this.symm
theorem readFrame_of {x0 x1 x2 x3 x4 x5 x6 : Int} (h : spec_FrameOk.f x0 x1 x2 x3 x4 x5 x6 = some true) : Ev (fun k => impl_ReadFrame.f k (selV (frB x0 x1 x2 x3 x4 x5 x6)).1) (x0, x1, x2, x3, x4, x5, x6, true) := by
  obtain ⟨h0, h1, h2, h3, h4, h5, h6⟩ := frame_bytes h
  have z2 := varT_size x2; have z6 := varT_size x6
  have hz := frB_size x0 x1 x2 x3 x4 x5 x6
  obtain ⟨b0, b1, p2, b3, f4, f5, p6⟩ := frB_parts (x2 := x2) (x6 := x6) h0 h1 h3 h4 h5 _ rfl
  rw [selV_frB]
  generalize frB x0 x1 x2 x3 x4 x5 x6 = s at hz b0 b1 p2 b3 f4 f5 p6 ⊢
  have u := impl_Unsealed_ev (s ++ fourS (sumS s)) (by rw [ByteArray.size_append, fourS_size]; omega)
  rw [unsV_sel (by omega)] at u
  have r1 := impl_rv_of s (by omega) 2 _ x2 h2 (by omega) (by omega) p2
  have r2 := impl_rv_of s (by omega) _ _ x6 h6 (by omega) (Nat.le_refl _) p6
  generalize he1 : 2 + (varT x2).size = e1 at *
  have g1 := impl_fourAt_of s (e1 + 1) (by omega) (by omega)
  have g2 := impl_fourAt_of s (e1 + 5) (by omega) (by omega)
  rw [f4] at g1; rw [f5] at g2
  have ef' := (frameOk_eq x0 x1 x2 x3 x4 x5 x6).trans h
  unfold impl_ReadFrame.f
  refine Ev.bind u (Ev.pos rfl (Ev.neg (by dsimp only; omega) (Ev.bind r1 ?_)))
  dsimp only
  rw [w64 (x := (s.size : Int) - (e1 : Int)) (by omega) (by omega), w64 (x := (e1 : Int) + 9) (by omega) (by omega), w64 (x := (e1 : Int) + 1) (by omega) (by omega), w64 (x := (e1 : Int) + 5) (by omega) (by omega), b0, b1, b3, w64 (x := x0) (by omega) (by omega), w64 (x := x1) (by omega) (by omega), w64 (x := x3) (by omega) (by omega)]
  exact Ev.pos rfl (Ev.neg (by omega) (Ev.bind r2 (Ev.pos (by omega) (Ev.pos (by omega) (Ev.pos (by omega) (Ev.pos (by omega) (Ev.bindc g1 (Ev.bindc g2 (Ev.pos rfl (Ev.pos rfl (Ev.bindc ef' (Ev.pos rfl (Ev.now _)))))))))))))
/-- Ends with enough rounds, and what comes out is so. -/
def Tot {α : Type} (g : Nat → Option α) (P : α → Prop) : Prop := ∃ r, Ev g r ∧ P r
section
variable {α β : Type} {P Q : α → Prop} {R : β → Prop}
theorem Tot.now {r : α} (h : P r) : Tot (fun _ => some r) P := ⟨r, Ev.now r, h⟩
theorem Tot.bind {g : Nat → Option α} {f : Nat → α → Option β} (h : Tot g P) (k : ∀ a, P a → Tot (fun n => f n a) R) : Tot (fun n => (g n).bind (f n)) R := by
  obtain ⟨a, ha, hp⟩ := h
  obtain ⟨r, hr, h⟩ := k a hp
  exact ⟨r, Ev.bind ha hr, h⟩
theorem Tot.bindc {a : Option α} {f : Nat → α → Option β} (h : ∃ x, a = some x ∧ P x) (k : ∀ x, P x → Tot (fun n => f n x) R) : Tot (fun n => a.bind (f n)) R := by
  obtain ⟨a, ha, hp⟩ := h
  obtain ⟨r, hr, h⟩ := k a hp
  exact ⟨r, Ev.bindc ha hr, h⟩
theorem Tot.bind1 {g : Nat → Option α} {f : Nat → α → Option β} {a : α} (h : Ev g a) (k : Tot (fun n => f n a) R) : Tot (fun n => (g n).bind (f n)) R := by
  obtain ⟨r, hr, k⟩ := k
  exact ⟨r, Ev.bind h hr, k⟩
theorem Tot.bindc1 {a : Option α} {f : Nat → α → Option β} {x : α} (h : a = some x) (k : Tot (fun n => f n x) R) : Tot (fun n => a.bind (f n)) R := by
  obtain ⟨r, hr, k⟩ := k
  exact ⟨r, Ev.bindc h hr, k⟩
theorem Tot.pos {c : Prop} [Decidable c] {f g : Nat → Option α} (h : c) (k : Tot f P) : Tot (fun n => if c then f n else g n) P := by
  obtain ⟨r, hr, k⟩ := k
  exact ⟨r, Ev.pos h hr, k⟩
theorem Tot.neg {c : Prop} [Decidable c] {f g : Nat → Option α} (h : ¬ c) (k : Tot g P) : Tot (fun n => if c then f n else g n) P := by
  obtain ⟨r, hr, k⟩ := k
  exact ⟨r, Ev.neg h hr, k⟩
theorem Tot.grd {c : Prop} [Decidable c] {f : Nat → Option α} (h : c) (k : Tot f P) : Tot (fun n => if c then f n else none) P := Tot.pos h k
theorem Tot.both {c : Prop} [Decidable c] {f g : Nat → Option α} (h : c → Tot f P) (k : ¬ c → Tot g P) : Tot (fun n => if c then f n else g n) P := by
  by_cases hc : c
  · exact Tot.pos hc (h hc)
  · exact Tot.neg hc (k hc)
theorem Tot.step {g f : Nat → Option α} (h : ∀ k, g (k + 1) = f k) (k : Tot f P) : Tot g P := by
  obtain ⟨r, hr, k⟩ := k
  exact ⟨r, Ev.step h hr, k⟩
theorem Tot.mono {g : Nat → Option α} (h : Tot g P) (k : ∀ r, P r → Q r) : Tot g Q := by
  obtain ⟨r, hr, h⟩ := h
  exact ⟨r, hr, k r h⟩
theorem Tot.one {g : Nat → Option α} {r : α} (h : Ev g r) (k : P r) : Tot g P := ⟨r, h, k⟩
/-- A loop of at most m rounds that keeps Inv. -/
theorem Tot.up {σ : Type} (L : Nat → σ → Int → Option α) (m : Nat) (Inv : Nat → σ → Prop)
    (step : ∀ (j : Nat) s, j ≤ m → Inv j s → (∀ s', j < m → Inv (j + 1) s' → Tot (fun k => L k s' ((j : Int) + 1)) P) → Tot (fun k => L k s (j : Int)) P) :
    ∀ s, Inv 0 s → Tot (fun k => L k s 0) P := by
  have key : ∀ (d j : Nat) s, m - j = d → j ≤ m → Inv j s → Tot (fun k => L k s (j : Int)) P := by
    intro d
    induction d with
    | zero => intro j s hd hj hi; exact step j s hj hi (fun s' h _ => by omega)
    | succ d ih => intro j s hd hj hi; exact step j s hj hi (fun s' h hi' => by have := ih (j + 1) s' (by omega) (by omega) hi'; simpa using this)
  intro s hs
  exact key _ 0 s rfl (Nat.zero_le _) hs
end
theorem and255 (x : Int) : 0 ≤ bits .and .i64 x 255 ∧ bits .and .i64 x 255 ≤ 255 := by
  have h : bits .and .i64 x 255 = (((BitVec.ofInt 64 x).toNat &&& 255 : Nat) : Int) := by
    show IntKind.i64.wrap (((BitVec.ofInt 64 x) &&& (BitVec.ofInt 64 255)).toNat : Int) = _
    rw [BitVec.toNat_and]
    have : (BitVec.ofInt 64 255).toNat = 255 := by decide
    rw [this, IntKind.wrap_i64]
    have h2 : (BitVec.ofInt 64 x).toNat &&& 255 ≤ 255 := Nat.and_le_right
    omega
  rw [h]
  have h2 : (BitVec.ofInt 64 x).toNat &&& 255 ≤ 255 := Nat.and_le_right
  omega
/-- A reader's place. -/
def Rd (b : List Int) (i : Int) : Prop := b.length ≤ 1048576 ∧ 0 ≤ i ∧ i ≤ (b.length : Int)
theorem l01New_ev (b : List Int) (hb : b.length ≤ 1048576) : ∃ s, Ev (fun k => spec_l01New.f k b) (b, 0, s) := by
  have key : ∀ (d i : Nat) (s : Int), b.length - i = d → i ≤ b.length → ∃ s', Ev (fun k => spec_l01New.l0 k b s (i : Int)) (b, 0, s') := by
    intro d
    induction d with
    | zero =>
      intro i s hd hi
      refine ⟨s, Ev.step (fun _ => rfl) ?_⟩
      simp only [spec_l01New.l0]; exact Ev.neg (by omega) (Ev.now _)
    | succ d ih =>
      intro i s hd hi
      by_cases h : (i : Int) < 4000
      · obtain ⟨s', h'⟩ := ih (i + 1) (bits .and .i64 (wrap64 ((wrap64 ((wrap64 (s * 131)) + (wrap64 (rd b i)))) + 7)) 1073741823) (by omega) (by omega)
        refine ⟨s', Ev.step (fun _ => rfl) ?_⟩
        simp only [spec_l01New.l0]; rw [w64 (x := (i : Int) + 1) (by omega) (by omega)]
        exact Ev.pos (by omega) (Ev.pos h (Ev.pos (by omega) h'))
      · refine ⟨s, Ev.step (fun _ => rfl) ?_⟩
        simp only [spec_l01New.l0]; exact Ev.pos (by omega) (Ev.neg h (Ev.now _))
  exact key b.length 0 _ rfl (Nat.zero_le _)
theorem l01Byte_of (b : List Int) (i s : Int) (h : Rd b i) : ∃ v i' s', spec_l01Byte.f b i s = some (v, b, i', s') ∧ Rd b i' ∧ 0 ≤ v ∧ v ≤ 255 := by
  unfold spec_l01Byte.f
  by_cases hi : i < (b.length : Int)
  · rw [if_pos hi, if_pos h.2.1]
    exact ⟨_, _, _, rfl, ⟨h.1, by rw [w64 (by have := h.1; have := h.2.1; omega) (by have := h.1; omega)]; have := h.2.1; omega, by rw [w64 (by have := h.1; have := h.2.1; omega) (by have := h.1; omega)]; omega⟩, and255 _⟩
  · rw [if_neg hi]
    exact ⟨_, _, _, rfl, h, and255 _⟩
theorem tmod_of {v n : Int} (h : 0 ≤ v) (hn : 0 < n) : 0 ≤ v.tmod n ∧ v.tmod n < n := ⟨Int.tmod_nonneg _ h, Int.tmod_lt_of_pos _ hn⟩
theorem l01Below_of (b : List Int) (i s n : Int) (h : Rd b i) (hn : 0 < n) : ∃ v i' s', spec_l01Below.f b i s n = some (v, b, i', s') ∧ Rd b i' ∧ 0 ≤ v ∧ v < n := by
  unfold spec_l01Below.f
  rw [if_neg (by omega)]
  obtain ⟨v1, i1, s1, e1, h1, b1⟩ := l01Byte_of b i s h
  obtain ⟨v2, i2, s2, e2, h2, b2⟩ := l01Byte_of b i1 s1 h1
  obtain ⟨v3, i3, s3, e3, h3, b3⟩ := l01Byte_of b i2 s2 h2
  obtain ⟨v4, i4, s4, e4, h4, b4⟩ := l01Byte_of b i3 s3 h3
  by_cases hn2 : n ≤ 256
  · rw [if_pos hn2, e1]
    simp only [Option.bind_some]
    rw [if_pos (by omega)]
    exact ⟨_, _, _, rfl, h1, tmod_of b1.1 hn⟩
  · rw [if_neg hn2, e1]
    simp only [Option.bind_some, e2, e3, e4]
    rw [if_pos (by omega)]
    refine ⟨_, _, _, rfl, h4, tmod_of ?_ hn⟩
    rw [w64 (x := v1 * 16777216) (by omega) (by omega), w64 (x := v2 * 65536) (by omega) (by omega), w64 (x := v1 * 16777216 + v2 * 65536) (by omega) (by omega), w64 (x := v3 * 256) (by omega) (by omega), w64 (x := v1 * 16777216 + v2 * 65536 + v3 * 256) (by omega) (by omega), w64 (by omega) (by omega)]
    omega
theorem l01PickInt_of (b : List Int) (i s : Int) (l : List Int) (h : Rd b i) (hl : 0 < l.length) : ∃ v i' s', spec_l01PickInt.f b i s l = some (v, b, i', s') ∧ Rd b i' ∧ v ∈ l := by
  obtain ⟨v, i', s', e, h', h0, h1⟩ := l01Below_of b i s l.length h (by omega)
  unfold spec_l01PickInt.f
  rw [e]
  simp only [Option.bind_some]
  rw [if_pos h0, if_pos h1]
  refine ⟨_, _, _, rfl, h', ?_⟩
  have hv : v.toNat < l.length := by omega
  unfold rd
  rw [List.getD_eq_getElem?_getD, List.getElem?_eq_getElem hv]
  exact List.getElem_mem hv
theorem l01Once_of (b : List Int) (i s n : Int) (h : Rd b i) (hn : 0 < n) : ∃ (v : Bool) (i' s' : Int), spec_l01Once.f b i s n = some (v, b, i', s') ∧ Rd b i' := by
  obtain ⟨v, i', s', e, h', h0, h1⟩ := l01Below_of b i s n h hn
  exact ⟨_, _, _, by unfold spec_l01Once.f; rw [e]; rfl, h'⟩
section
variable {α : Type} {P : α → Prop} {b : List Int} {i s n : Int}
theorem Tot.below {f : Nat → (Int × List Int × Int × Int) → Option α} (h : Rd b i) (hn : 0 < n) (k : ∀ v i' s', Rd b i' → 0 ≤ v → v < n → Tot (fun m => f m (v, b, i', s')) P) : Tot (fun m => (spec_l01Below.f b i s n).bind (f m)) P := by
  obtain ⟨v, i', s', e, h', h0, h1⟩ := l01Below_of b i s n h hn
  exact Tot.bindc1 e (k v i' s' h' h0 h1)
theorem Tot.once {f : Nat → (Bool × List Int × Int × Int) → Option α} (h : Rd b i) (hn : 0 < n) (k : ∀ v i' s', Rd b i' → Tot (fun m => f m (v, b, i', s')) P) : Tot (fun m => (spec_l01Once.f b i s n).bind (f m)) P := by
  obtain ⟨v, i', s', e, h'⟩ := l01Once_of b i s n h hn
  exact Tot.bindc1 e (k v i' s' h')
theorem Tot.pick {l : List Int} {f : Nat → (Int × List Int × Int × Int) → Option α} (h : Rd b i) (hl : 0 < l.length) (k : ∀ v i' s', Rd b i' → v ∈ l → Tot (fun m => f m (v, b, i', s')) P) : Tot (fun m => (spec_l01PickInt.f b i s l).bind (f m)) P := by
  obtain ⟨v, i', s', e, h', h0⟩ := l01PickInt_of b i s l h hl
  exact Tot.bindc1 e (k v i' s' h' h0)
end
theorem l04Half_of (b : List Int) (i s : Int) (h : Rd b i) : ∃ (v : Int) (i' s' : Int), spec_l04Half.f b i s = some (v, b, i', s') ∧ Rd b i' ∧ 0 ≤ v ∧ v ≤ 4294967295 := by
  obtain ⟨v, i1, s1, e1, h1, b1, b2⟩ := l01Below_of b i s 12 h (by omega)
  obtain ⟨w, i2, s2, e2, h2, m2⟩ := l01PickInt_of b i1 s1 [0, 1, 2, 3, 5, 7, 255, 4294967295, 2147483648, v] h1 (by simp)
  refine ⟨w, i2, s2, ?_, h2, ?_⟩
  · unfold spec_l04Half.f
    rw [e1]
    simp only [Option.bind_some]
    rw [e2]; rfl
  · simp only [List.mem_cons, List.not_mem_nil, or_false] at m2
    omega
theorem l17Item_of (b : List Int) (i s : Int) (h : Rd b i) : ∃ (x0 x1 x2 x3 i' s' : Int), spec_l17Item.f b i s = some (x0, x1, x2, x3, b, i', s') ∧ Rd b i' ∧ ((x0 = 2 ∧ x1 = 0 ∧ x2 = 0 ∧ 1 ≤ x3 ∧ x3 ≤ 5) ∨ (x0 = 1 ∧ (0 ≤ x1 ∧ x1 ≤ 8) ∧ (0 ≤ x2 ∧ x2 ≤ 4294967295) ∧ x3 = 0)) := by
  obtain ⟨v, i1, s1, e1, h1⟩ := l01Once_of b i s 3 h (by omega)
  unfold spec_l17Item.f
  rw [e1]
  simp only [Option.bind_some]
  cases v with
  | true =>
    obtain ⟨w, i2, s2, e2, h2, b2, b3⟩ := l01Below_of b i1 s1 5 h1 (by omega)
    rw [if_pos rfl, e2]
    exact ⟨_, _, _, _, _, _, rfl, h2, .inl ⟨rfl, rfl, rfl, by rw [w64 (by omega) (by omega)]; omega, by rw [w64 (by omega) (by omega)]; omega⟩⟩
  | false =>
    obtain ⟨w, i2, s2, e2, h2, b2, b3⟩ := l01Below_of b i1 s1 9 h1 (by omega)
    obtain ⟨u, i3, s3, e3, h3, b4, b5⟩ := l04Half_of b i2 s2 h2
    rw [if_neg (by simp), e2]
    simp only [Option.bind_some]
    rw [e3]
    exact ⟨_, _, _, _, _, _, rfl, h3, .inr ⟨rfl, by omega, by omega, rfl⟩⟩
section
variable {α : Type} {P : α → Prop} {b : List Int} {i s : Int}
theorem Tot.half {f : Nat → (Int × List Int × Int × Int) → Option α} (h : Rd b i) (k : ∀ v i' s', Rd b i' → 0 ≤ v → v ≤ 4294967295 → Tot (fun m => f m (v, b, i', s')) P) : Tot (fun m => (spec_l04Half.f b i s).bind (f m)) P := by
  obtain ⟨v, i', s', e, h', h0, h1⟩ := l04Half_of b i s h
  exact Tot.bindc1 e (k v i' s' h' h0 h1)
theorem Tot.item {f : Nat → (Int × Int × Int × Int × List Int × Int × Int) → Option α} (h : Rd b i) (k : ∀ x0 x1 x2 x3 i' s', Rd b i' → ((x0 = 2 ∧ x1 = 0 ∧ x2 = 0 ∧ 1 ≤ x3 ∧ x3 ≤ 5) ∨ (x0 = 1 ∧ (0 ≤ x1 ∧ x1 ≤ 8) ∧ (0 ≤ x2 ∧ x2 ≤ 4294967295) ∧ x3 = 0)) → Tot (fun m => f m (x0, x1, x2, x3, b, i', s')) P) : Tot (fun m => (spec_l17Item.f b i s).bind (f m)) P := by
  obtain ⟨x0, x1, x2, x3, i', s', e, h', h0⟩ := l17Item_of b i s h
  exact Tot.bindc1 e (k x0 x1 x2 x3 i' s' h' h0)
end
theorem l17Frame_of (b : List Int) (i s : Int) (h : Rd b i) : ∃ (x0 x1 x2 x3 x4 x5 x6 i' s' : Int), spec_l17Frame.f b i s = some (x0, x1, x2, x3, x4, x5, x6, b, i', s') ∧ Rd b i' ∧ (0 ≤ x1 ∧ x1 ≤ 2) ∧ (1 ≤ x2 ∧ x2 ≤ 6) ∧ ((x0 = 2 ∧ x3 = 0 ∧ x4 = 0 ∧ x5 = 0 ∧ x6 = 0) ∨ (x0 = 1 ∧ ((x3 = 2 ∧ x4 = 0 ∧ x5 = 0 ∧ 1 ≤ x6 ∧ x6 ≤ 5) ∨ (x3 = 1 ∧ (0 ≤ x4 ∧ x4 ≤ 8) ∧ (0 ≤ x5 ∧ x5 ≤ 4294967295) ∧ x6 = 0)))) := by
  obtain ⟨v, i1, s1, e1, h1⟩ := l01Once_of b i s 4 h (by omega)
  obtain ⟨w, i2, s2, e2, h2, b2, b3⟩ := l01Below_of b i1 s1 3 h1 (by omega)
  obtain ⟨u, i3, s3, e3, h3, b4, b5⟩ := l01Below_of b i2 s2 6 h2 (by omega)
  unfold spec_l17Frame.f
  rw [e1]
  simp only [Option.bind_some]
  have hw : wrap64 (1 + u) = 1 + u := w64 (by omega) (by omega)
  cases v with
  | true =>
    rw [if_pos rfl, e2]
    simp only [Option.bind_some]
    rw [e3]
    exact ⟨_, _, _, _, _, _, _, _, _, rfl, h3, by omega, by rw [hw]; omega, .inl ⟨rfl, rfl, rfl, rfl, rfl⟩⟩
  | false =>
    obtain ⟨y0, y1, y2, y3, i4, s4, e4, h4, hy⟩ := l17Item_of b i3 s3 h3
    rw [if_neg (by simp), e2]
    simp only [Option.bind_some]
    rw [e3]
    simp only [Option.bind_some]
    rw [e4]
    exact ⟨_, _, _, _, _, _, _, _, _, rfl, h4, by omega, by rw [hw]; omega, .inr ⟨rfl, hy⟩⟩
theorem l17Any_tot (b : List Int) (i s : Int) (h : Rd b i) : Tot (fun k => spec_l17Any.f k b i s) (fun r => ∃ (x0 x1 x2 x3 x4 x5 x6 i' s' : Int), r = (x0, x1, x2, x3, x4, x5, x6, b, i', s') ∧ Rd b i') := by
  unfold spec_l17Any.f
  refine Tot.below h (by omega) (fun v i1 s1 h1 _ _ => ?_)
  refine Tot.below h1 (by omega) (fun w i2 s2 h2 w0 w1 => ?_)
  obtain ⟨x0, x1, x2, x3, x4, x5, x6, i3, s3, e3, h3, _⟩ := l17Frame_of b i2 s2 h2
  refine Tot.bindc1 e3 ?_
  have hj : ∀ p q r t : Int, Tot (fun k => spec_l17Any.j0 k (x0, x1, x2, x3, x4, x5, x6, b, i3, s3) p q r t) (fun r => ∃ (x0 x1 x2 x3 x4 x5 x6 i' s' : Int), r = (x0, x1, x2, x3, x4, x5, x6, b, i', s') ∧ Rd b i') := fun p q r t =>
    Tot.step (fun _ => rfl) (Tot.now ⟨_, _, _, _, _, _, _, _, _, rfl, h3⟩)
  have t4 := tmod_of w0 (show (0 : Int) < 4 by omega)
  exact Tot.both (fun _ => hj _ _ _ _) (fun _ => Tot.both (fun _ => hj _ _ _ _) (fun _ => Tot.both (fun _ => Tot.grd t4.1 (Tot.grd t4.2 (hj _ _ _ _))) (fun _ => Tot.both (fun _ => hj _ _ _ _) (fun _ => hj _ _ _ _))))
theorem places_tot (b : List Int) (hb : b.length ≤ 1048576) : Tot (fun k => spec_DrawPlaces.f k b) (fun r => r.length = 12 ∧ ∀ v ∈ r, 0 ≤ v ∧ v < 10000) := by
  have hr : Rd b 0 := ⟨by omega, by omega, by omega⟩
  obtain ⟨s0, n0⟩ := l01New_ev b hb
  unfold spec_DrawPlaces.f
  refine Tot.bind1 n0 ?_
  obtain ⟨v, i1, s1, e1, h1, _⟩ := l01Byte_of b 0 s0 hr
  refine Tot.bindc1 e1 ?_
  refine Tot.up (fun k (t : Int × Int × List Int) j => spec_DrawPlaces.l0 k b t.1 t.2.1 t.2.2 j) 12 (fun j t => Rd b t.1 ∧ t.2.2.length = j ∧ ∀ v ∈ t.2.2, 0 ≤ v ∧ v < 10000) ?_ (i1, s1, []) ⟨h1, rfl, fun v hv => by simp at hv⟩
  rintro j ⟨i, s, q⟩ hj ⟨hr, hl, hv⟩ next
  replace hr : Rd b i := hr
  replace hl : q.length = j := hl
  replace hv : ∀ v ∈ q, 0 ≤ v ∧ v < 10000 := hv
  refine Tot.step (fun _ => rfl) ?_
  simp only [spec_DrawPlaces.l0]
  rw [w64 (x := (j : Int) + 1) (by omega) (by omega)]
  refine Tot.both (fun hlt => ?_) (fun hge => Tot.now ⟨by omega, hv⟩)
  refine Tot.below hr (by omega) (fun v2 i2 s2 h2 v20 v21 => Tot.grd (by simp; omega) ?_)
  refine next (i2, s2, q ++ [v2]) (by omega) ⟨h2, by simp; omega, fun v hv' => ?_⟩
  rcases List.mem_append.1 hv' with h | h
  · exact hv v h
  · rw [List.mem_singleton] at h; omega
theorem l01Text_one (b : List Int) (i s : Int) (h : Rd b i) : ∃ (v : ByteArray) (i' s' : Int), Ev (fun k => spec_l01Text.f k b i s 1) (v, b, i', s') ∧ Rd b i' ∧ v.size = 1 := by
  obtain ⟨w, i1, s1, e1, h1, _⟩ := l01Byte_of b i s h
  refine ⟨strOfNums ([] ++ [IntKind.u8.wrap w]), i1, s1, ?_, h1, by rw [strOfNums_size]; rfl⟩
  unfold spec_l01Text.f
  refine Ev.neg (by omega) (Ev.step (fun _ => rfl) ?_)
  simp only [spec_l01Text.j0]
  refine Ev.step (fun _ => rfl) ?_
  simp only [spec_l01Text.l0]
  refine Ev.pos (by omega) (Ev.bindc e1 (Ev.pos (by simp) ?_))
  rw [w64 (by omega) (by omega)]
  refine Ev.step (fun _ => rfl) ?_
  simp only [spec_l01Text.l0]
  exact Ev.neg (by omega) (Ev.now _)
theorem l02Spoilt_tot (b : List Int) (i s : Int) (a : ByteArray) (h : Rd b i) (ha : a.size ≤ 1000000) : Tot (fun k => spec_l02Spoilt.f k b i s a) (fun r => ∃ (v : ByteArray) (i' s' : Int), r = (v, b, i', s') ∧ Rd b i' ∧ v.size ≤ a.size + 1) := by
  unfold spec_l02Spoilt.f
  refine Tot.below h (by omega) (fun v i1 s1 h1 _ _ => ?_)
  have hj : ∀ c : Bool, Tot (fun k => spec_l02Spoilt.j0 k a (v, b, i1, s1) c) (fun r => ∃ (v : ByteArray) (i' s' : Int), r = (v, b, i', s') ∧ Rd b i' ∧ v.size ≤ a.size + 1) := by
    intro c
    refine Tot.step (fun _ => rfl) ?_
    simp only [spec_l02Spoilt.j0]
    refine Tot.both (fun _ => Tot.both (fun hz => ?_) (fun _ => Tot.now ⟨_, _, _, rfl, h1, by omega⟩)) (fun _ => Tot.now ⟨_, _, _, rfl, h1, by omega⟩)
    refine Tot.below h1 hz (fun w i2 s2 h2 w0 w1 => ?_)
    obtain ⟨x, i3, s3, e3, h3, hx⟩ := l01Text_one b i2 s2 h2
    refine Tot.grd w0 (Tot.grd (by dsimp only; omega) (Tot.bind1 e3 ?_))
    dsimp only
    rw [w64 (x := w + 1) (by omega) (by omega)]
    refine Tot.grd ?_ (Tot.grd (by omega) (Tot.grd (by omega) (Tot.grd ?_ (Tot.now ⟨_, _, _, rfl, h3, ?_⟩))))
    all_goals (simp only [ByteArray.size_append, ByteArray.size_extract]; omega)
  refine Tot.both (fun _ => ?_) (fun _ => Tot.both (fun _ => ?_) (fun _ => Tot.both (fun _ => hj _) (fun _ => hj _)))
  · obtain ⟨x, i3, s3, e3, h3, hx⟩ := l01Text_one b i1 s1 h1
    exact Tot.bind1 e3 (Tot.grd (by dsimp only; omega) (Tot.now ⟨_, _, _, rfl, h3, by rw [ByteArray.size_append]; dsimp only; omega⟩))
  · rw [w64 (x := (a.size : Int) + 1) (by omega) (by omega)]
    exact Tot.below h1 (by omega) (fun w i2 s2 h2 w0 w1 => Tot.grd w0 (Tot.grd (by dsimp only; omega) (Tot.now ⟨_, _, _, rfl, h2, by rw [ByteArray.size_extract]; omega⟩)))
theorem drawFrame_ev (b : List Int) (hb : b.length ≤ 1048576) : ∃ (x0 x1 x2 x3 x4 x5 x6 : Int), Ev (fun k => spec_DrawFrame.f k b) (x0, x1, x2, x3, x4, x5, x6) ∧ spec_FrameOk.f x0 x1 x2 x3 x4 x5 x6 = some true := by
  obtain ⟨s0, n0⟩ := l01New_ev b hb
  obtain ⟨x0, x1, x2, x3, x4, x5, x6, i, s, e, _, h1, h2, h3⟩ := l17Frame_of b 0 s0 ⟨by omega, by omega, by omega⟩
  refine ⟨x0, x1, x2, x3, x4, x5, x6, ?_, ?_⟩
  · unfold spec_DrawFrame.f
    exact Ev.bind n0 (Ev.bindc e (Ev.now _))
  · unfold spec_FrameOk.f spec_ItemOk.f spec_HalfOk.f
    simp only [spec_l01In_of, Option.bind_some]
    rw [if_pos (by simpa using h1), if_pos (by simp; omega)]
    rcases h3 with ⟨rfl, rfl, rfl, rfl, rfl⟩ | ⟨rfl, ⟨rfl, rfl, rfl, h4⟩ | ⟨rfl, h4, h5, rfl⟩⟩
    · rfl
    · rw [if_pos rfl, if_neg (by omega), if_pos rfl, if_pos (by simp; omega), if_pos rfl]; rfl
    · rw [if_pos rfl, if_pos rfl, if_pos (by simp; omega), if_pos (by simpa using h5)]; rfl
theorem drawRead_ev (b : List Int) (hb : b.length ≤ 1048576) : ∃ u : ByteArray, Ev (fun k => spec_DrawReadFrame.f k b) u ∧ u.size ≤ 100 := by
  show Tot (fun k => spec_DrawReadFrame.f k b) (fun u => u.size ≤ 100)
  obtain ⟨s0, n0⟩ := l01New_ev b hb
  unfold spec_DrawReadFrame.f
  refine Tot.bind1 n0 (Tot.below (b := b) (i := 0) ⟨by omega, by omega, by omega⟩ (by omega) (fun v i1 s1 h1 _ _ => ?_))
  refine Tot.bind (l17Any_tot b i1 s1 h1) (fun r hr => ?_)
  obtain ⟨x0, x1, x2, x3, x4, x5, x6, i2, s2, rfl, h2⟩ := hr
  obtain ⟨fo, ef, _⟩ := frameOk_of x0 x1 x2 x3 x4 x5 x6
  have et := (frameText_ev ef).1
  have hz : (if fo = true then selV (frB x0 x1 x2 x3 x4 x5 x6) else (ByteArray.empty, false)).1.size ≤ 30 := by
    have h1 := selV_size (frB x0 x1 x2 x3 x4 x5 x6)
    have h2 := frB_size x0 x1 x2 x3 x4 x5 x6
    have h3 := varT_size x2; have h4 := varT_size x6
    split
    · omega
    · exact Nat.zero_le _
  generalize (if fo = true then selV (frB x0 x1 x2 x3 x4 x5 x6) else (ByteArray.empty, false)) = w at et hz
  refine Tot.bind1 et (Tot.both (fun _ => ?_) (fun _ => Tot.both (fun _ => ?_) (fun _ => Tot.now (by omega))))
  · have hu := spec_Unsealed_ev w.1 (by omega)
    have hu' : ∀ (_ : (unsV w.1).2 = true), (unsV w.1).1.size ≤ 30 := fun h => by
      cases hq : unsV w.1 with
      | mk a c => rw [hq] at h; cases h; have := unsV_ok hq; dsimp only; omega
    refine Tot.bind1 hu (Tot.both (fun h => ?_) (fun _ => Tot.now (by omega)))
    have hu2 := hu' h
    refine Tot.bind (l02Spoilt_tot b i2 s2 _ h2 (by omega)) (fun r hr => ?_)
    obtain ⟨x, i3, s3, rfl, h3, hx⟩ := hr
    refine Tot.bind1 (sealed_ev x (by omega)).1 (Tot.now ?_)
    have := selV_size x
    omega
  · refine Tot.bind (l02Spoilt_tot b i2 s2 _ h2 (by omega)) (fun r hr => ?_)
    obtain ⟨x, i3, s3, rfl, h3, hx⟩ := hr
    exact Tot.now (by dsimp only; omega)
theorem drawText_ev (b : List Int) (hb : b.length ≤ 1048576) : ∃ (x0 x1 x2 x3 x4 x5 x6 : Int), Ev (fun k => spec_DrawFrameText.f k b) (x0, x1, x2, x3, x4, x5, x6) := by
  obtain ⟨s0, n0⟩ := l01New_ev b hb
  obtain ⟨r, e, x0, x1, x2, x3, x4, x5, x6, i, s, rfl, _⟩ := l17Any_tot b 0 s0 ⟨by omega, by omega, by omega⟩
  refine ⟨x0, x1, x2, x3, x4, x5, x6, ?_⟩
  unfold spec_DrawFrameText.f
  exact Ev.bind n0 (Ev.bind e (Ev.now _))
theorem xor8_in (a b : Int) : 0 ≤ Go.bits .xor .u8 a b ∧ Go.bits .xor .u8 a b < 256 := by
  simp only [Go.bits]; rw [IntKind.wrap_u8]; omega
theorem xor8_ne {a b : Int} (ha : 0 ≤ a ∧ a < 256) (hb : 0 < b ∧ b < 256) : Go.bits .xor .u8 a b ≠ a := by
  intro h
  have e : Go.bits .xor .u8 a b = ((BitVec.ofInt 8 a ^^^ BitVec.ofInt 8 b).toNat : Int) := by
    show IntKind.u8.wrap (((BitVec.ofInt 8 a ^^^ BitVec.ofInt 8 b).toNat : Nat) : Int) = _
    have h := (BitVec.ofInt 8 a ^^^ BitVec.ofInt 8 b).isLt
    rw [IntKind.wrap_u8]
    omega
  have h0 : (BitVec.ofInt 8 a).toNat = a.toNat := by rw [BitVec.toNat_ofInt]; omega
  have h1 : BitVec.ofInt 8 a ^^^ BitVec.ofInt 8 b = BitVec.ofInt 8 a := BitVec.eq_of_toNat_eq (by omega)
  have h2 := congrArg (BitVec.ofInt 8 a ^^^ ·) h1
  simp [← BitVec.xor_assoc] at h2
  have h3 := congrArg BitVec.toNat h2
  rw [BitVec.toNat_ofInt] at h3
  simp at h3
  omega
theorem turned_ev (a : ByteArray) (p : List Int) (ha : 0 < a.size ∧ a.size ≤ 100) (hp : p.length = 12) (hv : ∀ v ∈ p, 0 ≤ v ∧ v < 10000) : ∃ (t : ByteArray) (i : Nat) (v : Int), laws_turned.f a p = some t ∧ i < a.size ∧ (0 ≤ v ∧ v < 256) ∧ v ≠ (bytesOf a).getD i 0 ∧ bytesOf t = (bytesOf a).set i v := by
  have m : ∀ j : Nat, j < 12 → 0 ≤ rd p (j : Int) ∧ rd p (j : Int) < 10000 := fun j hj => by
    have : rd p (j : Int) = p.getD j 0 := by unfold rd; rw [Int.toNat_natCast]
    rw [this, List.getD_eq_getElem?_getD, List.getElem?_eq_getElem (by omega)]
    exact hv _ (List.getElem_mem _)
  have m0 := m 0 (by omega); have m1 := m 1 (by omega)
  have hl := bytesOf_length a
  have t0 := tmod_of m0.1 (show (0 : Int) < (a.size : Int) by omega)
  have t1 := tmod_of m1.1 (show (0 : Int) < 255 by omega)
  have hb := bt_range a ((rd p 0).tmod (a.size : Int))
  have hi : ((rd p 0).tmod (a.size : Int)).toNat < a.size := by
    have : ((0 : Nat) : Int) = 0 := rfl
    rw [this] at t0; omega
  refine ⟨_, ((rd p 0).tmod (a.size : Int)).toNat, Go.bits .xor .u8 (rd (bytesOf a) ((rd p 0).tmod (a.size : Int))) (IntKind.u8.wrap (wrap64 (1 + (rd p 1).tmod 255))), ?_, hi, xor8_in _ _, ?_, bytesOf_str _ ?_⟩
  · unfold laws_turned.f
    rw [hl, if_pos (by omega), if_neg (by omega), if_pos (by omega), if_pos (by omega), if_pos (by exact t0.1), if_pos (by exact t0.2), if_pos (by omega)]
  · have e : rd (bytesOf a) ((rd p 0).tmod (a.size : Int)) = (bytesOf a).getD ((rd p 0).tmod (a.size : Int)).toNat 0 := rfl
    rw [e]
    have hr : 0 ≤ (bytesOf a).getD ((rd p 0).tmod (a.size : Int)).toNat 0 ∧ (bytesOf a).getD ((rd p 0).tmod (a.size : Int)).toNat 0 < 256 := by
      have := (bt_of hi).2
      rw [bytes_bt hi] at this
      exact this
    refine xor8_ne hr ?_
    have t1' : 0 ≤ (rd p 1).tmod 255 ∧ (rd p 1).tmod 255 < 255 := t1
    rw [w64 (by omega) (by omega), IntKind.wrap_u8]
    omega
  · intro x hx
    rcases List.mem_or_eq_of_mem_set hx with h | h
    · unfold bytesOf at h
      obtain ⟨y, _, rfl⟩ := List.mem_map.1 h
      have := UInt8.toNat_lt y
      omega
    · rw [h]; exact xor8_in _ _
theorem pure : Pure := by
  intro l hl
  refine Ev.rounds ?_
  unfold laws_FnFrames.f
  refine Ev.bindc rfl ?_
  by_cases hbig : (l.length : Int) > 1048576
  · exact Ev.pos (by simpa using hbig) (Ev.now _)
  refine Ev.neg (by simpa using hbig) ?_
  obtain ⟨x0, x1, x2, x3, x4, x5, x6, d1, hf⟩ := drawFrame_ev l (by omega)
  have hf' := (frameOk_eq x0 x1 x2 x3 x4 x5 x6).trans hf
  have e6 := (frameText_ev hf).2
  rw [if_pos rfl] at e6
  have e8 := readFrame_of hf
  have hs := selV_frB x0 x1 x2 x3 x4 x5 x6
  have hz := frB_size x0 x1 x2 x3 x4 x5 x6
  have z2 := varT_size x2; have z6 := varT_size x6
  have hu := unsV_sel (t := frB x0 x1 x2 x3 x4 x5 x6) (by omega)
  have hzs : (frB x0 x1 x2 x3 x4 x5 x6 ++ fourS (sumS (frB x0 x1 x2 x3 x4 x5 x6))).size ≤ 25 ∧ 0 < (frB x0 x1 x2 x3 x4 x5 x6 ++ fourS (sumS (frB x0 x1 x2 x3 x4 x5 x6))).size := by rw [ByteArray.size_append, fourS_size]; omega
  rw [hs] at e6 e8
  dsimp only at e8
  generalize frB x0 x1 x2 x3 x4 x5 x6 ++ fourS (sumS (frB x0 x1 x2 x3 x4 x5 x6)) = a at e6 e8 hu hzs
  obtain ⟨p, ep, hp, hv⟩ := places_tot l (by omega)
  obtain ⟨t, i, v, et, hi, hv, hne, htb⟩ := turned_ev a p (by omega) hp hv
  have htz : t.size = a.size := by rw [← bytesOf_length t, htb, List.length_set, bytesOf_length]
  have e14 := readFrame_no (a := t) (by omega) (turned_bad hi hv hne htb (by rw [hu]))
  obtain ⟨u, eu, huz⟩ := drawRead_ev l (by omega)
  obtain ⟨r, r1, r2, r3⟩ := readFrame_ev u (by omega)
  obtain ⟨y0, y1, y2, y3, y4, y5, y6, rb⟩ := r
  obtain ⟨g, eg, _⟩ := frameOk_of y0 y1 y2 y3 y4 y5 y6
  have e22 := (frameText_ev eg).2
  obtain ⟨z0, z1, z2, z3, z4, z5, z6, d3⟩ := drawText_ev l (by omega)
  obtain ⟨o, eo, _⟩ := frameOk_of z0 z1 z2 z3 z4 z5 z6
  have eo' := (frameOk_eq z0 z1 z2 z3 z4 z5 z6).trans eo
  have e26 := frameText_ev eo
  have ho : (if o = true then selV (frB z0 z1 z2 z3 z4 z5 z6) else (ByteArray.empty, false)).2 = o := by
    cases o with
    | false => rfl
    | true => rw [if_pos rfl, selV_frB]
  generalize (if o = true then selV (frB z0 z1 z2 z3 z4 z5 z6) else (ByteArray.empty, false)) = w at e26 ho
  refine Ev.bind d1 (Ev.bind e6 (Ev.bind e8 (Ev.bind ep (Ev.bindc et (Ev.bind e14 (Ev.bind eu (Ev.bind r2 (Ev.bind r1 (Ev.bind e22 (Ev.bind d3 (Ev.bind e26.2 (Ev.bind e26.1 ?_))))))))))))
  refine Ev.pos rfl (Ev.pos rfl (Ev.pos (by simp) (Ev.neg (by simp [rf0]) (Ev.pos rfl ?_))))
  by_cases hb : rb = true
  · obtain ⟨q1, q2⟩ := r3 hb
    dsimp only at q1 q2
    rw [eg] at q1
    injection q1 with q1
    subst q1
    rw [if_pos rfl, q2]
    refine Ev.pos hb (Ev.pos (same_beq.2 rfl) (Ev.pos rfl (Ev.pos (same_beq.2 rfl) (Ev.bindc hf' (Ev.pos rfl (Ev.bindc eo' ?_))))))
    exact Ev.some_ (by rw [ho]; simp)
  · refine Ev.neg hb (Ev.pos rfl (Ev.pos (same_beq.2 rfl) (Ev.bindc hf' (Ev.pos rfl (Ev.bindc eo' ?_)))))
    exact Ev.some_ (by rw [ho]; simp)
end Go.Proofs.Ytcdmhlmfpnkhiaa.PFnFrames
namespace Go.Proofs.Ytcdmhlmfpnkhiaa
/-- The given statement. -/
theorem fnFrames_holds : Rows.FnFramesSaid := AFnFrames.row PFnFrames.pure
#print axioms fnFrames_holds
end Go.Proofs.Ytcdmhlmfpnkhiaa
