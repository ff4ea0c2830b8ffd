/- laws.FnLess returns true at every input. No condition. -/
import Derived.Test.YtlkcnldfnhclbaaExFnLess
import Derived.Test.YtlkcnldfnhclbaaArgFnLess
set_option linter.unusedVariables false
set_option linter.unusedSimpArgs false
namespace Go.Proofs.Ytlkcnldfnhclbaa.PFnLess
open Go.RowKit Go.Proofs.YtlkcnldfnhclbaaA Go.Proofs.YtlkcnldfnhclbaaL Go.Proofs.Ytlkcnldfnhclbaa.AFnLess
theorem i64_of {x : Int} (h : OkN .i64 x) : -9223372036854775808 ≤ x ∧ x ≤ 9223372036854775807 := bounds_i64 h
theorem rd59 {l : List S59} {i : Nat} {x : S59} (h : l[i]? = some x) : rd_T59 l (i : Int) = x := by
  unfold rd_T59; simpa using get_of l z59 h
theorem rd71 {l : List S71} {i : Nat} {x : S71} (h : l[i]? = some x) : rd_T71 l (i : Int) = x := by
  unfold rd_T71; simpa using get_of l z71 h
theorem rd69 {l : List S69} {i : Nat} {x : S69} (h : l[i]? = some x) : rd_T69 l (i : Int) = x := by
  unfold rd_T69; simpa using get_of l z69 h
theorem allI_const {α : Type} (p : α → Bool) : ∀ (xs : List α) (i : Nat), allI (fun _ x => p x) i xs = xs.all p
  | [], _ => rfl
  | x :: r, i => by simp only [allI, List.all_cons, allI_const p r (i + 1)]
theorem allz_ev {α : Type} (L : Nat → Int → Option Bool) (xs : List α) (p : α → Bool) (z : Bool)
    (stop : Ev (fun k => L k (xs.length : Int)) z)
    (bad : ∀ (i : Nat) x, xs[i]? = some x → p x = false → Ev (fun k => L k (i : Int)) false)
    (step : ∀ (i : Nat) x r, xs[i]? = some x → p x = true → Ev (fun k => L k ((i : Int) + 1)) r → Ev (fun k => L k (i : Int)) r) :
    Ev (fun k => L k 0) (xs.all p && z) := by
  rw [← allI_const p xs 0]; exact allI_ev L xs (fun _ x => p x) z stop bad step
/-- The first that holds. -/
def findV {α ρ : Type} (p : α → Bool) (res : Nat → ρ) (z : ρ) : Nat → List α → ρ
  | _, [] => z
  | i, x :: r => if p x then res i else findV p res z (i + 1) r
theorem find_ev {α ρ : Type} (L : Nat → Int → Option ρ) (xs : List α) (p : α → Bool) (res : Nat → ρ) (z : ρ)
    (stop : Ev (fun k => L k (xs.length : Int)) z)
    (hit : ∀ (i : Nat) x, xs[i]? = some x → p x = true → Ev (fun k => L k (i : Int)) (res i))
    (step : ∀ (i : Nat) x r, xs[i]? = some x → p x = false → Ev (fun k => L k ((i : Int) + 1)) r → Ev (fun k => L k (i : Int)) r) :
    Ev (fun k => L k 0) (findV p res z 0 xs) := by
  have key : ∀ (d i : Nat), xs.length - i = d → i ≤ xs.length → Ev (fun k => L k (i : Int)) (findV p res z i (xs.drop i)) := by
    intro d
    induction d with
    | zero =>
      intro i hd hi
      have : i = xs.length := by omega
      subst this
      rw [List.drop_length]
      exact stop
    | succ d ih =>
      intro i hd hi
      have hlt : i < xs.length := by omega
      have hx : xs[i]? = some xs[i] := List.getElem?_eq_getElem hlt
      rw [List.drop_eq_getElem_cons hlt]
      simp only [findV]
      cases hp : p xs[i] with
      | true => exact hit i _ hx hp
      | false => exact step i _ _ hx hp (by have := ih (i + 1) (by omega) (by omega); simpa using this)
  exact key _ 0 rfl (Nat.zero_le _)
theorem findV_spec {α ρ : Type} (p : α → Bool) (res : Nat → ρ) (z : ρ) : ∀ (xs : List α) (i : Nat), (xs.any p = true ∧ ∃ j x, xs[j]? = some x ∧ p x = true ∧ (∀ y ∈ xs.take j, p y = false) ∧ findV p res z i xs = res (i + j)) ∨ ((∀ y ∈ xs, p y = false) ∧ findV p res z i xs = z)
  | [], i => .inr ⟨fun y hy => by simp at hy, rfl⟩
  | x :: r, i => by
    simp only [findV]
    cases hp : p x with
    | true => exact .inl ⟨by simp [hp], 0, x, rfl, hp, fun y hy => by simp at hy, rfl⟩
    | false =>
      rcases findV_spec p res z r (i + 1) with ⟨h1, j, y, h2, h3, h4, h5⟩ | ⟨h1, h2⟩
      · refine .inl ⟨by simp only [List.any_cons, h1, Bool.or_true], j + 1, y, by simpa using h2, h3, fun u hu => ?_, by rw [show i + (j + 1) = i + 1 + j by omega]; exact h5⟩
        rw [List.take_succ_cons] at hu
        rcases List.mem_cons.1 hu with rfl | hu
        · exact hp
        · exact h4 u hu
      · refine .inr ⟨fun u hu => ?_, h2⟩
        rcases List.mem_cons.1 hu with rfl | hu
        · exact hp
        · exact h1 u hu
theorem any_none {α : Type} {p : α → Bool} {xs : List α} (h : ∀ y ∈ xs, p y = false) : xs.any p = false := by
  rw [List.any_eq_false]
  intro y hy; rw [h y hy]; simp
theorem find_any {α : Type} (p : α → Bool) (xs : List α) (i : Nat) : decide (findV p (fun j => (j : Int)) (-1) i xs ≥ 0) = xs.any p := by
  rcases findV_spec p (fun j => (j : Int)) (-1) xs i with ⟨h1, j, x, _, _, _, h5⟩ | ⟨h1, h2⟩
  · rw [h1, h5]; simp; omega
  · rw [h2, any_none h1]; rfl
theorem rdI_of {l : List Int} {i : Nat} {x : Int} (h : l[i]? = some x) : rd l (i : Int) = x := by unfold rd; exact get_of l 0 h
theorem take_snoc {α : Type} {l : List α} {i : Nat} {x : α} (h : l[i]? = some x) : l.take i ++ [x] = l.take (i + 1) := by rw [List.take_add_one, h]; rfl
theorem and_if (a x : Bool) : (if a = true then some x else some false) = some (a && x) := by cases a <;> rfl
theorem spec_l01In_of (x lo hi : Int) : spec_l01In.f x lo hi = some (decide (lo ≤ x ∧ x ≤ hi)) := by
  unfold spec_l01In.f
  rw [ite_some]; congr 1; rw [Bool.eq_iff_iff]
  by_cases h : x ≥ lo <;> simp [h] <;> omega
/-- Ends with enough rounds, and what comes out is so. -/
def Tot {α : Type} (g : Nat → Option α) (P : α → Prop) : Prop := ∃ r, Ev g r ∧ P r
section
variable {α β : Type} {P Q : α → Prop} {R : β → Prop}
theorem Tot.now {r : α} (h : P r) : Tot (fun _ => some r) P := ⟨r, Ev.now r, h⟩
theorem Tot.bind {g : Nat → Option α} {f : Nat → α → Option β} (h : Tot g P) (k : ∀ a, P a → Tot (fun n => f n a) R) : Tot (fun n => (g n).bind (f n)) R := by
  obtain ⟨a, ha, hp⟩ := h
  obtain ⟨r, hr, h⟩ := k a hp
  exact ⟨r, Ev.bind ha hr, h⟩
theorem Tot.bindc {a : Option α} {f : Nat → α → Option β} (h : ∃ x, a = some x ∧ P x) (k : ∀ x, P x → Tot (fun n => f n x) R) : Tot (fun n => a.bind (f n)) R := by
  obtain ⟨a, ha, hp⟩ := h
  obtain ⟨r, hr, h⟩ := k a hp
  exact ⟨r, Ev.bindc ha hr, h⟩
theorem Tot.bind1 {g : Nat → Option α} {f : Nat → α → Option β} {a : α} (h : Ev g a) (k : Tot (fun n => f n a) R) : Tot (fun n => (g n).bind (f n)) R := by
  obtain ⟨r, hr, k⟩ := k
  exact ⟨r, Ev.bind h hr, k⟩
theorem Tot.bindc1 {a : Option α} {f : Nat → α → Option β} {x : α} (h : a = some x) (k : Tot (fun n => f n x) R) : Tot (fun n => a.bind (f n)) R := by
  obtain ⟨r, hr, k⟩ := k
  exact ⟨r, Ev.bindc h hr, k⟩
theorem Tot.pos {c : Prop} [Decidable c] {f g : Nat → Option α} (h : c) (k : Tot f P) : Tot (fun n => if c then f n else g n) P := by
  obtain ⟨r, hr, k⟩ := k
  exact ⟨r, Ev.pos h hr, k⟩
theorem Tot.neg {c : Prop} [Decidable c] {f g : Nat → Option α} (h : ¬ c) (k : Tot g P) : Tot (fun n => if c then f n else g n) P := by
  obtain ⟨r, hr, k⟩ := k
  exact ⟨r, Ev.neg h hr, k⟩
theorem Tot.grd {c : Prop} [Decidable c] {f : Nat → Option α} (h : c) (k : Tot f P) : Tot (fun n => if c then f n else none) P := Tot.pos h k
theorem Tot.both {c : Prop} [Decidable c] {f g : Nat → Option α} (h : c → Tot f P) (k : ¬ c → Tot g P) : Tot (fun n => if c then f n else g n) P := by
  by_cases hc : c
  · exact Tot.pos hc (h hc)
  · exact Tot.neg hc (k hc)
theorem Tot.step {g f : Nat → Option α} (h : ∀ k, g (k + 1) = f k) (k : Tot f P) : Tot g P := by
  obtain ⟨r, hr, k⟩ := k
  exact ⟨r, Ev.step h hr, k⟩
theorem Tot.mono {g : Nat → Option α} (h : Tot g P) (k : ∀ r, P r → Q r) : Tot g Q := by
  obtain ⟨r, hr, h⟩ := h
  exact ⟨r, hr, k r h⟩
theorem Tot.one {g : Nat → Option α} {r : α} (h : Ev g r) (k : P r) : Tot g P := ⟨r, h, k⟩
/-- A loop of at most m rounds that keeps Inv. -/
theorem Tot.up {σ : Type} (L : Nat → σ → Int → Option α) (m : Nat) (Inv : Nat → σ → Prop)
    (step : ∀ (j : Nat) s, j ≤ m → Inv j s → (∀ s', j < m → Inv (j + 1) s' → Tot (fun k => L k s' ((j : Int) + 1)) P) → Tot (fun k => L k s (j : Int)) P) :
    ∀ s, Inv 0 s → Tot (fun k => L k s 0) P := by
  have key : ∀ (d j : Nat) s, m - j = d → j ≤ m → Inv j s → Tot (fun k => L k s (j : Int)) P := by
    intro d
    induction d with
    | zero => intro j s hd hj hi; exact step j s hj hi (fun s' h _ => by omega)
    | succ d ih => intro j s hd hj hi; exact step j s hj hi (fun s' h hi' => by have := ih (j + 1) s' (by omega) (by omega) hi'; simpa using this)
  intro s hs
  exact key _ 0 s rfl (Nat.zero_le _) hs
end
theorem and255 (x : Int) : 0 ≤ bits .and .i64 x 255 ∧ bits .and .i64 x 255 ≤ 255 := by
  have h : bits .and .i64 x 255 = (((BitVec.ofInt 64 x).toNat &&& 255 : Nat) : Int) := by
    show IntKind.i64.wrap (((BitVec.ofInt 64 x) &&& (BitVec.ofInt 64 255)).toNat : Int) = _
    rw [BitVec.toNat_and]
    have : (BitVec.ofInt 64 255).toNat = 255 := by decide
    rw [this, IntKind.wrap_i64]
    have h2 : (BitVec.ofInt 64 x).toNat &&& 255 ≤ 255 := Nat.and_le_right
    omega
  rw [h]
  have h2 : (BitVec.ofInt 64 x).toNat &&& 255 ≤ 255 := Nat.and_le_right
  omega
/-- A reader's place. -/
def Rd (b : List Int) (i : Int) : Prop := b.length ≤ 1048576 ∧ 0 ≤ i ∧ i ≤ (b.length : Int)
theorem l01New_ev (b : List Int) (hb : b.length ≤ 1048576) : ∃ s, Ev (fun k => spec_l01New.f k b) (b, 0, s) := by
  have key : ∀ (d i : Nat) (s : Int), b.length - i = d → i ≤ b.length → ∃ s', Ev (fun k => spec_l01New.l0 k b s (i : Int)) (b, 0, s') := by
    intro d
    induction d with
    | zero =>
      intro i s hd hi
      refine ⟨s, Ev.step (fun _ => rfl) ?_⟩
      simp only [spec_l01New.l0]; exact Ev.neg (by omega) (Ev.now _)
    | succ d ih =>
      intro i s hd hi
      by_cases h : (i : Int) < 4000
      · obtain ⟨s', h'⟩ := ih (i + 1) (bits .and .i64 (wrap64 ((wrap64 ((wrap64 (s * 131)) + (wrap64 (rd b i)))) + 7)) 1073741823) (by omega) (by omega)
        refine ⟨s', Ev.step (fun _ => rfl) ?_⟩
        simp only [spec_l01New.l0]; rw [w64 (x := (i : Int) + 1) (by omega) (by omega)]
        exact Ev.pos (by omega) (Ev.pos h (Ev.pos (by omega) h'))
      · refine ⟨s, Ev.step (fun _ => rfl) ?_⟩
        simp only [spec_l01New.l0]; exact Ev.pos (by omega) (Ev.neg h (Ev.now _))
  exact key b.length 0 _ rfl (Nat.zero_le _)
theorem l01Byte_of (b : List Int) (i s : Int) (h : Rd b i) : ∃ v i' s', spec_l01Byte.f b i s = some (v, b, i', s') ∧ Rd b i' ∧ 0 ≤ v ∧ v ≤ 255 := by
  unfold spec_l01Byte.f
  by_cases hi : i < (b.length : Int)
  · rw [if_pos hi, if_pos h.2.1]
    exact ⟨_, _, _, rfl, ⟨h.1, by rw [w64 (by have := h.1; have := h.2.1; omega) (by have := h.1; omega)]; have := h.2.1; omega, by rw [w64 (by have := h.1; have := h.2.1; omega) (by have := h.1; omega)]; omega⟩, and255 _⟩
  · rw [if_neg hi]
    exact ⟨_, _, _, rfl, h, and255 _⟩
theorem tmod_of {v n : Int} (h : 0 ≤ v) (hn : 0 < n) : 0 ≤ v.tmod n ∧ v.tmod n < n := ⟨Int.tmod_nonneg _ h, Int.tmod_lt_of_pos _ hn⟩
theorem l01Below_of (b : List Int) (i s n : Int) (h : Rd b i) (hn : 0 < n) : ∃ v i' s', spec_l01Below.f b i s n = some (v, b, i', s') ∧ Rd b i' ∧ 0 ≤ v ∧ v < n := by
  unfold spec_l01Below.f
  rw [if_neg (by omega)]
  obtain ⟨v1, i1, s1, e1, h1, b1⟩ := l01Byte_of b i s h
  obtain ⟨v2, i2, s2, e2, h2, b2⟩ := l01Byte_of b i1 s1 h1
  obtain ⟨v3, i3, s3, e3, h3, b3⟩ := l01Byte_of b i2 s2 h2
  obtain ⟨v4, i4, s4, e4, h4, b4⟩ := l01Byte_of b i3 s3 h3
  by_cases hn2 : n ≤ 256
  · rw [if_pos hn2, e1]
    simp only [Option.bind_some]
    rw [if_pos (by omega)]
    exact ⟨_, _, _, rfl, h1, tmod_of b1.1 hn⟩
  · rw [if_neg hn2, e1]
    simp only [Option.bind_some, e2, e3, e4]
    rw [if_pos (by omega)]
    refine ⟨_, _, _, rfl, h4, tmod_of ?_ hn⟩
    rw [w64 (x := v1 * 16777216) (by omega) (by omega), w64 (x := v2 * 65536) (by omega) (by omega), w64 (x := v1 * 16777216 + v2 * 65536) (by omega) (by omega), w64 (x := v3 * 256) (by omega) (by omega), w64 (x := v1 * 16777216 + v2 * 65536 + v3 * 256) (by omega) (by omega), w64 (by omega) (by omega)]
    omega
theorem l01PickInt_of (b : List Int) (i s : Int) (l : List Int) (h : Rd b i) (hl : 0 < l.length) : ∃ v i' s', spec_l01PickInt.f b i s l = some (v, b, i', s') ∧ Rd b i' ∧ v ∈ l := by
  obtain ⟨v, i', s', e, h', h0, h1⟩ := l01Below_of b i s l.length h (by omega)
  unfold spec_l01PickInt.f
  rw [e]
  simp only [Option.bind_some]
  rw [if_pos h0, if_pos h1]
  refine ⟨_, _, _, rfl, h', ?_⟩
  have hv : v.toNat < l.length := by omega
  unfold rd
  rw [List.getD_eq_getElem?_getD, List.getElem?_eq_getElem hv]
  exact List.getElem_mem hv
theorem l01Once_of (b : List Int) (i s n : Int) (h : Rd b i) (hn : 0 < n) : ∃ (v : Bool) (i' s' : Int), spec_l01Once.f b i s n = some (v, b, i', s') ∧ Rd b i' := by
  obtain ⟨v, i', s', e, h', h0, h1⟩ := l01Below_of b i s n h hn
  exact ⟨_, _, _, by unfold spec_l01Once.f; rw [e]; rfl, h'⟩
section
variable {α : Type} {P : α → Prop} {b : List Int} {i s n : Int}
theorem Tot.below {f : Nat → (Int × List Int × Int × Int) → Option α} (h : Rd b i) (hn : 0 < n) (k : ∀ v i' s', Rd b i' → 0 ≤ v → v < n → Tot (fun m => f m (v, b, i', s')) P) : Tot (fun m => (spec_l01Below.f b i s n).bind (f m)) P := by
  obtain ⟨v, i', s', e, h', h0, h1⟩ := l01Below_of b i s n h hn
  exact Tot.bindc1 e (k v i' s' h' h0 h1)
theorem Tot.once {f : Nat → (Bool × List Int × Int × Int) → Option α} (h : Rd b i) (hn : 0 < n) (k : ∀ v i' s', Rd b i' → Tot (fun m => f m (v, b, i', s')) P) : Tot (fun m => (spec_l01Once.f b i s n).bind (f m)) P := by
  obtain ⟨v, i', s', e, h'⟩ := l01Once_of b i s n h hn
  exact Tot.bindc1 e (k v i' s' h')
theorem Tot.pick {l : List Int} {f : Nat → (Int × List Int × Int × Int) → Option α} (h : Rd b i) (hl : 0 < l.length) (k : ∀ v i' s', Rd b i' → v ∈ l → Tot (fun m => f m (v, b, i', s')) P) : Tot (fun m => (spec_l01PickInt.f b i s l).bind (f m)) P := by
  obtain ⟨v, i', s', e, h', h0⟩ := l01PickInt_of b i s l h hl
  exact Tot.bindc1 e (k v i' s' h' h0)
end
theorem l04Half_of (b : List Int) (i s : Int) (h : Rd b i) : ∃ (v : Int) (i' s' : Int), spec_l04Half.f b i s = some (v, b, i', s') ∧ Rd b i' ∧ 0 ≤ v ∧ v ≤ 4294967295 := by
  obtain ⟨v, i1, s1, e1, h1, b1, b2⟩ := l01Below_of b i s 12 h (by omega)
  obtain ⟨w, i2, s2, e2, h2, m2⟩ := l01PickInt_of b i1 s1 [0, 1, 2, 3, 5, 7, 255, 4294967295, 2147483648, v] h1 (by simp)
  refine ⟨w, i2, s2, ?_, h2, ?_⟩
  · unfold spec_l04Half.f
    rw [e1]
    simp only [Option.bind_some]
    rw [e2]; rfl
  · simp only [List.mem_cons, List.not_mem_nil, or_false] at m2
    omega
section
variable {α : Type} {P : α → Prop} {b : List Int} {i s : Int}
theorem Tot.half {f : Nat → (Int × List Int × Int × Int) → Option α} (h : Rd b i) (k : ∀ v i' s', Rd b i' → 0 ≤ v → v ≤ 4294967295 → Tot (fun m => f m (v, b, i', s')) P) : Tot (fun m => (spec_l04Half.f b i s).bind (f m)) P := by
  obtain ⟨v, i', s', e, h', h0, h1⟩ := l04Half_of b i s h
  exact Tot.bindc1 e (k v i' s' h' h0 h1)
end
theorem l04Wide_tot (b : List Int) (i s : Int) (h : Rd b i) : Tot (fun _ => spec_l04Wide.f b i s) (fun r => ∃ (x y i' s' : Int), r = (x, y, b, i', s') ∧ Rd b i' ∧ (0 ≤ x ∧ x ≤ 4294967295) ∧ 0 ≤ y ∧ y ≤ 4294967295) := by
  unfold spec_l04Wide.f
  refine Tot.half h (fun v i1 s1 h1 v0 v1 => Tot.once h1 (by omega) (fun w i2 s2 h2 => ?_))
  refine Tot.both (fun _ => ?_) (fun _ => Tot.now ⟨_, _, _, _, rfl, h2, by first | omega | (dsimp only; omega), v0, v1⟩)
  exact Tot.half h2 (fun u i3 s3 h3 u0 u1 => Tot.now ⟨_, _, _, _, rfl, h3, ⟨u0, u1⟩, v0, v1⟩)
theorem Tot.ofc {α β : Type} {a : Option α} {P : α → Prop} {R : β → Prop} {f : Nat → α → Option β} (h : Tot (fun _ => a) P) (k : ∀ x, P x → Tot (fun n => f n x) R) : Tot (fun n => a.bind (f n)) R := Tot.bind h k
theorem l04Call_tot (b : List Int) (i s : Int) (h : Rd b i) : Tot (fun k => spec_l04Call.f k b i s) (fun r => ∃ (x y : Int) (l : List S69) (i' s' : Int), r = (x, y, l, b, i', s') ∧ Rd b i' ∧ l.length = 3 ∧ (∀ w ∈ l, (0 ≤ w.f0 ∧ w.f0 ≤ 4294967295) ∧ 0 ≤ w.f1 ∧ w.f1 ≤ 4294967295) ∧ (0 ≤ x ∧ x ≤ 4294967295) ∧ 0 ≤ y ∧ y ≤ 4294967295) := by
  unfold spec_l04Call.f
  refine Tot.pick h (by simp) (fun v i1 s1 h1 hv => Tot.pick h1 (by simp) (fun w i2 s2 h2 hw => ?_))
  have hv' : 0 ≤ v ∧ v ≤ 4294967295 := by simp at hv; omega
  have hw' : 0 ≤ w ∧ w ≤ 4294967295 := by simp at hw; omega
  clear hv hw
  refine Tot.up (fun k (t : Int × Int × List S69) j => spec_l04Call.l0 k (v, b, i1, s1) (w, b, i2, s2) b t.1 t.2.1 t.2.2 j) 3 (fun j t => Rd b t.1 ∧ t.2.2.length = j ∧ ∀ w ∈ t.2.2, (0 ≤ w.f0 ∧ w.f0 ≤ 4294967295) ∧ 0 ≤ w.f1 ∧ w.f1 ≤ 4294967295) ?_ (i2, s2, []) ⟨h2, rfl, fun w hw => by simp at hw⟩
  rintro j ⟨i3, s3, q⟩ hj ⟨hr, hl, hq⟩ next
  replace hr : Rd b i3 := hr
  replace hl : q.length = j := hl
  replace hq : ∀ w ∈ q, (0 ≤ w.f0 ∧ w.f0 ≤ 4294967295) ∧ 0 ≤ w.f1 ∧ w.f1 ≤ 4294967295 := hq
  refine Tot.step (fun _ => rfl) ?_
  simp only [spec_l04Call.l0]
  rw [w64 (x := (j : Int) + 1) (by omega) (by omega)]
  refine Tot.both (fun hlt => ?_) (fun hge => Tot.now ⟨_, _, _, _, _, rfl, hr, by omega, hq, hv', hw'⟩)
  refine Tot.bind (l04Wide_tot b i3 s3 hr) ?_
  rintro _ ⟨x, y, i4, s4, rfl, h4, hx, hy⟩
  refine Tot.grd (by simp; omega) ?_
  refine next (i4, s4, q ++ [⟨x, y⟩]) (by omega) ⟨h4, by simp; omega, fun w hw => ?_⟩
  rcases List.mem_append.1 hw with hw | hw
  · exact hq w hw
  · rw [List.mem_singleton] at hw; subst hw; exact ⟨hx, hy⟩
theorem spec_HalfOk_of (a : Int) : spec_HalfOk.f a = some (decide (0 ≤ a ∧ a ≤ 4294967295)) := by
  unfold spec_HalfOk.f; rw [spec_l01In_of]; rfl
def wideV (w : S69) : Bool := decide (0 ≤ w.f0 ∧ w.f0 ≤ 4294967295) && decide (0 ≤ w.f1 ∧ w.f1 ≤ 4294967295)
theorem spec_WideOk_of (w : S69) : spec_WideOk.f w.f0 w.f1 = some (wideV w) := by
  unfold spec_WideOk.f wideV
  simp only [spec_HalfOk_of, Option.bind_some, and_if]
def callRest (a n : Int) (m : Nat) : Bool := decide (0 ≤ a ∧ a ≤ 4294967295) && (decide (0 ≤ n ∧ n ≤ 4294967295) && ((m : Int) == 3))
def callOkV (a n : Int) (l : List S69) : Bool := l.all wideV && callRest a n l.length
theorem spec_CallOk_ev (a n : Int) (l : List S69) (hl : l.length ≤ 1048576) : Ev (fun k => spec_CallOk.f k a n l) (callOkV a n l) := by
  unfold spec_CallOk.f
  refine allz_ev (fun k i => spec_CallOk.l0 k a n l i) l wideV (callRest a n l.length) ?_ ?_ ?_
  · refine Ev.step (fun _ => rfl) ?_
    simp only [spec_CallOk.l0]
    refine Ev.neg (by omega) (Ev.const ?_)
    unfold callRest
    simp only [spec_HalfOk_of, Option.bind_some, and_if]
  · intro i x hx hp
    have hi := lt_of hx
    refine Ev.step (fun _ => rfl) ?_
    simp only [spec_CallOk.l0]
    rw [rd69 hx]
    exact Ev.pos (by omega) (Ev.pos (by omega) (Ev.bindc (spec_WideOk_of x) (Ev.neg (by rw [hp]; simp) (Ev.now _))))
  · intro i x r hx hp h
    have hi := lt_of hx
    refine Ev.step (fun _ => rfl) ?_
    simp only [spec_CallOk.l0]
    rw [rd69 hx, w64 (x := (i : Int) + 1) (by omega) (by omega)]
    exact Ev.pos (by omega) (Ev.pos (by omega) (Ev.bindc (spec_WideOk_of x) (Ev.pos hp h)))
def condOkV (c : S71) : Bool := decide (0 ≤ c.f0 ∧ c.f0 ≤ 2) && (wideV c.f1 && (wideV c.f3 && decide (1 ≤ c.f2 ∧ c.f2 ≤ 6)))
theorem spec_CondOk_of (c : S71) : spec_CondOk.f c.f0 c.f1.f0 c.f1.f1 c.f2 c.f3.f0 c.f3.f1 = some (condOkV c) := by
  unfold spec_CondOk.f condOkV
  simp only [spec_l01In_of, spec_WideOk_of, Option.bind_some, and_if]
def actV (a d : Int) : Bool := decide (0 ≤ a ∧ a ≤ 5) && decide (0 ≤ d ∧ d ≤ 65535)
theorem spec_l09Act_of (a d : Int) : spec_l09Act.f a d = some (actV a d) := by
  unfold spec_l09Act.f actV
  simp only [spec_l01In_of, Option.bind_some, and_if]
def numP (l : List Int) (i : Nat) (x : Int) : Bool := decide (0 ≤ x ∧ x ≤ 4294967295) && (decide (i = 0) || decide (l.getD (i - 1) 0 < x))
def ruleRest (n c : Nat) (a d : Int) : Bool := decide (n ≤ 4) && (decide (c ≤ 3) && actV a d)
def ruleV (r : S59) : Bool := allI (numP r.f0) 0 r.f0 && (r.f1.all condOkV && ruleRest r.f0.length r.f1.length r.f2 r.f3)
def polRest (a c d : Int) (n : Nat) : Bool := decide (0 ≤ a ∧ a ≤ 4294967295) && (actV c d && decide (n ≤ 10))
def polV (a c d : Int) (l : List S59) : Bool := l.all ruleV && polRest a c d l.length
/-- Of a size that goes through. -/
def Sm (l : List S59) : Prop := l.length ≤ 1000 ∧ ∀ r ∈ l, r.f0.length ≤ 1000 ∧ r.f1.length ≤ 1000
theorem Sm.get {l : List S59} (h : Sm l) {i : Nat} {r : S59} (hr : l[i]? = some r) : r.f0.length ≤ 1000 ∧ r.f1.length ≤ 1000 := h.2 r (List.mem_of_getElem? hr)
theorem spec_l09Rule_ev (r : S59) (hn : r.f0.length ≤ 1048576) (hc : r.f1.length ≤ 1048576) : Ev (fun k => spec_l09Rule.f k r.f0 r.f1 r.f2 r.f3) (ruleV r) := by
  unfold spec_l09Rule.f
  refine allI_ev (fun k i => spec_l09Rule.l0 k r.f0 r.f1 r.f2 r.f3 i) r.f0 (numP r.f0) _ ?_ ?_ ?_
  · refine Ev.step (fun _ => rfl) ?_
    simp only [spec_l09Rule.l0]
    refine Ev.neg (by omega) (allz_ev (fun k i => spec_l09Rule.l1 k r.f0 r.f1 r.f2 r.f3 i) r.f1 condOkV _ ?_ ?_ ?_)
    · refine Ev.step (fun _ => rfl) ?_
      simp only [spec_l09Rule.l1]
      refine Ev.neg (by omega) (Ev.const ?_)
      rw [spec_l09Act_of]
      unfold ruleRest
      by_cases h1 : r.f0.length ≤ 4
      · rw [if_pos (by omega), decide_eq_true h1]
        by_cases h2 : r.f1.length ≤ 3
        · rw [if_pos (by omega), decide_eq_true h2]; simp
        · rw [if_neg (by omega), decide_eq_false h2]; simp
      · rw [if_neg (by omega), decide_eq_false h1]; simp
    · intro i x hx hp
      have hi := lt_of hx
      refine Ev.step (fun _ => rfl) ?_
      simp only [spec_l09Rule.l1]
      rw [rd71 hx]
      exact Ev.pos (by omega) (Ev.pos (by omega) (Ev.bindc (spec_CondOk_of x) (Ev.neg (by rw [hp]; simp) (Ev.now _))))
    · intro i x q hx hp h
      have hi := lt_of hx
      refine Ev.step (fun _ => rfl) ?_
      simp only [spec_l09Rule.l1]
      rw [rd71 hx, w64 (x := (i : Int) + 1) (by omega) (by omega)]
      exact Ev.pos (by omega) (Ev.pos (by omega) (Ev.bindc (spec_CondOk_of x) (Ev.pos hp h)))
  · intro i x hx hp
    have hi := lt_of hx
    refine Ev.step (fun _ => rfl) ?_
    simp only [spec_l09Rule.l0]
    rw [rdI_of hx]
    refine Ev.pos (by omega) (Ev.pos (by omega) (Ev.bindc (spec_HalfOk_of x) ?_))
    by_cases hh : 0 ≤ x ∧ x ≤ 4294967295
    · unfold numP at hp
      rw [decide_eq_true hh, Bool.true_and, Bool.or_eq_false_iff] at hp
      have h0 : i ≠ 0 := of_decide_eq_false hp.1
      have h1 := of_decide_eq_false hp.2
      rw [w64 (x := (i : Int) - 1) (by omega) (by omega)]
      have e : rd r.f0 ((i : Int) - 1) = r.f0.getD (i - 1) 0 := by unfold rd; rw [show ((i : Int) - 1).toNat = i - 1 by omega]
      exact Ev.pos (decide_eq_true hh) (Ev.pos (by omega) (Ev.pos (by omega) (Ev.pos (by omega) (Ev.pos (by rw [e]; omega) (Ev.now _)))))
    · exact Ev.neg (by simpa using hh) (Ev.now _)
  · intro i x q hx hp h
    have hi := lt_of hx
    refine Ev.step (fun _ => rfl) ?_
    simp only [spec_l09Rule.l0]
    rw [rdI_of hx, w64 (x := (i : Int) + 1) (by omega) (by omega)]
    unfold numP at hp
    rw [Bool.and_eq_true] at hp
    have hh := of_decide_eq_true hp.1
    refine Ev.pos (by omega) (Ev.pos (by omega) (Ev.bindc (spec_HalfOk_of x) (Ev.pos hp.1 ?_)))
    by_cases h0 : i = 0
    · exact Ev.neg (by omega) h
    · have h1 : r.f0.getD (i - 1) 0 < x := by
        rcases Bool.or_eq_true .. ▸ hp.2 with h1 | h1
        · exact absurd (of_decide_eq_true h1) h0
        · exact of_decide_eq_true h1
      rw [w64 (x := (i : Int) - 1) (by omega) (by omega)]
      have e : rd r.f0 ((i : Int) - 1) = r.f0.getD (i - 1) 0 := by unfold rd; rw [show ((i : Int) - 1).toNat = i - 1 by omega]
      exact Ev.pos (by omega) (Ev.pos (by omega) (Ev.pos (by omega) (Ev.neg (by rw [e]; omega) h)))
theorem spec_PolicyOk_ev (a c d : Int) (l : List S59) (hl : Sm l) : Ev (fun k => spec_PolicyOk.f k a c d l) (polV a c d l) := by
  obtain ⟨hn, hr⟩ := hl
  unfold spec_PolicyOk.f
  refine allz_ev (fun k i => spec_PolicyOk.l0 k a c d l i) l ruleV (polRest a c d l.length) ?_ ?_ ?_
  · refine Ev.step (fun _ => rfl) ?_
    simp only [spec_PolicyOk.l0]
    refine Ev.neg (by omega) (Ev.const ?_)
    unfold polRest
    simp only [spec_HalfOk_of, spec_l09Act_of, Option.bind_some, and_if]
    congr 3
    simp; omega
  · intro i x hx hp
    have hi := lt_of hx
    have hb := hr x (List.mem_of_getElem? hx)
    refine Ev.step (fun _ => rfl) ?_
    simp only [spec_PolicyOk.l0]
    rw [rd59 hx]
    exact Ev.pos (by omega) (Ev.pos (by omega) (Ev.bind (spec_l09Rule_ev x (by omega) (by omega)) (Ev.neg (by rw [hp]; simp) (Ev.now _))))
  · intro i x q hx hp h
    have hi := lt_of hx
    have hb := hr x (List.mem_of_getElem? hx)
    refine Ev.step (fun _ => rfl) ?_
    simp only [spec_PolicyOk.l0]
    rw [rd59 hx, w64 (x := (i : Int) + 1) (by omega) (by omega)]
    exact Ev.pos (by omega) (Ev.pos (by omega) (Ev.bind (spec_l09Rule_ev x (by omega) (by omega)) (Ev.pos hp h)))
theorem impl_PolicyOk_eq : impl_PolicyOk.f = spec_PolicyOk.f := by kernel_rfl
theorem impl_PolicyOk_ev (a c d : Int) (l : List S59) (hl : Sm l) : Ev (fun k => impl_PolicyOk.f k a c d l) (polV a c d l) := by
  rw [impl_PolicyOk_eq]; exact spec_PolicyOk_ev a c d l hl
theorem wideAnd_ex (a b c d : Int) : ∃ x y, spec_WideAnd.f a b c d = some (x, y) := by
  unfold spec_WideAnd.f
  rw [spec_WideOk_of ⟨a, b⟩, spec_WideOk_of ⟨c, d⟩]
  simp only [Option.bind_some]
  split
  · split
    · exact ⟨_, _, rfl⟩
    · exact ⟨_, _, rfl⟩
  · exact ⟨_, _, rfl⟩
theorem l04Cmp_ex (a b : Int) : ∃ x, spec_l04Cmp.f a b = some x := by
  unfold spec_l04Cmp.f
  split
  · exact ⟨_, rfl⟩
  · split
    · exact ⟨_, rfl⟩
    · exact ⟨_, rfl⟩
theorem wideCmp_ex (a b c d : Int) : ∃ x, spec_WideCmp.f a b c d = some x := by
  unfold spec_WideCmp.f
  obtain ⟨x, hx⟩ := l04Cmp_ex a c
  obtain ⟨y, hy⟩ := l04Cmp_ex b d
  rw [hx, hy]
  simp only [Option.bind_some]
  split
  · exact ⟨_, rfl⟩
  · exact ⟨_, rfl⟩
theorem condHolds_ex (c : S71) (a n : Int) (w : List S69) (hw : w.length ≤ 1048576) : ∃ v, Ev (fun k => spec_CondHolds.f k c.f0 c.f1.f0 c.f1.f1 c.f2 c.f3.f0 c.f3.f1 a n w) v := by
  unfold spec_CondHolds.f
  have e1 := spec_CondOk_of c
  have e2 := spec_CallOk_ev a n w hw
  cases h1 : condOkV c with
  | false => rw [h1] at e1; exact ⟨_, Ev.bindc e1 (Ev.neg (by simp) (Ev.now _))⟩
  | true =>
    rw [h1] at e1
    cases h2 : callOkV a n w with
    | false => rw [h2] at e2; exact ⟨_, Ev.bindc e1 (Ev.pos rfl (Ev.bind e2 (Ev.neg (by simp) (Ev.now _))))⟩
    | true =>
      rw [h2] at e2
      unfold condOkV at h1
      unfold callOkV callRest at h2
      simp only [Bool.and_eq_true] at h1 h2
      have g1 := of_decide_eq_true h1.1
      have g2 := beq_iff_eq.1 h2.2.2.2
      obtain ⟨x, y, e3⟩ := wideAnd_ex (rd_T69 w c.f0).f0 (rd_T69 w c.f0).f1 c.f1.f0 c.f1.f1
      obtain ⟨z, e4⟩ := wideCmp_ex x y c.f3.f0 c.f3.f1
      have e5 : ∃ v, (if c.f2 = 1 then some (z == 0) else if c.f2 = 2 then some (z != 0) else if c.f2 = 3 then some (decide (z < 0)) else if c.f2 = 4 then some (decide (z ≤ 0)) else if c.f2 = 5 then some (decide (z > 0)) else some (decide (z ≥ 0))) = some v := by
        simp only [ite_some]; exact ⟨_, rfl⟩
      obtain ⟨v, e5⟩ := e5
      exact ⟨v, Ev.bindc e1 (Ev.pos rfl (Ev.bind e2 (Ev.pos rfl (Ev.pos g1.1 (Ev.pos (by omega) (Ev.bindc e3 (Ev.bindc e4 (Ev.const e5))))))))⟩
open Classical in
noncomputable def condV (a n : Int) (w : List S69) (c : S71) : Bool := if h : ∃ v, Ev (fun k => spec_CondHolds.f k c.f0 c.f1.f0 c.f1.f1 c.f2 c.f3.f0 c.f3.f1 a n w) v then h.choose else false
theorem condV_ev (a n : Int) (w : List S69) (c : S71) (hw : w.length ≤ 1048576) : Ev (fun k => spec_CondHolds.f k c.f0 c.f1.f0 c.f1.f1 c.f2 c.f3.f0 c.f3.f1 a n w) (condV a n w c) := by
  have h := condHolds_ex c a n w hw
  unfold condV
  rw [dif_pos h]
  exact h.choose_spec
theorem spec_l09In_ev (l : List Int) (n : Int) (hl : l.length ≤ 1048576) : Ev (fun k => spec_l09In.f k l n) (l.any (fun x => decide (x = n))) := by
  have e : l.any (fun x => decide (x = n)) = findV (fun x => decide (x = n)) (fun _ => true) false 0 l := by
    rcases findV_spec (fun x => decide (x = n)) (fun _ => true) false l 0 with ⟨h1, j, x, _, _, _, h5⟩ | ⟨h1, h2⟩
    · rw [h1, h5]
    · rw [h2, any_none h1]
  rw [e]
  unfold spec_l09In.f
  refine find_ev (fun k i => spec_l09In.l0 k l n i) l _ _ _ ?_ ?_ ?_
  · refine Ev.step (fun _ => rfl) ?_
    simp only [spec_l09In.l0]; exact Ev.neg (by omega) (Ev.now _)
  · intro i x hx hp
    have hi := lt_of hx
    refine Ev.step (fun _ => rfl) ?_
    simp only [spec_l09In.l0]
    rw [rdI_of hx]
    exact Ev.pos (by omega) (Ev.pos (by omega) (Ev.pos (of_decide_eq_true hp) (Ev.now _)))
  · intro i x r hx hp h
    have hi := lt_of hx
    refine Ev.step (fun _ => rfl) ?_
    simp only [spec_l09In.l0]
    rw [rdI_of hx, w64 (x := (i : Int) + 1) (by omega) (by omega)]
    exact Ev.pos (by omega) (Ev.pos (by omega) (Ev.neg (of_decide_eq_false hp) h))
noncomputable def holdsV (a n : Int) (w : List S69) (r : S59) : Bool := (decide (r.f0 = []) || r.f0.any (fun x => decide (x = n))) && r.f1.all (condV a n w)
theorem spec_RuleHolds_ev (a n : Int) (w : List S69) (r : S59) (hw : w.length ≤ 1048576) (h0 : r.f0.length ≤ 1000) (h1 : r.f1.length ≤ 1000) : Ev (fun k => spec_RuleHolds.f k r.f0 r.f1 r.f2 r.f3 a n w) (holdsV a n w r) := by
  have main : Ev (fun k => spec_RuleHolds.j0 k r.f0 r.f1 r.f2 r.f3 a n w) (r.f1.all (condV a n w)) := by
    refine Ev.step (fun _ => rfl) ?_
    simp only [spec_RuleHolds.j0]
    refine all_ev (fun k i => spec_RuleHolds.l0 k r.f0 r.f1 r.f2 r.f3 a n w i) r.f1 _ ?_ ?_ ?_
    · refine Ev.step (fun _ => rfl) ?_
      simp only [spec_RuleHolds.l0]; exact Ev.neg (by omega) (Ev.now _)
    · intro i x hx hp
      have hi := lt_of hx
      refine Ev.step (fun _ => rfl) ?_
      simp only [spec_RuleHolds.l0]
      rw [rd71 hx]
      exact Ev.pos (by omega) (Ev.pos (by omega) (Ev.bind (condV_ev a n w x hw) (Ev.neg (by rw [hp]; simp) (Ev.now _))))
    · intro i x q hx hp h
      have hi := lt_of hx
      refine Ev.step (fun _ => rfl) ?_
      simp only [spec_RuleHolds.l0]
      rw [rd71 hx, w64 (x := (i : Int) + 1) (by omega) (by omega)]
      exact Ev.pos (by omega) (Ev.pos (by omega) (Ev.bind (condV_ev a n w x hw) (Ev.pos hp h)))
  unfold spec_RuleHolds.f holdsV
  by_cases hz : r.f0 = []
  · rw [decide_eq_true hz, Bool.true_or, Bool.true_and]
    exact Ev.neg (by rw [hz]; simp) main
  · rw [decide_eq_false hz, Bool.false_or]
    have hp : 0 < r.f0.length := List.length_pos_iff.2 hz
    refine Ev.pos (by omega) (Ev.bind (spec_l09In_ev r.f0 n (by omega)) ?_)
    cases hm : r.f0.any (fun x => decide (x = n)) with
    | true => rw [Bool.true_and]; exact Ev.pos rfl main
    | false => rw [Bool.false_and]; exact Ev.neg (by simp) (Ev.now _)
theorem resultOf_ex (a d : Int) : ∃ x, spec_ResultOf.f a d = some x := by
  unfold spec_ResultOf.f
  simp only [spec_l01In_of, Option.bind_some]
  split
  · split <;> exact ⟨_, rfl⟩
  · exact ⟨_, rfl⟩
def resV (a d : Int) : Int := (spec_ResultOf.f a d).getD 0
theorem resV_of (a d : Int) : spec_ResultOf.f a d = some (resV a d) := by
  obtain ⟨x, hx⟩ := resultOf_ex a d
  unfold resV; rw [hx]; rfl
/-- What the first rule that holds tells; or what else holds. -/
noncomputable def firstV (a n : Int) (w : List S69) (z : Int) : List S59 → Int
  | [] => z
  | r :: t => if holdsV a n w r then resV r.f2 r.f3 else firstV a n w z t
theorem spec_Decide_ok (pa pc pd : Int) (l : List S59) (a n : Int) (w : List S69) (hl : Sm l) (hw : w.length ≤ 1048576) (hp : polV pa pc pd l = true) : Ev (fun k => spec_Decide.f k pa pc pd l a n w) (if callOkV a n w = true ∧ a = pa then firstV a n w (resV pc pd) l else 0) := by
  have e1 := spec_PolicyOk_ev pa pc pd l hl
  rw [hp] at e1
  unfold spec_Decide.f
  refine Ev.bind e1 (Ev.pos rfl (Ev.bind (spec_CallOk_ev a n w hw) ?_))
  by_cases h1 : callOkV a n w = true
  · refine Ev.pos h1 ?_
    by_cases h2 : a = pa
    · rw [if_pos ⟨h1, h2⟩]
      refine Ev.pos h2 ?_
      have key : ∀ (d i : Nat), l.length - i = d → i ≤ l.length → Ev (fun k => spec_Decide.l0 k pa pc pd l a n w (i : Int)) (firstV a n w (resV pc pd) (l.drop i)) := by
        obtain ⟨hn, hr⟩ := hl
        intro d
        induction d with
        | zero =>
          intro i hd hi
          rw [List.drop_eq_nil_of_le (by omega)]
          refine Ev.step (fun _ => rfl) ?_
          simp only [spec_Decide.l0]
          exact Ev.neg (by omega) (Ev.bindc (resV_of _ _) (Ev.now _))
        | succ d ih =>
          intro i hd hi
          have hx : l[i]? = some l[i] := List.getElem?_eq_getElem (by omega)
          rw [List.drop_eq_getElem_cons (by omega)]
          generalize l[i] = x at hx
          have hb := hr x (List.mem_of_getElem? hx)
          refine Ev.step (fun _ => rfl) ?_
          simp only [spec_Decide.l0, firstV]
          rw [rd59 hx, w64 (x := (i : Int) + 1) (by omega) (by omega)]
          refine Ev.pos (by omega) (Ev.pos (by omega) (Ev.bind (spec_RuleHolds_ev a n w x hw hb.1 hb.2) ?_))
          cases hh : holdsV a n w x with
          | true => exact Ev.pos rfl (Ev.bindc (resV_of _ _) (Ev.now _))
          | false => exact Ev.neg (by simp) (by have := ih (i + 1) (by omega) (by omega); simpa using this)
      have := key l.length 0 rfl (Nat.zero_le _)
      simpa using this
    · rw [if_neg (fun h => h2 h.2)]
      exact Ev.neg h2 (Ev.now _)
  · rw [if_neg (fun h => h1 h.1)]
    exact Ev.neg h1 (Ev.now _)

def ceq (c y : S71) : Bool := (c.f0 == y.f0 && ((c.f1.f0 == y.f1.f0 && (c.f1.f1 == y.f1.f1)) && (c.f2 == y.f2 && ((c.f3.f0 == y.f3.f0 && (c.f3.f1 == y.f3.f1))))))
theorem ceq_eq {c y : S71} (h : ceq c y = true) : c = y := by
  obtain ⟨a, ⟨b, c⟩, d, ⟨e, f⟩⟩ := c
  obtain ⟨a', ⟨b', c'⟩, d', ⟨e', f'⟩⟩ := y
  simp only [ceq, Bool.and_eq_true, beq_iff_eq] at h
  obtain ⟨rfl, ⟨rfl, rfl⟩, rfl, rfl, rfl⟩ := h
  rfl
theorem condIndex_ev (l : List S71) (c : S71) (hl : l.length ≤ 1048576) : Ev (fun k => impl_Cond_85.f k l c.f0 c.f1.f0 c.f1.f1 c.f2 c.f3.f0 c.f3.f1) (findV (ceq c) (fun j => (j : Int)) (-1) 0 l) := by
  unfold impl_Cond_85.f
  refine find_ev (fun k i => impl_Cond_85.l0 k l c.f0 c.f1.f0 c.f1.f1 c.f2 c.f3.f0 c.f3.f1 i) l _ _ _ ?_ ?_ ?_
  · refine Ev.step (fun _ => rfl) ?_
    simp only [impl_Cond_85.l0]; exact Ev.neg (by omega) (Ev.now _)
  · intro i x hx hp
    have hi := lt_of hx
    refine Ev.step (fun _ => rfl) ?_
    simp only [impl_Cond_85.l0]
    rw [rd71 hx]
    exact Ev.pos (by omega) (Ev.pos (by omega) (Ev.pos hp (Ev.now _)))
  · intro i x r hx hp h
    have hi := lt_of hx
    refine Ev.step (fun _ => rfl) ?_
    simp only [impl_Cond_85.l0]
    rw [rd71 hx, w64 (x := (i : Int) + 1) (by omega) (by omega)]
    exact Ev.pos (by omega) (Ev.pos (by omega) (Ev.neg (fun hh => by unfold ceq at hp; rw [hp] at hh; cases hh) h))
theorem condHas_ev (l : List S71) (c : S71) (hl : l.length ≤ 1048576) : Ev (fun k => impl_Cond_71.f k l c.f0 c.f1.f0 c.f1.f1 c.f2 c.f3.f0 c.f3.f1) (l.any (ceq c)) := by
  unfold impl_Cond_71.f
  exact Ev.bind (condIndex_ev l c hl) (Ev.some_ (find_any _ _ _))
theorem intIndex_ev (l : List Int) (n : Int) (hl : l.length ≤ 1048576) : Ev (fun k => slices_Index_int_int.f k l n) (findV (fun x => decide (n = x)) (fun j => (j : Int)) (-1) 0 l) := by
  unfold slices_Index_int_int.f
  refine find_ev (fun k i => slices_Index_int_int.l0 k l n i) l _ _ _ ?_ ?_ ?_
  · refine Ev.step (fun _ => rfl) ?_
    simp only [slices_Index_int_int.l0]; exact Ev.neg (by omega) (Ev.now _)
  · intro i x hx hp
    have hi := lt_of hx
    refine Ev.step (fun _ => rfl) ?_
    simp only [slices_Index_int_int.l0]
    rw [rdI_of hx]
    exact Ev.pos (by omega) (Ev.pos (by omega) (Ev.pos (of_decide_eq_true hp) (Ev.now _)))
  · intro i x r hx hp h
    have hi := lt_of hx
    refine Ev.step (fun _ => rfl) ?_
    simp only [slices_Index_int_int.l0]
    rw [rdI_of hx, w64 (x := (i : Int) + 1) (by omega) (by omega)]
    exact Ev.pos (by omega) (Ev.pos (by omega) (Ev.neg (of_decide_eq_false hp) h))
theorem intHas_ev (l : List Int) (n : Int) (hl : l.length ≤ 1048576) : Ev (fun k => slices_Contains_int_int.f k l n) (l.any (fun x => decide (n = x))) := by
  unfold slices_Contains_int_int.f
  exact Ev.bind (intIndex_ev l n hl) (Ev.some_ (find_any _ _ _))
def coversV (a b : S59) : Bool := a.f1.all (fun c => b.f1.any (ceq c)) && (decide (a.f0 = []) || (b.f0.all (fun n => a.f0.any (fun x => decide (n = x))) && decide (b.f0 ≠ [])))
theorem covers_ev (a b : S59) (ha : a.f0.length ≤ 1000 ∧ a.f1.length ≤ 1000) (hb : b.f0.length ≤ 1000 ∧ b.f1.length ≤ 1000) : Ev (fun k => impl_covers.f k a.f0 a.f1 a.f2 a.f3 b.f0 b.f1 b.f2 b.f3) (coversV a b) := by
  unfold impl_covers.f
  refine allz_ev (fun k i => impl_covers.l0 k a.f0 a.f1 a.f2 a.f3 b.f0 b.f1 b.f2 b.f3 i) a.f1 _ _ ?_ ?_ ?_
  · refine Ev.step (fun _ => rfl) ?_
    simp only [impl_covers.l0]
    refine Ev.neg (by omega) ?_
    by_cases hz : a.f0 = []
    · rw [decide_eq_true hz, Bool.true_or]
      exact Ev.pos (by rw [hz]; simp) (Ev.now _)
    · rw [decide_eq_false hz, Bool.false_or]
      have hp : 0 < a.f0.length := List.length_pos_iff.2 hz
      refine Ev.neg (by omega) (allz_ev (fun k i => impl_covers.l1 k a.f0 a.f1 a.f2 a.f3 b.f0 b.f1 b.f2 b.f3 i) b.f0 _ _ ?_ ?_ ?_)
      · refine Ev.step (fun _ => rfl) ?_
        simp only [impl_covers.l1]
        refine Ev.neg (by omega) (Ev.some_ ?_)
        by_cases h : b.f0 = []
        · rw [h]; rfl
        · have := List.length_pos_iff.2 h
          rw [decide_eq_true h, decide_eq_true (by omega)]
      · intro i x hx hp
        have hi := lt_of hx
        refine Ev.step (fun _ => rfl) ?_
        simp only [impl_covers.l1]
        rw [rdI_of hx]
        exact Ev.pos (by omega) (Ev.pos (by omega) (Ev.bind (intHas_ev a.f0 x (by omega)) (Ev.neg (by rw [hp]; simp) (Ev.now _))))
      · intro i x r hx hp h
        have hi := lt_of hx
        refine Ev.step (fun _ => rfl) ?_
        simp only [impl_covers.l1]
        rw [rdI_of hx, w64 (x := (i : Int) + 1) (by omega) (by omega)]
        exact Ev.pos (by omega) (Ev.pos (by omega) (Ev.bind (intHas_ev a.f0 x (by omega)) (Ev.pos hp h)))
  · intro i x hx hp
    have hi := lt_of hx
    refine Ev.step (fun _ => rfl) ?_
    simp only [impl_covers.l0]
    rw [rd71 hx]
    exact Ev.pos (by omega) (Ev.pos (by omega) (Ev.bind (condHas_ev b.f1 x (by omega)) (Ev.neg (by rw [hp]; simp) (Ev.now _))))
  · intro i x r hx hp h
    have hi := lt_of hx
    refine Ev.step (fun _ => rfl) ?_
    simp only [impl_covers.l0]
    rw [rd71 hx, w64 (x := (i : Int) + 1) (by omega) (by omega)]
    exact Ev.pos (by omega) (Ev.pos (by omega) (Ev.bind (condHas_ev b.f1 x (by omega)) (Ev.pos hp h)))
theorem ruleIndex_ev (l : List S59) (b : S59) (hl : Sm l) (hb : b.f0.length ≤ 1000 ∧ b.f1.length ≤ 1000) : Ev (fun k => impl_Rule_70_w44.f k l b.f0 b.f1 b.f2 b.f3) (findV (fun x => coversV x b) (fun j => ((j : Int), b.f0, b.f1, b.f2, b.f3)) (-1, b.f0, b.f1, b.f2, b.f3) 0 l) := by
  obtain ⟨hn, hr⟩ := hl
  have hclo : ∀ x ∈ l, Ev (fun k => impl_Shadowed_1.f k x.f0 x.f1 x.f2 x.f3 b.f0 b.f1 b.f2 b.f3) (coversV x b, b.f0, b.f1, b.f2, b.f3) := fun x hx => by
    unfold impl_Shadowed_1.f
    exact Ev.bind (covers_ev x b (hr x hx) hb) (Ev.now _)
  unfold impl_Rule_70_w44.f
  refine find_ev (fun k i => impl_Rule_70_w44.l0 k l b.f0 b.f1 b.f2 b.f3 i) l _ _ _ ?_ ?_ ?_
  · refine Ev.step (fun _ => rfl) ?_
    simp only [impl_Rule_70_w44.l0]; exact Ev.neg (by omega) (Ev.now _)
  · intro i x hx hp
    have hi := lt_of hx
    refine Ev.step (fun _ => rfl) ?_
    simp only [impl_Rule_70_w44.l0]
    rw [rd59 hx]
    exact Ev.pos (by omega) (Ev.pos (by omega) (Ev.bind (hclo x (List.mem_of_getElem? hx)) (Ev.pos hp (Ev.now _))))
  · intro i x r hx hp h
    have hi := lt_of hx
    refine Ev.step (fun _ => rfl) ?_
    simp only [impl_Rule_70_w44.l0]
    rw [rd59 hx, w64 (x := (i : Int) + 1) (by omega) (by omega)]
    exact Ev.pos (by omega) (Ev.pos (by omega) (Ev.bind (hclo x (List.mem_of_getElem? hx)) (Ev.neg (by rw [show (_ : Bool) = false from hp]; simp) h)))
theorem ruleHas_ev (l : List S59) (b : S59) (hl : Sm l) (hb : b.f0.length ≤ 1000 ∧ b.f1.length ≤ 1000) : Ev (fun k => impl_Rule_43_w44.f k l b.f0 b.f1 b.f2 b.f3) (l.any (fun x => coversV x b), b.f0, b.f1, b.f2, b.f3) := by
  unfold impl_Rule_43_w44.f
  refine Ev.bind (ruleIndex_ev l b hl hb) (Ev.some_ ?_)
  rcases findV_spec (fun x => coversV x b) (fun j => ((j : Int), b.f0, b.f1, b.f2, b.f3)) (-1, b.f0, b.f1, b.f2, b.f3) l 0 with ⟨h1, j, x, _, _, _, h5⟩ | ⟨h1, h2⟩
  · rw [h1, h5]
    show (decide (((0 + j : Nat) : Int) ≥ 0), _) = _
    rw [decide_eq_true (by omega)]
  · rw [h2, any_none h1]; rfl
/-- The places of those that an earlier one covers. -/
def shadF : List S59 → Nat → List S59 → List Int
  | _, _, [] => []
  | pre, i, r :: t => if pre.any (fun x => coversV x r) then (i : Int) :: shadF (pre ++ [r]) (i + 1) t else shadF (pre ++ [r]) (i + 1) t
/-- What no earlier one covers. -/
def unshF : List S59 → List S59 → List S59
  | _, [] => []
  | pre, r :: t => if pre.any (fun x => coversV x r) then unshF (pre ++ [r]) t else r :: unshF (pre ++ [r]) t
theorem shadF_len : ∀ (t pre : List S59) (i : Nat), (unshF pre t).length + (shadF pre i t).length = t.length
  | [], _, _ => rfl
  | r :: t, pre, i => by
    simp only [shadF, unshF]
    have := shadF_len t (pre ++ [r]) (i + 1)
    split <;> simp only [List.length_cons] <;> omega
theorem unshF_sub : ∀ (t pre : List S59), (unshF pre t).Sublist t
  | [], _ => List.Sublist.refl _
  | r :: t, pre => by
    simp only [unshF]
    split
    · exact (unshF_sub t _).cons r
    · exact (unshF_sub t _).cons_cons r
theorem shadF_ge : ∀ (t pre : List S59) (i : Nat) (y : Int), y ∈ shadF pre i t → (i : Int) ≤ y
  | [], _, _, y, h => by simp [shadF] at h
  | r :: t, pre, i, y, h => by
    simp only [shadF] at h
    split at h
    · rcases List.mem_cons.1 h with rfl | h
      · exact Int.le_refl _
      · have := shadF_ge t _ _ _ h; omega
    · have := shadF_ge t _ _ _ h; omega
theorem shadF_mem : ∀ (t pre : List S59) (i m : Nat) (x : S59), t[m]? = some x → ((shadF pre i t).any (fun y => decide (((i + m : Nat) : Int) = y)) = (pre ++ t.take m).any (fun y => coversV y x))
  | [], _, _, m, x, h => by simp at h
  | r :: t, pre, i, 0, x, h => by
    have hx : r = x := by simpa using h
    subst hx
    simp only [shadF, List.take_zero, List.append_nil, Nat.add_zero]
    cases hc : pre.any (fun y => coversV y r) with
    | true => simp
    | false =>
      rw [if_neg (by simp)]
      refine any_none fun y hy => decide_eq_false fun e => ?_
      have := shadF_ge t _ _ _ hy
      omega
  | r :: t, pre, i, m + 1, x, h => by
    have ih := shadF_mem t (pre ++ [r]) (i + 1) m x (by simpa using h)
    rw [show i + 1 + m = i + (m + 1) by omega, List.append_assoc] at ih
    rw [List.take_succ_cons]
    show _ = (pre ++ ([r] ++ t.take m)).any _
    rw [← ih]
    simp only [shadF]
    split
    · rw [List.any_cons, decide_eq_false (by omega), Bool.false_or]
    · rfl
theorem impl_Shadowed_ok (a c d : Int) (l : List S59) (hl : Sm l) (hp : polV a c d l = true) : Ev (fun k => impl_Shadowed.f k a c d l) (shadF [] 0 l) := by
  have e1 := impl_PolicyOk_ev a c d l hl
  rw [hp] at e1
  unfold impl_Shadowed.f
  refine Ev.bind e1 (Ev.pos rfl ?_)
  have key : ∀ (m i : Nat) (q : List Int), l.length - i = m → i ≤ l.length → q.length ≤ i → Ev (fun k => impl_Shadowed.l0 k a c d l q (i : Int)) (q ++ shadF (l.take i) i (l.drop i)) := by
    obtain ⟨hn, hr⟩ := hl
    intro m
    induction m with
    | zero =>
      intro i q hm hi hq
      rw [List.drop_eq_nil_of_le (by omega)]
      refine Ev.step (fun _ => rfl) ?_
      simp only [impl_Shadowed.l0, shadF, List.append_nil]
      exact Ev.neg (by omega) (Ev.now _)
    | succ m ih =>
      intro i q hm hi hq
      have hx : l[i]? = some l[i] := List.getElem?_eq_getElem (by omega)
      rw [List.drop_eq_getElem_cons (by omega)]
      generalize l[i] = x at hx
      have hb := hr x (List.mem_of_getElem? hx)
      have hs : Sm (l.take i) := ⟨by simp; omega, fun y hy => hr y (List.mem_of_mem_take hy)⟩
      refine Ev.step (fun _ => rfl) ?_
      simp only [impl_Shadowed.l0, shadF]
      rw [rd59 hx, w64 (x := (i : Int) + 1) (by omega) (by omega), Int.toNat_natCast, take_snoc hx]
      refine Ev.pos (by omega) (Ev.pos (by omega) (Ev.pos (by omega) (Ev.bind (ruleHas_ev (l.take i) x hs hb) ?_)))
      cases hc : (l.take i).any (fun y => coversV y x) with
      | true =>
        refine Ev.pos rfl (Ev.pos (by simp; omega) ?_)
        have := ih (i + 1) (q ++ [(i : Int)]) (by omega) (by omega) (by simp; omega)
        rw [if_pos rfl, List.append_cons]
        simpa using this
      | false =>
        refine Ev.neg (by simp) ?_
        rw [if_neg (by simp)]
        have := ih (i + 1) q (by omega) (by omega) (by omega)
        simpa using this
  have := key l.length 0 [] rfl (Nat.zero_le _) (Nat.le_refl _)
  simpa using this
theorem impl_copyPolicy_ev (a c d : Int) (l : List S59) (hl : Sm l) : Ev (fun k => impl_copyPolicy.f k a c d l) (a, c, d, l) := by
  unfold impl_copyPolicy.f
  have key : ∀ (m i : Nat), l.length - i = m → i ≤ l.length → Ev (fun k => impl_copyPolicy.l0 k a c d l (l.take i) (i : Int)) (a, c, d, l) := by
    obtain ⟨hn, hr⟩ := hl
    intro m
    induction m with
    | zero =>
      intro i hm hi
      refine Ev.step (fun _ => rfl) ?_
      simp only [impl_copyPolicy.l0]
      rw [List.take_of_length_le (by omega)]
      exact Ev.neg (by omega) (Ev.now _)
    | succ m ih =>
      intro i hm hi
      have hx : l[i]? = some l[i] := List.getElem?_eq_getElem (by omega)
      generalize l[i] = x at hx
      have hb := hr x (List.mem_of_getElem? hx)
      refine Ev.step (fun _ => rfl) ?_
      simp only [impl_copyPolicy.l0, impl_copyRule.f]
      rw [rd59 hx, w64 (x := (i : Int) + 1) (by omega) (by omega)]
      refine Ev.pos (by omega) (Ev.pos (by omega) (Ev.bindc (x := (x.f0, x.f1, x.f2, x.f3)) (by rw [if_pos (by simp; omega), if_pos (by simp; omega)]; rfl) (Ev.pos (by simp; omega) ?_)))
      have := ih (i + 1) (by omega) (by omega)
      rw [← take_snoc hx] at this
      simpa using this
  have := key l.length 0 rfl (Nat.zero_le _)
  simpa using this
theorem impl_Unshadowed_ok (a c d : Int) (l : List S59) (hl : Sm l) (hp : polV a c d l = true) : Ev (fun k => impl_Unshadowed.f k a c d l) (a, c, d, unshF [] l) := by
  unfold impl_Unshadowed.f
  refine Ev.bind (impl_copyPolicy_ev a c d l hl) (Ev.bind (impl_Shadowed_ok a c d l hl hp) ?_)
  have hsl := shadF_len l [] 0
  have key : ∀ (m i : Nat) (q : List S59), l.length - i = m → i ≤ l.length → q.length ≤ i → Ev (fun k => impl_Unshadowed.l0 k (a, c, d, l) (shadF [] 0 l) q (i : Int)) (a, c, d, q ++ unshF (l.take i) (l.drop i)) := by
    obtain ⟨hn, hr⟩ := hl
    intro m
    induction m with
    | zero =>
      intro i q hm hi hq
      rw [List.drop_eq_nil_of_le (by omega)]
      refine Ev.step (fun _ => rfl) ?_
      simp only [impl_Unshadowed.l0, unshF, List.append_nil]
      exact Ev.neg (by omega) (Ev.now _)
    | succ m ih =>
      intro i q hm hi hq
      have hx : l[i]? = some l[i] := List.getElem?_eq_getElem (by omega)
      rw [List.drop_eq_getElem_cons (by omega)]
      generalize l[i] = x at hx
      have hmem := shadF_mem l [] 0 i x hx
      rw [Nat.zero_add, List.nil_append] at hmem
      refine Ev.step (fun _ => rfl) ?_
      simp only [impl_Unshadowed.l0, unshF]
      rw [rd59 hx, w64 (x := (i : Int) + 1) (by omega) (by omega), take_snoc hx]
      refine Ev.pos (by omega) (Ev.pos (by omega) (Ev.bind (intHas_ev (shadF [] 0 l) (i : Int) (by omega)) ?_))
      rw [hmem]
      cases hc : (l.take i).any (fun y => coversV y x) with
      | true =>
        rw [if_pos rfl]
        exact Ev.pos rfl (by have := ih (i + 1) q (by omega) (by omega) (by omega); simpa using this)
      | false =>
        rw [if_neg (by simp)]
        refine Ev.neg (by simp) (Ev.pos (by simp; omega) ?_)
        have := ih (i + 1) (q ++ [x]) (by omega) (by omega) (by simp; omega)
        rw [List.append_cons]
        simpa using this
  have := key l.length 0 [] rfl (Nat.zero_le _) (Nat.le_refl _)
  simpa using this
/-- How many are left when those go from the end that do what else holds. -/
def lessN (c d : Int) (l : List S59) : Nat → Nat
  | 0 => 0
  | n + 1 => if (l.getD n z59).f2 = c ∧ (l.getD n z59).f3 = d then lessN c d l n else n + 1
theorem lessN_le (c d : Int) (l : List S59) : ∀ n, lessN c d l n ≤ n
  | 0 => Nat.le_refl _
  | n + 1 => by
    simp only [lessN]
    split
    · have := lessN_le c d l n; omega
    · exact Nat.le_refl _
theorem impl_Lessened_ok (a c d : Int) (l : List S59) (hl : Sm l) (hp : polV a c d l = true) : Ev (fun k => impl_Lessened.f k a c d l) (a, c, d, (unshF [] l).take (lessN c d (unshF [] l) (unshF [] l).length)) := by
  unfold impl_Lessened.f
  have e1 := impl_PolicyOk_ev a c d l hl
  rw [hp] at e1
  refine Ev.bind (impl_Unshadowed_ok a c d l hl hp) (Ev.bind e1 (Ev.pos rfl ?_))
  have hsl := shadF_len l [] 0
  have hn := hl.1
  generalize unshF [] l = u at hsl
  have key : ∀ (m : Nat), m ≤ u.length → Ev (fun k => impl_Lessened.l0 k a c d l (a, c, d, u) (u.take m) (m : Int)) (a, c, d, u.take (lessN c d u m)) := by
    intro m
    induction m with
    | zero =>
      intro hm
      refine Ev.step (fun _ => rfl) ?_
      simp only [impl_Lessened.l0, lessN]
      exact Ev.neg (by omega) (Ev.now _)
    | succ m ih =>
      intro hm
      have hx : (u.take (m + 1))[m]? = some (u.getD m z59) := by
        rw [List.getElem?_take, if_pos (by omega), List.getD_eq_getElem?_getD, List.getElem?_eq_getElem (by omega)]; rfl
      have hlen : (u.take (m + 1)).length = m + 1 := by simp; omega
      refine Ev.step (fun _ => rfl) ?_
      simp only [impl_Lessened.l0, lessN]
      rw [w64 (x := ((m + 1 : Nat) : Int) - 1) (by omega) (by omega), show ((m + 1 : Nat) : Int) - 1 = (m : Int) by omega, rd59 hx, Int.toNat_natCast]
      refine Ev.pos (by omega) (Ev.pos (by omega) (Ev.pos (by omega) ?_))
      by_cases h1 : (u.getD m z59).f2 = c
      · by_cases h2 : (u.getD m z59).f3 = d
        · rw [if_pos ⟨h1, h2⟩]
          refine Ev.pos h1 (Ev.pos h2 (Ev.pos (by omega) ?_))
          have := ih (by omega)
          rwa [List.take_take, Nat.min_eq_left (by omega)]
        · rw [if_neg (fun h => h2 h.2)]
          exact Ev.pos h1 (Ev.neg h2 (Ev.now _))
      · rw [if_neg (fun h => h1 h.1)]
        exact Ev.neg h1 (Ev.now _)
  have := key u.length (Nat.le_refl _)
  rwa [List.take_length] at this
def keepV (n : Int) (r : S59) : Bool := !(decide (r.f0 ≠ []) && !(r.f0.any (fun x => decide (n = x))))
theorem onlyClo_ev (r : S59) (n : Int) (h : r.f0.length ≤ 1000) : Ev (fun k => impl_OnlyFor_1.f k r.f0 r.f1 r.f2 r.f3 n) (!keepV n r, n) := by
  unfold impl_OnlyFor_1.f keepV
  rw [Bool.not_not]
  by_cases hz : r.f0 = []
  · exact Ev.neg (by rw [hz]; simp) (Ev.some_ (by rw [hz]; rfl))
  · have hp : 0 < r.f0.length := List.length_pos_iff.2 hz
    exact Ev.pos (by omega) (Ev.bind (intHas_ev r.f0 n (by omega)) (Ev.some_ (by rw [decide_eq_true hz, Bool.true_and])))
theorem delIndex_ev (l : List S59) (n : Int) (hl : Sm l) : Ev (fun k => impl_Rule_70_w42.f k l n) (findV (fun r => !keepV n r) (fun j => ((j : Int), n)) (-1, n) 0 l) := by
  obtain ⟨hn, hr⟩ := hl
  unfold impl_Rule_70_w42.f
  refine find_ev (fun k i => impl_Rule_70_w42.l0 k l n i) l _ _ _ ?_ ?_ ?_
  · refine Ev.step (fun _ => rfl) ?_
    simp only [impl_Rule_70_w42.l0]; exact Ev.neg (by omega) (Ev.now _)
  · intro i x hx hp
    have hi := lt_of hx
    refine Ev.step (fun _ => rfl) ?_
    simp only [impl_Rule_70_w42.l0]
    rw [rd59 hx]
    exact Ev.pos (by omega) (Ev.pos (by omega) (Ev.bind (onlyClo_ev x n (hr x (List.mem_of_getElem? hx)).1) (Ev.pos hp (Ev.now _))))
  · intro i x r hx hp h
    have hi := lt_of hx
    refine Ev.step (fun _ => rfl) ?_
    simp only [impl_Rule_70_w42.l0]
    rw [rd59 hx, w64 (x := (i : Int) + 1) (by omega) (by omega)]
    exact Ev.pos (by omega) (Ev.pos (by omega) (Ev.bind (onlyClo_ev x n (hr x (List.mem_of_getElem? hx)).1) (Ev.neg (fun hh => by rw [hp] at hh; cases hh) h)))
theorem filter_none {α : Type} {p : α → Bool} {l : List α} (h : ∀ y ∈ l, (!p y) = false) : l.filter p = l := List.filter_eq_self.2 fun y hy => by have := h y hy; simpa using this
theorem deleted_ev (l : List S59) (n : Int) (hl : Sm l) : Ev (fun k => impl_Rule_41_w42.f k l n) (l.filter (keepV n), n) := by
  unfold impl_Rule_41_w42.f
  have e1 := delIndex_ev l n hl
  rcases findV_spec (fun r => !keepV n r) (fun j => ((j : Int), n)) (-1, n) l 0 with ⟨_, j, x, h2, h3, h4, h5⟩ | ⟨h1, h2⟩
  · rw [h5, Nat.zero_add] at e1
    refine Ev.bind e1 (Ev.neg (by show ¬ (j : Int) = -1; omega) ?_)
    obtain ⟨hn, hr⟩ := hl
    have hj := lt_of h2
    have key : ∀ (m i p : Nat) (q : List S59), l.length - i = m → i ≤ l.length → p ≤ i → q.length = l.length → q.take p = (l.take i).filter (keepV n) → q.drop i = l.drop i → Ev (fun k => impl_Rule_41_w42.l0 k q n (p : Int) (i : Int)) (l.filter (keepV n), n) := by
      intro m
      induction m with
      | zero =>
        intro i p q hm hi hp hq ht hd
        refine Ev.step (fun _ => rfl) ?_
        simp only [impl_Rule_41_w42.l0]
        rw [Int.toNat_natCast]
        refine Ev.neg (by omega) (Ev.pos (by omega) (Ev.pos (by omega) (Ev.pos (by simp; omega) (Ev.some_ ?_))))
        rw [List.take_append_of_le_length (by simp; omega), List.take_take, Nat.min_self, ht, List.take_of_length_le (by omega)]
      | succ m ih =>
        intro i p q hm hi hp hq ht hd
        have hx : l[i]? = some l[i] := List.getElem?_eq_getElem (by omega)
        have hqx : q[i]? = l[i]? := by
          have := congrArg (fun u : List S59 => u[0]?) hd
          simpa using this
        generalize l[i] = x at hx
        rw [hx] at hqx
        have hb := hr x (List.mem_of_getElem? hx)
        have hdd : q.drop (i + 1) = l.drop (i + 1) := by
          have := congrArg (fun u : List S59 => u.drop 1) hd
          simpa [Nat.add_comm] using this
        refine Ev.step (fun _ => rfl) ?_
        simp only [impl_Rule_41_w42.l0]
        rw [rd59 hqx, w64 (x := (i : Int) + 1) (by omega) (by omega), w64 (x := (p : Int) + 1) (by omega) (by omega), Int.toNat_natCast]
        refine Ev.pos (by omega) (Ev.pos (by omega) (Ev.bind (onlyClo_ev x n hb.1) ?_))
        cases hk : keepV n x with
        | false =>
          refine Ev.pos rfl ?_
          have := ih (i + 1) p q (by omega) (by omega) (by omega) hq (by rw [← take_snoc hx, List.filter_append, ht]; simp [hk]) hdd
          simpa using this
        | true =>
          refine Ev.neg (by simp) (Ev.pos (by omega) (Ev.pos (by omega) ?_))
          have := ih (i + 1) (p + 1) (q.set p x) (by omega) (by omega) (by omega) (by simpa using hq) ?_ ?_
          · simpa using this
          · rw [← take_snoc hx, List.filter_append, ← ht, ← take_snoc (x := x) (by rw [List.getElem?_set, if_pos rfl, if_pos (by omega)]), List.take_set_of_le (by omega)]
            simp [hk]
          · rw [List.drop_set_of_lt (by omega)]; exact hdd
    have := key _ (j + 1) j l rfl (by omega) (by omega) rfl (by rw [← take_snoc h2, List.filter_append, filter_none h4]; simp at h3; simp [h3]) rfl
    show Ev (fun k => impl_Rule_41_w42.l0 k l n (j : Int) (wrap64 ((j : Int) + 1))) _
    rw [w64 (x := (j : Int) + 1) (by omega) (by omega)]
    simpa using this
  · rw [h2] at e1
    exact Ev.bind e1 (Ev.pos rfl (Ev.some_ (by rw [filter_none h1])))
theorem impl_OnlyFor_ok (a c d n : Int) (l : List S59) (hl : Sm l) (hp : polV a c d l = true) : Ev (fun k => impl_OnlyFor.f k a c d l n) (a, c, d, l.filter (keepV n)) := by
  unfold impl_OnlyFor.f
  have e1 := impl_PolicyOk_ev a c d l hl
  rw [hp] at e1
  exact Ev.bind (impl_copyPolicy_ev a c d l hl) (Ev.bind e1 (Ev.pos rfl (Ev.bind (deleted_ev l n hl) (Ev.now _))))
theorem spec_l10Same_self (l : List Int) (hl : l.length ≤ 1048576) : Ev (fun k => spec_l10Same.f k l l) true := by
  unfold spec_l10Same.f
  refine Ev.pos rfl (same_ev (fun k i => spec_l10Same.l0 k l l i) l ?_ ?_)
  · refine Ev.step (fun _ => rfl) ?_
    simp only [spec_l10Same.l0]; exact Ev.neg (by omega) (Ev.now _)
  · intro i x hx h
    have hi := lt_of hx
    refine Ev.step (fun _ => rfl) ?_
    simp only [spec_l10Same.l0]
    rw [w64 (x := (i : Int) + 1) (by omega) (by omega)]
    exact Ev.pos (by omega) (Ev.pos (by omega) (Ev.pos (by omega) (Ev.pos trivial h)))
theorem spec_SamePolicy_self (a c d : Int) (l : List S59) (hl : Sm l) : Ev (fun k => spec_SamePolicy.f k a c d l a c d l) true := by
  obtain ⟨hn, hr⟩ := hl
  unfold spec_SamePolicy.f
  refine Ev.pos rfl (Ev.pos rfl (Ev.pos rfl (Ev.pos rfl (same_ev (fun k i => spec_SamePolicy.l1 k a c d l a c d l i) l ?_ ?_))))
  · refine Ev.step (fun _ => rfl) ?_
    simp only [spec_SamePolicy.l1]; exact Ev.neg (by omega) (Ev.now _)
  · intro i x hx h
    have hi := lt_of hx
    have hb := hr x (List.mem_of_getElem? hx)
    refine Ev.step (fun _ => rfl) ?_
    simp only [spec_SamePolicy.l1]
    rw [rd59 hx]
    refine Ev.pos (by omega) (Ev.pos (by omega) (Ev.pos (by omega) (Ev.bind (spec_l10Same_self x.f0 (by omega)) (Ev.pos rfl (Ev.pos trivial (Ev.pos trivial (Ev.pos trivial ?_)))))))
    refine same_ev (fun k j => spec_SamePolicy.l0 k a c d l a c d l (i : Int) j) x.f1 ?_ ?_
    · refine Ev.step (fun _ => rfl) ?_
      simp only [spec_SamePolicy.l0]
      rw [rd59 hx, w64 (x := (i : Int) + 1) (by omega) (by omega)]
      exact Ev.neg (by omega) h
    · intro j y hy h'
      have hj := lt_of hy
      refine Ev.step (fun _ => rfl) ?_
      simp only [spec_SamePolicy.l0]
      rw [rd59 hx, rd71 hy, w64 (x := (j : Int) + 1) (by omega) (by omega)]
      exact Ev.pos (by omega) (Ev.pos (by omega) (Ev.pos (by omega) (Ev.pos (by simp) h')))
/-! What is left decides alike. -/
theorem covers_holds {a n : Int} {w : List S69} {c r : S59} (h : coversV c r = true) (hr : holdsV a n w r = true) : holdsV a n w c = true := by
  unfold coversV at h
  unfold holdsV at hr ⊢
  rw [Bool.and_eq_true] at h hr ⊢
  obtain ⟨h1, h2⟩ := h
  obtain ⟨r1, r2⟩ := hr
  refine ⟨?_, ?_⟩
  · rw [Bool.or_eq_true] at h2 r1 ⊢
    rcases h2 with h2 | h2
    · exact .inl h2
    · rw [Bool.and_eq_true] at h2
      have hne := of_decide_eq_true h2.2
      right
      rcases r1 with r1 | r1
      · exact absurd (of_decide_eq_true r1) hne
      · obtain ⟨x, hx, hxn⟩ := List.any_eq_true.1 r1
        have := of_decide_eq_true hxn
        subst this
        obtain ⟨y, hy, hyx⟩ := List.any_eq_true.1 (List.all_eq_true.1 h2.1 x hx)
        exact List.any_eq_true.2 ⟨y, hy, decide_eq_true (of_decide_eq_true hyx).symm⟩
  · rw [List.all_eq_true] at h1 r2 ⊢
    intro y hy
    obtain ⟨z, hz, hyz⟩ := List.any_eq_true.1 (h1 y hy)
    rw [ceq_eq hyz]
    exact r2 z hz
theorem first_unsh (a n : Int) (w : List S69) (z : Int) : ∀ (t pre : List S59), (∀ c ∈ pre, holdsV a n w c = false) → firstV a n w z (unshF pre t) = firstV a n w z t
  | [], _, _ => rfl
  | r :: t, pre, h => by
    have next : holdsV a n w r = false → ∀ c ∈ pre ++ [r], holdsV a n w c = false := fun hr c hc => by
      rcases List.mem_append.1 hc with hc | hc
      · exact h c hc
      · rw [List.mem_singleton] at hc; rw [hc]; exact hr
    simp only [unshF]
    cases hc : pre.any (fun x => coversV x r) with
    | true =>
      obtain ⟨x, hx, hxr⟩ := List.any_eq_true.1 hc
      have hr : holdsV a n w r = false := by
        cases hr : holdsV a n w r with
        | false => rfl
        | true => rw [← h x hx, covers_holds hxr hr]
      rw [if_pos rfl, first_unsh a n w z t _ (next hr)]
      simp only [firstV, hr]
      rfl
    | false =>
      rw [if_neg (by simp)]
      simp only [firstV]
      cases hr : holdsV a n w r with
      | true => rfl
      | false => exact first_unsh a n w z t _ (next hr)
theorem first_snoc (a n : Int) (w : List S69) (z : Int) (r : S59) (hz : resV r.f2 r.f3 = z) : ∀ (t : List S59), firstV a n w z (t ++ [r]) = firstV a n w z t
  | [] => by
    simp only [List.nil_append, firstV]
    split
    · exact hz
    · rfl
  | y :: t => by
    simp only [List.cons_append, firstV]
    rw [first_snoc a n w z r hz t]
theorem first_less (a n : Int) (w : List S69) (c d : Int) (l : List S59) : ∀ m, m ≤ l.length → firstV a n w (resV c d) (l.take (lessN c d l m)) = firstV a n w (resV c d) (l.take m)
  | 0, _ => rfl
  | m + 1, hm => by
    simp only [lessN]
    split
    · rename_i h
      have hx : l[m]? = some (l.getD m z59) := by rw [List.getD_eq_getElem?_getD, List.getElem?_eq_getElem (by omega)]; rfl
      rw [first_less a n w c d l m (by omega), ← take_snoc hx, first_snoc _ _ _ _ _ (by rw [h.1, h.2])]
    · rfl
theorem first_only (a n : Int) (w : List S69) (z : Int) : ∀ (t : List S59), firstV a n w z (t.filter (keepV n)) = firstV a n w z t
  | [] => rfl
  | r :: t => by
    rw [List.filter_cons]
    cases hk : keepV n r with
    | true => rw [if_pos rfl]; simp only [firstV]; rw [first_only a n w z t]
    | false =>
      rw [if_neg (by simp), first_only a n w z t]
      have hr : holdsV a n w r = false := by
        unfold keepV at hk
        rw [Bool.not_eq_false', Bool.and_eq_true] at hk
        have h1 := of_decide_eq_true hk.1
        have h2 : r.f0.any (fun x => decide (n = x)) = false := by simpa using hk.2
        have h3 : r.f0.any (fun x => decide (x = n)) = false := by
          rw [← h2]; congr 1; funext x; rw [Bool.eq_iff_iff]; simp; exact eq_comm
        unfold holdsV
        rw [decide_eq_false h1, h3]; rfl
      simp only [firstV, hr]
      rfl
/-! What is left is left alone. -/
def noSh : List S59 → List S59 → Prop
  | _, [] => True
  | pre, r :: t => pre.any (fun x => coversV x r) = false ∧ noSh (pre ++ [r]) t
theorem noSh_unsh : ∀ (t pre acc : List S59), (∀ c ∈ acc, c ∈ pre) → noSh acc (unshF pre t)
  | [], _, _, _ => trivial
  | r :: t, pre, acc, h => by
    simp only [unshF]
    cases hc : pre.any (fun x => coversV x r) with
    | true => rw [if_pos rfl]; exact noSh_unsh t _ _ (fun c hc => List.mem_append_left _ (h c hc))
    | false =>
      rw [if_neg (by simp)]
      refine ⟨any_none fun y hy => ?_, noSh_unsh t _ _ (fun c hc => ?_)⟩
      · have := List.any_eq_false.1 hc y (h y hy)
        simpa using this
      · rcases List.mem_append.1 hc with hc | hc
        · exact List.mem_append_left _ (h c hc)
        · exact List.mem_append_right _ hc
theorem noSh_shad : ∀ (t pre : List S59) (i : Nat), noSh pre t → shadF pre i t = []
  | [], _, _, _ => rfl
  | r :: t, pre, i, h => by
    simp only [shadF]
    rw [h.1, if_neg (by simp)]
    exact noSh_shad t _ _ h.2
theorem noSh_un : ∀ (t pre : List S59), noSh pre t → unshF pre t = t
  | [], _, _ => rfl
  | r :: t, pre, h => by
    simp only [unshF]
    rw [h.1, if_neg (by simp), noSh_un t _ h.2]
theorem noSh_take : ∀ (t pre : List S59) (m : Nat), noSh pre t → noSh pre (t.take m)
  | [], _, m, _ => by rw [List.take_nil]; trivial
  | r :: t, pre, 0, h => trivial
  | r :: t, pre, m + 1, h => by rw [List.take_succ_cons]; exact ⟨h.1, noSh_take t _ m h.2⟩
theorem less_again (c d : Int) (l : List S59) : ∀ m, m ≤ l.length → lessN c d (l.take (lessN c d l m)) (lessN c d l m) = lessN c d l m
  | 0, _ => rfl
  | m + 1, hm => by
    simp only [lessN]
    split
    · exact less_again c d l m (by omega)
    · rename_i h
      simp only [lessN]
      have e : (l.take (m + 1)).getD m z59 = l.getD m z59 := by
        rw [List.getD_eq_getElem?_getD, List.getD_eq_getElem?_getD, List.getElem?_take, if_pos (by omega)]
      rw [e, if_neg h]
theorem Sm.sub {l m : List S59} (h : Sm l) (s : m.Sublist l) : Sm m := ⟨by have := s.length_le; have := h.1; omega, fun r hr => h.2 r (s.subset hr)⟩
theorem polV_sub {a c d : Int} {l m : List S59} (h : polV a c d l = true) (s : m.Sublist l) : polV a c d m = true := by
  unfold polV polRest at h ⊢
  simp only [Bool.and_eq_true] at h ⊢
  obtain ⟨h1, h2, h3, h4⟩ := h
  have := s.length_le
  have h5 := of_decide_eq_true h4
  exact ⟨List.all_eq_true.2 fun r hr => List.all_eq_true.1 h1 r (s.subset hr), h2, h3, decide_eq_true (by omega)⟩
theorem allI_intro {α : Type} {p : Nat → α → Bool} : ∀ (xs : List α) (i : Nat), (∀ j x, xs[j]? = some x → p (i + j) x = true) → allI p i xs = true
  | [], _, _ => rfl
  | x :: r, i, h => by
    simp only [allI, Bool.and_eq_true]
    exact ⟨h 0 x rfl, allI_intro r (i + 1) fun j y hy => by have := h (j + 1) y (by simpa using hy); rwa [show i + (j + 1) = i + 1 + j by omega] at this⟩
theorem nums_snoc {q : List Int} {t x : Int} (h : allI (numP q) 0 q = true) (hq : ∀ y ∈ q, 0 ≤ y ∧ y < t) (h0 : 0 ≤ t) (hx : t ≤ x) (hb : x ≤ 4294967295) : allI (numP (q ++ [x])) 0 (q ++ [x]) = true := by
  refine allI_intro _ 0 fun j y hy => ?_
  rw [Nat.zero_add]
  rcases Nat.lt_or_ge j q.length with hj | hj
  · rw [List.getElem?_append_left hj] at hy
    have h1 := allI_true q 0 h j y hy
    rw [Nat.zero_add] at h1
    unfold numP at h1 ⊢
    have e : (q ++ [x]).getD (j - 1) 0 = q.getD (j - 1) 0 := by rw [List.getD_eq_getElem?_getD, List.getD_eq_getElem?_getD, List.getElem?_append_left (by omega)]
    rw [e]; exact h1
  · have hj' : j = q.length := by
      have := (List.getElem?_eq_some_iff.1 hy).1
      simp at this; omega
    subst hj'
    rw [List.getElem?_append_right (Nat.le_refl _), Nat.sub_self] at hy
    have hy' : x = y := by simpa using hy
    subst hy'
    unfold numP
    rw [decide_eq_true (by omega : 0 ≤ x ∧ x ≤ 4294967295), Bool.true_and]
    by_cases h1 : q.length = 0
    · rw [decide_eq_true h1]; rfl
    · have e : (q ++ [x]).getD (q.length - 1) 0 ∈ q := by
        rw [List.getD_eq_getElem?_getD, List.getElem?_append_left (by omega), List.getElem?_eq_getElem (by omega)]
        exact List.getElem_mem _
      have := hq _ e
      rw [decide_eq_true (by omega : (q ++ [x]).getD (q.length - 1) 0 < x), Bool.or_true]
abbrev CondR := Int × Int × Int × Int × Int × Int × List Int × Int × Int
theorem l09Cond_tot (b : List Int) (i s : Int) (h : Rd b i) : Tot (fun _ => spec_l09Cond.f b i s) (fun r : CondR => ∃ (c : S71) (i' s' : Int), r = (c.f0, c.f1.f0, c.f1.f1, c.f2, c.f3.f0, c.f3.f1, b, i', s') ∧ Rd b i' ∧ condOkV c = true) := by
  unfold spec_l09Cond.f
  refine Tot.below h (by omega) (fun v i1 s1 h1 v0 v1 => Tot.below h1 (by omega) (fun u i2 s2 h2 u0 u1 => Tot.bind (l04Wide_tot b i2 s2 h2) ?_))
  rintro _ ⟨x, y, i3, s3, rfl, h3, hx, hy⟩
  have fin : ∀ (m1 m2 i' s' : Int), Rd b i' → (0 ≤ m1 ∧ m1 ≤ 4294967295) → (0 ≤ m2 ∧ m2 ≤ 4294967295) → ∃ (c : S71) (i'' s'' : Int), (v, m1, m2, wrap64 (1 + u), x, y, b, i', s') = (c.f0, c.f1.f0, c.f1.f1, c.f2, c.f3.f0, c.f3.f1, b, i'', s'') ∧ Rd b i'' ∧ condOkV c = true := fun m1 m2 i' s' hr g1 g2 => by
    refine ⟨⟨v, ⟨m1, m2⟩, wrap64 (1 + u), ⟨x, y⟩⟩, i', s', rfl, hr, ?_⟩
    unfold condOkV wideV
    dsimp only
    rw [w64 (x := 1 + u) (by omega) (by omega), decide_eq_true (by omega : 0 ≤ v ∧ v ≤ 2), decide_eq_true g1, decide_eq_true g2, decide_eq_true hx, decide_eq_true hy, decide_eq_true (by omega : 1 ≤ 1 + u ∧ 1 + u ≤ 6)]
    rfl
  refine Tot.once h3 (by omega) (fun o i4 s4 h4 => Tot.both (fun _ => Tot.bind (l04Wide_tot b i4 s4 h4) ?_) (fun _ => Tot.now (fin _ _ _ _ h4 (by omega) (by omega))))
  rintro _ ⟨x', y', i5, s5, rfl, h5, hx', hy'⟩
  exact Tot.now (fin _ _ _ _ h5 hx' hy')
abbrev MadeR := List Int × List S71 × Int × Int × List Int × Int × Int
def MadeP (b : List Int) (r : MadeR) : Prop := ∃ (q : S59) (i' s' : Int), r = (q.f0, q.f1, q.f2, q.f3, b, i', s') ∧ Rd b i' ∧ ruleV q = true ∧ q.f0.length ≤ 3 ∧ q.f1.length ≤ 3
theorem l09Made_conds (b : List Int) (t1 : Int × List Int × Int × Int) (d i s : Int) (ns : List Int) (h : Rd b i) (hn : ns.length ≤ 3) (hns : allI (numP ns) 0 ns = true) (ha : actV t1.1 d = true) : Tot (fun k => spec_l09Made.l1 k t1 d ns b i s [] 0) (MadeP b) := by
  refine Tot.up (fun k (t : Int × Int × List S71) j => spec_l09Made.l1 k t1 d ns b t.1 t.2.1 t.2.2 j) 3 (fun j t => Rd b t.1 ∧ t.2.2.length = j ∧ t.2.2.all condOkV = true) ?_ (i, s, []) ⟨h, rfl, rfl⟩
  rintro j ⟨i3, s3, q⟩ hj ⟨hr, hl, hq⟩ next
  replace hr : Rd b i3 := hr
  replace hl : q.length = j := hl
  replace hq : q.all condOkV = true := hq
  refine Tot.step (fun _ => rfl) ?_
  simp only [spec_l09Made.l1]
  rw [w64 (x := (j : Int) + 1) (by omega) (by omega)]
  refine Tot.below hr (by omega) (fun v i4 s4 h4 v0 v1 => Tot.both (fun hlt => ?_) (fun hge => Tot.now ⟨⟨ns, q, t1.1, d⟩, _, _, rfl, h4, ?_, hn, by show q.length ≤ 3; omega⟩))
  · refine Tot.bind (l09Cond_tot b i4 s4 h4) ?_
    rintro _ ⟨c, i5, s5, rfl, h5, hc⟩
    refine Tot.grd (by simp; omega) ?_
    have hlt' : (j : Int) < v := hlt
    exact next (i5, s5, q ++ [c]) (by omega) ⟨h5, by simp; omega, by show (q ++ [c]).all condOkV = true; rw [List.all_append, hq]; simp [hc]⟩
  · unfold ruleV ruleRest
    dsimp only
    rw [hns, hq, decide_eq_true (by omega : ns.length ≤ 4), decide_eq_true (by omega : q.length ≤ 3), ha]
    rfl
theorem l09Made_tot (b : List Int) (i s : Int) (h : Rd b i) : Tot (fun k => spec_l09Made.f k b i s) (MadeP b) := by
  unfold spec_l09Made.f
  have j0 : ∀ (a d i1 s1 : Int) (t1 : Int × List Int × Int × Int), t1.1 = a → Rd b i1 → actV a d = true → Tot (fun k => spec_l09Made.j0 k t1 b i1 s1 d) (MadeP b) := by
    intro a d i1 s1 t1 ht h1 ha
    refine Tot.step (fun _ => rfl) ?_
    simp only [spec_l09Made.j0]
    refine Tot.below h1 (by omega) (fun v i2 s2 h2 v0 v1 => ?_)
    refine Tot.up (fun k (t : Int × Int × List Int × Int) j => spec_l09Made.l0 k t1 d (v, b, i2, s2) b t.1 t.2.1 t.2.2.1 t.2.2.2 j) 3 (fun j t => Rd b t.1 ∧ t.2.2.1.length = j ∧ allI (numP t.2.2.1) 0 t.2.2.1 = true ∧ (∀ y ∈ t.2.2.1, 0 ≤ y ∧ y < t.2.2.2) ∧ 0 ≤ t.2.2.2 ∧ t.2.2.2 ≤ 3 * (j : Int)) ?_ (i2, s2, [], 0) ⟨h2, rfl, rfl, fun y hy => by simp at hy, by first | omega | (dsimp only; omega), by first | omega | (dsimp only; omega)⟩
    rintro j ⟨i3, s3, q, at'⟩ hj ⟨hr, hl, hq, hy, ha0, ha1⟩ next
    replace hr : Rd b i3 := hr
    replace hl : q.length = j := hl
    replace hq : allI (numP q) 0 q = true := hq
    replace hy : ∀ y ∈ q, 0 ≤ y ∧ y < at' := hy
    replace ha0 : 0 ≤ at' := ha0
    replace ha1 : at' ≤ 3 * (j : Int) := ha1
    refine Tot.step (fun _ => rfl) ?_
    simp only [spec_l09Made.l0]
    rw [w64 (x := (j : Int) + 1) (by omega) (by omega), w64 (x := v - 1) (by omega) (by omega), w64 (x := at' + 1) (by omega) (by omega)]
    refine Tot.both (fun hlt => ?_) (fun hge => l09Made_conds b t1 d i3 s3 q hr (by omega) hq (by rw [ht]; exact ha))
    refine Tot.below hr (by omega) (fun u i4 s4 h4 u0 u1 => ?_)
    rw [w64 (x := at' + 1 + u) (by omega) (by omega), w64 (x := at' + 1 + u - 1) (by omega) (by omega)]
    refine Tot.grd (by simp; omega) ?_
    have hlt' : (j : Int) < v - 1 := hlt
    refine next (i4, s4, q ++ [at' + 1 + u - 1], at' + 1 + u) (by omega) ⟨h4, by simp; omega, nums_snoc hq hy ha0 (by omega) (by omega), fun y hy' => ?_, by first | omega | (dsimp only; omega), by first | omega | (dsimp only; omega)⟩
    show 0 ≤ y ∧ y < at' + 1 + u
    rcases List.mem_append.1 hy' with hy' | hy'
    · have := hy y hy'; omega
    · rw [List.mem_singleton] at hy'; omega
  refine Tot.pick h (by simp) (fun v i1 s1 h1 hv => Tot.both (fun h2 => Tot.pick h1 (by simp) (fun u i2 s2 h3 hu => j0 v u i2 s2 _ rfl h3 ?_)) (fun h2 => j0 v 0 i1 s1 _ rfl h1 ?_))
  · have h2' : v = 2 := h2
    simp at hu
    unfold actV
    rw [decide_eq_true (by omega : 0 ≤ v ∧ v ≤ 5), decide_eq_true (by omega : 0 ≤ u ∧ u ≤ 65535)]; rfl
  · simp at hv
    unfold actV
    rw [decide_eq_true (by omega : 0 ≤ v ∧ v ≤ 5)]; rfl
abbrev PolR := Int × Int × Int × List S59 × List Int × Int × Int
theorem l09Policy_tot (b : List Int) (i s : Int) (h : Rd b i) : Tot (fun k => spec_l09Policy.f k b i s) (fun r : PolR => ∃ (a c d : Int) (l : List S59) (i' s' : Int), r = (a, c, d, l, b, i', s') ∧ Rd b i' ∧ Sm l ∧ l.length ≤ 5 ∧ polV a c d l = true) := by
  unfold spec_l09Policy.f
  have j0 : ∀ (a d i1 s1 : Int), Rd b i1 → actV a d = true → Tot (fun k => spec_l09Policy.j0 k (a, b, i1, s1) d) (fun r : PolR => ∃ (a c d : Int) (l : List S59) (i' s' : Int), r = (a, c, d, l, b, i', s') ∧ Rd b i' ∧ Sm l ∧ l.length ≤ 5 ∧ polV a c d l = true) := by
    intro a d i1 s1 h1 ha
    refine Tot.step (fun _ => rfl) ?_
    simp only [spec_l09Policy.j0]
    refine Tot.up (fun k (t : Int × Int × List S59) j => spec_l09Policy.l0 k (a, b, i1, s1) d b t.1 t.2.1 t.2.2 j) 5 (fun j t => Rd b t.1 ∧ t.2.2.length = j ∧ (∀ r ∈ t.2.2, r.f0.length ≤ 1000 ∧ r.f1.length ≤ 1000) ∧ t.2.2.all ruleV = true) ?_ (i1, s1, []) ⟨h1, rfl, fun r hr => by simp at hr, rfl⟩
    rintro j ⟨i3, s3, q⟩ hj ⟨hr, hl, hb, hq⟩ next
    replace hr : Rd b i3 := hr
    replace hl : q.length = j := hl
    replace hb : ∀ r ∈ q, r.f0.length ≤ 1000 ∧ r.f1.length ≤ 1000 := hb
    replace hq : q.all ruleV = true := hq
    refine Tot.step (fun _ => rfl) ?_
    simp only [spec_l09Policy.l0]
    rw [w64 (x := (j : Int) + 1) (by omega) (by omega)]
    refine Tot.below hr (by omega) (fun v i4 s4 h4 v0 v1 => Tot.both (fun hlt => ?_) (fun hge => Tot.now ⟨62, a, d, q, i4, s4, rfl, h4, ⟨by omega, hb⟩, by omega, ?_⟩))
    · refine Tot.bind (l09Made_tot b i4 s4 h4) ?_
      rintro _ ⟨c, i5, s5, rfl, h5, hc, g1, g2⟩
      refine Tot.grd (by simp; omega) ?_
      have hlt' : (j : Int) < v := hlt
      refine next (i5, s5, q ++ [c]) (by omega) ⟨h5, by simp; omega, fun r hr' => ?_, by show (q ++ [c]).all ruleV = true; rw [List.all_append, hq]; simp [hc]⟩
      rcases List.mem_append.1 hr' with hr' | hr'
      · exact hb r hr'
      · rw [List.mem_singleton] at hr'; subst hr'; exact ⟨by omega, by omega⟩
    · unfold polV polRest
      rw [hq, ha, decide_eq_true (by omega : q.length ≤ 10)]
      rfl
  refine Tot.pick h (by simp) (fun v i1 s1 h1 hv => ?_)
  simp at hv
  refine Tot.both (fun h2 => j0 v 1 i1 s1 h1 ?_) (fun h2 => j0 v 0 i1 s1 h1 ?_)
  · unfold actV
    rw [decide_eq_true (by omega : 0 ≤ v ∧ v ≤ 5)]; rfl
  · unfold actV
    rw [decide_eq_true (by omega : 0 ≤ v ∧ v ≤ 5)]; rfl
theorem spec_l09Copy_ev (a c d : Int) (l : List S59) (hl : Sm l) : Ev (fun k => spec_l09Copy.f k a c d l) (a, c, d, l) := by
  unfold spec_l09Copy.f
  have key : ∀ (m i : Nat), l.length - i = m → i ≤ l.length → Ev (fun k => spec_l09Copy.l0 k a c d l (l.take i) (i : Int)) (a, c, d, l) := by
    obtain ⟨hn, hr⟩ := hl
    intro m
    induction m with
    | zero =>
      intro i hm hi
      refine Ev.step (fun _ => rfl) ?_
      simp only [spec_l09Copy.l0]
      rw [List.take_of_length_le (by omega)]
      exact Ev.neg (by omega) (Ev.now _)
    | succ m ih =>
      intro i hm hi
      have hx : l[i]? = some l[i] := List.getElem?_eq_getElem (by omega)
      generalize l[i] = x at hx
      have hb := hr x (List.mem_of_getElem? hx)
      refine Ev.step (fun _ => rfl) ?_
      simp only [spec_l09Copy.l0]
      rw [rd59 hx, w64 (x := (i : Int) + 1) (by omega) (by omega)]
      refine Ev.pos (by omega) (Ev.pos (by omega) (Ev.pos (by simp; omega) (Ev.pos (by simp; omega) (Ev.pos (by simp; omega) ?_))))
      have := ih (i + 1) (by omega) (by omega)
      rw [← take_snoc hx] at this
      simpa using this
  have := key l.length 0 rfl (Nat.zero_le _)
  simpa using this
theorem l24Policy_tot (b : List Int) (i s : Int) (h : Rd b i) : Tot (fun k => spec_l24Policy.f k b i s) (fun r : PolR => ∃ (a c d : Int) (l : List S59) (i' s' : Int), r = (a, c, d, l, b, i', s') ∧ Rd b i' ∧ Sm l) := by
  unfold spec_l24Policy.f
  refine Tot.bind (l09Policy_tot b i s h) ?_
  rintro _ ⟨a, c, d, l, i1, s1, rfl, h1, hs, hl5, hp⟩
  refine Tot.bind1 (spec_l09Copy_ev a c d l hs) ?_
  refine Tot.up (fun k (t : Int × Int × List S59) j => spec_l24Policy.l0 k (a, c, d, l) b t.1 t.2.1 t.2.2 j) 4 (fun j t => Rd b t.1 ∧ t.2.2.length ≤ 5 + j ∧ Sm t.2.2) ?_ (i1, s1, l) ⟨h1, by first | omega | (dsimp only; omega), hs⟩
  rintro j ⟨i3, s3, q⟩ hj ⟨hr, hl, hb⟩ next
  replace hr : Rd b i3 := hr
  replace hl : q.length ≤ 5 + j := hl
  replace hb : Sm q := hb
  refine Tot.step (fun _ => rfl) ?_
  simp only [spec_l24Policy.l0]
  refine Tot.below hr (by omega) (fun v i4 s4 h4 v0 v1 => ?_)
  have out : Tot (fun _ => some (a, c, d, q, b, i4, s4)) (fun r : PolR => ∃ (a c d : Int) (l : List S59) (i' s' : Int), r = (a, c, d, l, b, i', s') ∧ Rd b i' ∧ Sm l) := Tot.now ⟨a, c, d, q, i4, s4, rfl, h4, hb⟩
  refine Tot.both (fun hlt => Tot.both (fun hp0 => Tot.both (fun hp1 => ?_) (fun _ => out)) (fun _ => out)) (fun _ => out)
  have hlt' : (j : Int) < v := hlt
  refine Tot.bind1 (spec_l09Copy_ev a c d q hb) (Tot.below h4 (by omega) (fun x i5 s5 h5 x0 x1 => Tot.grd x0 (Tot.grd x1 (Tot.below h5 (by omega) (fun y i6 s6 h6 y0 y1 => ?_)))))
  obtain ⟨m, rfl⟩ := Int.eq_ofNat_of_zero_le x0
  have hx : q[m]? = some q[m] := List.getElem?_eq_getElem (by omega)
  generalize q[m] = u at hx
  have hu := hb.get hx
  have j0 : ∀ (ns : List Int) (cs : List S71) (e f i' s' : Int), Rd b i' → ns.length ≤ 1000 → cs.length ≤ 1000 → Tot (fun k => spec_l24Policy.j0 k (a, c, d, l) q (j : Int) b i' s' ns cs e f) (fun r : PolR => ∃ (a c d : Int) (l : List S59) (i' s' : Int), r = (a, c, d, l, b, i', s') ∧ Rd b i' ∧ Sm l) := by
    intro ns cs e f i' s' hr' g1 g2
    refine Tot.step (fun _ => rfl) ?_
    simp only [spec_l24Policy.j0]
    rw [w64 (x := (j : Int) + 1) (by omega) (by omega)]
    refine Tot.grd (by simp; omega) (next (i', s', q ++ [⟨ns, cs, e, f⟩]) (by omega) ⟨hr', by simp; omega, by simp; omega, fun r hr2 => ?_⟩)
    rcases List.mem_append.1 hr2 with hr2 | hr2
    · exact hb.2 r hr2
    · rw [List.mem_singleton] at hr2; subst hr2; exact ⟨g1, g2⟩
  rw [rd59 hx]
  have hd : wrap64 ((u.f1.length : Int).tdiv 2) = ((u.f1.length / 2 : Nat) : Int) := by
    rw [Int.tdiv_eq_ediv_of_nonneg (by omega), w64 (by omega) (by omega)]; omega
  rw [hd]
  refine Tot.both (fun _ => Tot.grd (by omega) (Tot.grd (by omega) (Tot.grd (by simp; omega) (j0 _ _ _ _ _ _ h6 hu.1 (by simp; omega))))) (fun _ => Tot.both (fun _ => j0 _ _ _ _ _ _ h6 (by simp) hu.2) (fun _ => Tot.both (fun _ => j0 _ _ _ _ _ _ h6 hu.1 hu.2) (fun _ => j0 _ _ _ _ _ _ h6 hu.1 hu.2)))
abbrev TwiceR := Int × Int × Int × List S59 × Int × Int × List S69
theorem drawTwice_tot (b : List Int) (hb : b.length ≤ 1048576) : Tot (fun k => spec_DrawTwice.f k b) (fun r : TwiceR => ∃ (a c d : Int) (l : List S59) (x n : Int) (w : List S69), r = (a, c, d, l, x, n, w) ∧ Sm l ∧ polV a c d l = true ∧ w.length = 3) := by
  unfold spec_DrawTwice.f
  have hr : Rd b 0 := ⟨hb, by omega, by omega⟩
  obtain ⟨s0, n0⟩ := l01New_ev b hb
  refine Tot.bind1 n0 (Tot.bind (l04Call_tot b 0 s0 hr) ?_)
  rintro _ ⟨x, y, w, i1, s1, rfl, h1, hw, _⟩
  refine Tot.below h1 (by omega) (fun v i2 s2 h2 v0 v1 => Tot.bind (l24Policy_tot b i2 s2 h2) ?_)
  rintro _ ⟨a, c, d, l, i3, s3, rfl, h3, hs⟩
  have j0 : ∀ (a c d i' s' : Int) (l : List S59), Rd b i' → Sm l → polV a c d l = true → Tot (fun k => spec_DrawTwice.j0 k (x, y, w, b, i1, s1) (v, b, i2, s2) b i' s' a c d l) (fun r : TwiceR => ∃ (a c d : Int) (l : List S59) (x n : Int) (w : List S69), r = (a, c, d, l, x, n, w) ∧ Sm l ∧ polV a c d l = true ∧ w.length = 3) := by
    intro a c d i' s' l hr' hs' hp'
    refine Tot.step (fun _ => rfl) ?_
    simp only [spec_DrawTwice.j0]
    exact Tot.once hr' (by omega) (fun o i4 s4 h4 => Tot.both (fun _ => Tot.now ⟨a, c, d, l, _, _, w, rfl, hs', hp', hw⟩) (fun _ => Tot.now ⟨a, c, d, l, _, _, w, rfl, hs', hp', hw⟩))
  refine Tot.bind1 (spec_PolicyOk_ev a c d l hs) ?_
  cases hp : polV a c d l with
  | true => exact Tot.pos rfl (j0 _ _ _ _ _ _ h3 hs hp)
  | false =>
    refine Tot.neg (by simp) (Tot.bind (l09Policy_tot b i3 s3 h3) ?_)
    rintro _ ⟨a', c', d', l', i4, s4, rfl, h4, hs', _, hp'⟩
    exact j0 _ _ _ _ _ _ h4 hs' hp'
theorem pure : Pure := by
  intro l hl
  refine Ev.rounds ?_
  unfold laws_FnLess.f
  refine Ev.bindc rfl ?_
  by_cases hbig : (l.length : Int) > 1048576
  · exact Ev.pos (by simpa using hbig) (Ev.now _)
  refine Ev.neg (by simpa using hbig) ?_
  obtain ⟨_, e1, a, c, d, p, x, n, w, rfl, hs, hp, hw⟩ := drawTwice_tot l (by omega)
  refine Ev.bind e1 ?_
  have su := unshF_sub p []
  have hsu := hs.sub su
  have hpu := polV_sub hp su
  have hns : noSh [] (unshF [] p) := noSh_unsh p [] [] (fun c hc => by simp at hc)
  have hu1 := noSh_un _ [] hns
  have hu2 := noSh_shad _ [] 0 hns
  have sl := (List.take_sublist (lessN c d (unshF [] p) (unshF [] p).length) (unshF [] p))
  have hsl := hsu.sub sl
  have hpl := polV_sub hpu sl
  have hnl := noSh_take _ [] (lessN c d (unshF [] p) (unshF [] p).length) hns
  have hl1 := noSh_un _ [] hnl
  have sf := List.filter_sublist (p := keepV n) (l := p)
  have f1 := first_unsh x n w (resV c d) p [] (fun c hc => by simp at hc)
  have f2 := first_less x n w c d (unshF [] p) (unshF [] p).length (Nat.le_refl _)
  rw [List.take_length, f1] at f2
  have f3 := first_only x n w (resV c d) p
  have hlen := shadF_len p [] 0
  have hln := lessN_le c d (unshF [] p) (unshF [] p).length
  have hagain := less_again c d (unshF [] p) (unshF [] p).length (Nat.le_refl _)
  have e2 := spec_Decide_ok a c d p x n w hs (by omega) hp
  have e3 := impl_Unshadowed_ok a c d p hs hp
  have e4 := impl_Lessened_ok a c d p hs hp
  have e5 := impl_OnlyFor_ok a c d n p hs hp
  have e6 := impl_Shadowed_ok a c d p hs hp
  have e8 := spec_Decide_ok a c d _ x n w hsu (by omega) hpu
  have e12 := impl_Unshadowed_ok a c d _ hsu hpu
  have e14 := impl_Shadowed_ok a c d _ hsu hpu
  have hl0 := hs.1
  generalize unshF [] p = u at *
  rw [hu1] at e12
  rw [hu2] at e14
  have e7 := spec_PolicyOk_ev a c d _ hsl
  rw [hpl] at e7
  have e9 := spec_Decide_ok a c d _ x n w hsl (by omega) hpl
  have e10 := spec_Decide_ok a c d _ x n w (hs.sub sf) (by omega) (polV_sub hp sf)
  have e11 := impl_Lessened_ok a c d _ hsl hpl
  have hbl : (u.take (lessN c d u u.length)).length = lessN c d u u.length := by rw [List.length_take]; omega
  rw [hl1, hbl, hagain, List.take_take, Nat.min_self] at e11
  rw [f1] at e8
  rw [f2] at e9
  rw [f3] at e10
  have e13 := spec_SamePolicy_self a c d _ hsl
  have e15 := spec_SamePolicy_self a c d _ hsu
  refine Ev.bind e2 (Ev.bind e3 (Ev.bind e4 (Ev.bind e5 (Ev.bind e6 (Ev.bind e7 (Ev.pos rfl (Ev.bind e8 (Ev.pos rfl (Ev.bind e9 (Ev.pos rfl (Ev.bind e10 (Ev.pos rfl ?_))))))))))))
  refine Ev.pos ?_ (Ev.pos ?_ (Ev.bind e11 (Ev.bind e13 (Ev.pos rfl (Ev.bind e12 (Ev.bind e15 (Ev.pos rfl (Ev.bind e14 (Ev.now _)))))))))
  · dsimp only
    rw [w64 (by omega) (by omega)]; omega
  · dsimp only
    rw [hbl]; omega
end Go.Proofs.Ytlkcnldfnhclbaa.PFnLess
namespace Go.Proofs.Ytlkcnldfnhclbaa
/-- The given statement. -/
theorem fnLess_holds : Rows.FnLessSaid := AFnLess.row PFnLess.pure
#print axioms fnLess_holds
end Go.Proofs.Ytlkcnldfnhclbaa
