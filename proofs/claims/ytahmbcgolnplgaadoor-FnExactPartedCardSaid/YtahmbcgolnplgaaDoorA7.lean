/- The abstract machine, seventh part: a call, out of its contract. No claim lies here. -/
import Derived.Test.YtahmbcgolnplgaaDoorA6
set_option linter.unusedVariables false
set_option linter.unusedSimpArgs false
namespace Go.Proofs.YtahmbcgolnplgaaDoorA
open Go

/-! Leaves changed, at each depth. -/
def mp1 (g : AV → AV) : AV → AV
  | .agg l => .agg (l.map g)
  | x => g x
def mp2 (g : AV → AV) : AV → AV
  | .fn f caps => .fn f (caps.map (mp1 g))
  | x => g x
def mp3 (g : AV → AV) : AV → AV
  | .agg l => .agg (l.map (mp2 g))
  | x => mp2 g x
def mp4 (g : AV → AV) : AV → AV
  | .tup l => .tup (l.map (mp3 g))
  | x => mp3 g x
def mpB (g : AV → AV) : Blk → Blk
  | .box t l => .box t (l.map (mp2 g))
  | .drow true _ _ _ _ => .gone
  | b => b
def fle (z up : Fl) : Bool := match up, z with
  | .o, _ => true
  | .n, .n => true
  | .u, .u => true
  | _, _ => false
def zipL (f : AV → AV → AV) : List AV → List AV → List AV
  | _, [] => []
  | [], x :: xs => f .junk x :: zipL f [] xs
  | y :: ys, x :: xs => f y x :: zipL f ys xs
/-- What a caller's value is for the callee, where its contract wants y. -/
def vw0 (s : S) (I : List Nat) (up : Fl) (y x : AV) : AV := match x with
  | .row b => (match y with
    | .sl _ _ _ => (match I.contains b, gB s.bk b with
      | false, .row _ sz xs => .sl .o sz xs
      | false, .drow false _ _ sz xs => .sl .o sz xs
      | _, _ => .junk)
    | _ => .row b)
  | .sub b sz lo n => (match y with
    | .sl _ _ _ => (match I.contains b, gB s.bk b with
      | false, .row _ sz' xs => (match Nat.beq sz' sz with
        | true => .sl .o sz ((xs.drop lo).take n)
        | false => .junk)
      | _, _ => .junk)
    | _ => .junk)
  | .sl z sz xs => (match y with
    | .sl .u _ _ => (match fle z up with
      | true => .sl .u sz xs
      | false => .junk)
    | _ => .sl .o sz xs)
  | .rp z x j => .rp .o x j
  | .lit (.slice none 0 0) => (match y with
    | .sl z sz _ => (match Nat.blt 0 sz with
      | true => .sl (match z with | .u => .u | _ => .o) sz []
      | false => .lit (.slice none 0 0))
    | _ => .lit (.slice none 0 0))
  | x => x
def aggL : AV → List AV
  | .agg l => l
  | _ => []
def fnL : AV → List AV
  | .fn _ l => l
  | _ => []
def boxL : Blk → List AV
  | .box _ l => l
  | _ => []
def vw1 (s : S) (I : List Nat) (up : Fl) (y x : AV) : AV := match x with
  | .agg l => .agg (zipL (vw0 s I up) (aggL y) l)
  | x => vw0 s I up y x
def vw2 (s : S) (I : List Nat) (up : Fl) (y x : AV) : AV := match x with
  | .fn f l => .fn f (zipL (vw1 s I up) (fnL y) l)
  | x => vw0 s I up y x
def vw3 (s : S) (I : List Nat) (up : Fl) (y x : AV) : AV := match x with
  | .agg l => .agg (zipL (vw2 s I up) (aggL y) l)
  | x => vw2 s I up y x
def vwB (s : S) (I : List Nat) (up : Fl) (y x : Blk) : Blk := match x with
  | .box t l => .box t (zipL (vw2 s I up) (boxL y) l)
  | .drow true _ _ _ _ => .gone
  | x => x
/-- What the callee's value is for the caller. -/
def outl (up : Fl) (m : Nat → Nat) : AV → AV
  | .sl .u sz xs => .sl up sz xs
  | .sl .n sz xs => .sl .n sz xs
  | .sl .o _ _ => .junk
  | .rp .u x j => .rp up x j
  | .rp .n x j => .rp .n x j
  | .rp .o _ _ => .junk
  | x => ren0 m x
/-- The rows that are looked at. -/
def rows0 : AV → List Nat
  | .row b => [b]
  | .sub b _ _ _ => [b]
  | _ => []
def rows1 : AV → List Nat
  | .agg l => l.flatMap rows0
  | x => rows0 x
def rows2 : AV → List Nat
  | .fn _ l => l.flatMap rows1
  | x => rows0 x
def rows3 : AV → List Nat
  | .agg l => l.flatMap rows2
  | x => rows2 x
def rowsB : Blk → List Nat
  | .box _ l => l.flatMap rows2
  | _ => []

theorem zip_fa {Rx Ry : AV → Value → Prop} {f : AV → AV → AV} : ∀ {ys xs : List AV} {vs : List Value}, Fa Rx xs vs → (∀ x, x ∈ xs → ∀ y v, Rx x v → Ry (f y x) v) → Fa Ry (zipL f ys xs) vs
  | _, [], vs, h, _ => by have := h.unnil; subst this; simp only [zipL]; exact Fa.nil
  | y :: ys, x :: xs, vs, h, hf => by
    obtain ⟨v, vs', rfl, h1, h2⟩ := h.uncons
    exact Fa.cons (hf x List.mem_cons_self y v h1) (zip_fa h2 (fun x hx => hf x (List.mem_cons_of_mem _ hx)))
  | [], x :: xs, vs, h, hf => by
    obtain ⟨v, vs', rfl, h1, h2⟩ := h.uncons
    exact Fa.cons (hf x List.mem_cons_self .junk v h1) (zip_fa h2 (fun x hx => hf x (List.mem_cons_of_mem _ hx)))

section
variable {Zf Zf' : Fl → Nat → Prop} {w : World} {ρ : Nat → Value} {bk : Nat → Blk} {s : S} {I : List Nat} {up : Fl}
/-- What the view asks. -/
structure Vw (Zf Zf' : Fl → Nat → Prop) (w : World) (ρ : Nat → Value) (bk : Nat → Blk) (I : List Nat) (up : Fl) : Prop where
  row : ∀ b e sz xs, b ∉ I → bk b = .row e sz xs → RepV (Zf' .o) w (.sl .o sz xs) (ρ b)
  drow : ∀ b ds e sz xs, b ∉ I → bk b = .drow false ds e sz xs → RepV (Zf' .o) w (.sl .o sz xs) (ρ b)
  sub : ∀ b e sz xs lo n A N c, b ∉ I → bk b = .row e sz xs → ρ b = .slice A N c → lo + n ≤ N → RepV (Zf' .o) w (.sl .o sz ((xs.drop lo).take n)) (sliced A lo (lo + n) c sz)
  upz : ∀ z k, fle z up = true → Zf z k → Zf' .u k
  old : ∀ z k, Zf z k → Zf' .o k
theorem vw0_lit {y : AV} {u : Value} : vw0 s I up y (.lit u) = .lit u ∨ (u = .slice none 0 0 ∧ ∃ z sz, 0 < sz ∧ vw0 s I up y (.lit u) = .sl z sz []) := by
  by_cases hu : u = .slice none 0 0
  · subst hu
    show (match y with | .sl z sz _ => (match Nat.blt 0 sz with | true => AV.sl (match z with | .u => .u | _ => .o) sz [] | false => .lit (.slice none 0 0)) | _ => .lit (.slice none 0 0)) = _ ∨ (_ ∧ ∃ z' sz', 0 < sz' ∧ (match y with | .sl z sz _ => (match Nat.blt 0 sz with | true => AV.sl (match z with | .u => .u | _ => .o) sz [] | false => .lit (.slice none 0 0)) | _ => .lit (.slice none 0 0)) = AV.sl z' sz' [])
    cases y with
    | sl z sz xs =>
      cases hb : Nat.blt 0 sz with
      | true => cases z <;> exact .inr ⟨rfl, _, sz, by simpa using hb, by simp only [hb]; rfl⟩
      | false => exact .inl (by simp only [hb])
    | _ => exact .inl rfl
  · left
    unfold vw0
    split
    all_goals first | rfl | skip
    all_goals (rename_i h; cases h)
    all_goals first | rfl | exact absurd rfl hu
theorem repV_nil {Z : Nat → Prop} {z : Fl} {sz : Nat} (h : 0 < sz) : RepV Z w (.sl z sz []) (.slice none 0 0) :=
  .sl (⟨0, 0, none⟩ : Addr) (fun _ _ => undef) (by simp) (by simp) h (fun h => by simp at h) (fun j x h => by simp at h) (fun j x i lv h => by simp at h) (fun j x i lv h => by simp at h)
theorem vw0_ok (H : Vw Zf Zf' w ρ bk I up) {y x : AV} {v : Value} (hb : ∀ b ∈ rows0 x, bk b = gB s.bk b) (h : RepC0 Zf w ρ bk x v) : RepC0 Zf' w ρ bk (vw0 s I up y x) v := by
  cases x with
  | row b =>
    obtain ⟨h1, rfl, h3⟩ := h
    have keep : RepC0 Zf' w ρ bk (.row b) (ρ b) := ⟨h1, rfl, h3⟩
    have jk : RepC0 Zf' w ρ bk .junk (ρ b) := h3
    show RepC0 Zf' w ρ bk (match y with | .sl _ _ _ => (match I.contains b, gB s.bk b with | false, .row _ sz xs => AV.sl .o sz xs | false, .drow false _ _ sz xs => AV.sl .o sz xs | _, _ => .junk) | _ => .row b) (ρ b)
    cases y with
    | sl z' sz' xs' =>
      simp only
      have e := hb b (List.mem_singleton.2 rfl)
      cases hc : I.contains b with
      | true => exact jk
      | false =>
        cases hg : gB s.bk b with
        | row e' sz xs => exact H.row b e' sz xs (by simpa using hc) (e.trans hg)
        | drow op ds e' sz xs => cases op with
          | false => exact H.drow b ds e' sz xs (by simpa using hc) (e.trans hg)
          | true => exact jk
        | _ => exact jk
    | _ => exact keep
  | sub b sz lo n =>
    obtain ⟨h1, A, N, c, h2, h3, rfl⟩ := h
    have jk : RepC0 Zf' w ρ bk .junk (sliced A lo (lo + n) c sz) := rfl
    show RepC0 Zf' w ρ bk (match y with | .sl _ _ _ => (match I.contains b, gB s.bk b with | false, .row _ sz' xs => (match Nat.beq sz' sz with | true => AV.sl .o sz ((xs.drop lo).take n) | false => .junk) | _, _ => .junk) | _ => .junk) (sliced A lo (lo + n) c sz)
    cases y with
    | sl z' sz1 xs' =>
      simp only
      have e := hb b (List.mem_singleton.2 rfl)
      cases hc : I.contains b with
      | true => exact jk
      | false =>
        cases hg : gB s.bk b with
        | row e' sz' xs =>
          simp only
          cases hz : Nat.beq sz' sz with
          | false => exact jk
          | true =>
            have := beq_t hz
            subst this
            exact H.sub b e' sz' xs lo n A N c (by simpa using hc) (e.trans hg) h2 h3
        | _ => exact jk
    | _ => exact jk
  | sl z sz xs =>
    have h0 : RepC0 Zf' w ρ bk (.sl .o sz xs) v := RepV.flag (RepV.move h (fun _ _ => rfl) (H.old z))
    have h1 : v.oneCell' = true := RepV.one h
    show RepC0 Zf' w ρ bk (match y with | .sl .u _ _ => (match fle z up with | true => AV.sl .u sz xs | false => .junk) | _ => .sl .o sz xs) v
    cases y with
    | sl z' sz' xs' =>
      cases z' with
      | u =>
        simp only
        cases hf : fle z up with
        | true => exact RepV.flag (RepV.move h (fun _ _ => rfl) (H.upz z · hf))
        | false => exact h1
      | _ => exact h0
    | _ => exact h0
  | rp z x j =>
    obtain ⟨ad, f, h1, h2, h3⟩ := h
    exact ⟨ad, f, h1, H.old z _ h2, fun i lv hi => ⟨(h3 i lv hi).1, RepV.move (h3 i lv hi).2 (fun _ _ => rfl) (H.old z)⟩⟩
  | junk => exact h
  | lit u =>
    rcases vw0_lit (s := s) (I := I) (up := up) (y := y) (u := u) with e | ⟨e1, z, sz, h0, e2⟩
    · rw [e]; exact h
    · rw [e2, h.1, e1]; exact repV_nil h0
  | box b o => exact h
  | elp b sz i j => exact h
  | agg l => exact h.elim
  | tup l => exact h.elim
  | fn f c => exact h.elim
theorem vw1_ok (H : Vw Zf Zf' w ρ bk I up) {y x : AV} {v : Value} (hb : ∀ b ∈ rows1 x, bk b = gB s.bk b) (h : RepA0 Zf w ρ bk x v) : RepA0 Zf' w ρ bk (vw1 s I up y x) v := by
  rcases h with h | ⟨l, cs, rfl, rfl, h3⟩
  · have hx : ∀ l, x ≠ .agg l := by rintro l rfl; exact h
    have e : vw1 s I up y x = vw0 s I up y x := by cases x <;> first | rfl | exact absurd rfl (hx _)
    have e2 : rows1 x = rows0 x := by cases x <;> first | rfl | exact absurd rfl (hx _)
    rw [e]
    exact .inl (vw0_ok H (e2 ▸ hb) h)
  · exact .inr ⟨_, cs, rfl, rfl, zip_fa h3 (fun x hx y v hv => vw0_ok H (fun b hb' => hb b (List.mem_flatMap.2 ⟨x, hx, hb'⟩)) hv)⟩
theorem vw2_ok (H : Vw Zf Zf' w ρ bk I up) {y x : AV} {v : Value} (hb : ∀ b ∈ rows2 x, bk b = gB s.bk b) (h : RepC Zf w ρ bk x v) : RepC Zf' w ρ bk (vw2 s I up y x) v := by
  rcases h with h | ⟨f, l, cs, rfl, rfl, h3⟩
  · have hx : ∀ f l, x ≠ .fn f l := by rintro f l rfl; exact h
    have e : vw2 s I up y x = vw0 s I up y x := by cases x <;> first | rfl | exact absurd rfl (hx _ _)
    have e2 : rows2 x = rows0 x := by cases x <;> first | rfl | exact absurd rfl (hx _ _)
    rw [e]
    exact .inl (vw0_ok H (e2 ▸ hb) h)
  · exact .inr ⟨f, _, cs, rfl, rfl, zip_fa h3 (fun x hx y v hv => vw1_ok H (fun b hb' => hb b (List.mem_flatMap.2 ⟨x, hx, hb'⟩)) hv)⟩
theorem vw3_ok (H : Vw Zf Zf' w ρ bk I up) {y x : AV} {v : Value} (hb : ∀ b ∈ rows3 x, bk b = gB s.bk b) (h : RepA Zf w ρ bk x v) : RepA Zf' w ρ bk (vw3 s I up y x) v := by
  rcases h with h | ⟨l, cs, rfl, rfl, h3⟩
  · have hx : ∀ l, x ≠ .agg l := by
      rintro l rfl
      rcases h with h | ⟨_, _, _, h, _⟩
      · exact h
      · cases h
    have e : vw3 s I up y x = vw2 s I up y x := by cases x <;> first | rfl | exact absurd rfl (hx _)
    have e2 : rows3 x = rows2 x := by cases x <;> first | rfl | exact absurd rfl (hx _)
    rw [e]
    exact .inl (vw2_ok H (e2 ▸ hb) h)
  · exact .inr ⟨_, cs, rfl, rfl, zip_fa h3 (fun x hx y v hv => vw2_ok H (fun b hb' => hb b (List.mem_flatMap.2 ⟨x, hx, hb'⟩)) hv)⟩
theorem vw3_okT (H : Vw Zf Zf' w ρ bk I up) {y x : AV} {v : Value} (hb : ∀ b ∈ rows3 x, bk b = gB s.bk b) (h : RepT Zf w ρ bk x v) (ht : ∀ l, x ≠ .tup l) : RepT Zf' w ρ bk (vw3 s I up y x) v := by
  rcases h with rfl | rfl | h | ⟨l, cs, rfl, _⟩
  · exact .inl rfl
  · rcases vw0_lit (s := s) (I := I) (up := up) (y := y) (u := v) with e | ⟨e1, z, sz, h0, e2⟩
    · refine .inr (.inl ?_); show vw0 s I up y (.lit v) = .lit v; exact e
    · subst e1
      show RepT Zf' w ρ bk (vw0 s I up y (.lit (.slice none 0 0))) _
      rw [e2]; exact rep_of_C (.inl (repV_nil h0))
  · exact .inr (.inr (.inl (vw3_ok H hb h)))
  · exact absurd rfl (ht l)
theorem vwB_ok (H : Vw Zf Zf' w ρ bk I up) (hn : ∀ k, Zf .n k → Zf' .n k) {y x : Blk} {v : Value} (hb : ∀ b ∈ rowsB x, bk b = gB s.bk b) (h : BlkOk Zf w ρ bk v x) : BlkOk Zf' w ρ bk v (vwB s I up y x) := by
  cases x with
  | fresh => trivial
  | gone => trivial
  | box t l =>
    obtain ⟨g, cs, h1, h2, h3⟩ := h
    exact ⟨g, cs, h1, h2, zip_fa h3 (fun x hx y v hv => vw2_ok H (fun b hb' => hb b (List.mem_flatMap.2 ⟨x, hx, hb'⟩)) hv)⟩
  | row e sz xs => exact RowOk.move h (fun k hk => ⟨rfl, hn k hk⟩) (fun _ _ => rfl)
  | drow op ds e sz xs => cases op <;> trivial
end

/-! And back. -/
section
variable {Zf Zf' : Fl → Nat → Prop} {w : World} {ρ ρ' : Nat → Value} {bk bk' : Nat → Blk} {m : Nat → Nat} {up : Fl}
structure Bw (Zf Zf' : Fl → Nat → Prop) (ρ ρ' : Nat → Value) (bk bk' : Nat → Blk) (m : Nat → Nat) (up : Fl) : Prop where
  new : ∀ k, Zf .n k → Zf' .n k
  old : ∀ k, Zf .u k → Zf' up k
  ids : ∀ b, bk b ≠ .fresh → bk' (m b) ≠ .fresh ∧ ρ' (m b) = ρ b
theorem outl_ok (H : Bw Zf Zf' ρ ρ' bk bk' m up) {x : AV} {v : Value} (h : RepC0 Zf w ρ bk x v) : RepC0 Zf' w ρ' bk' (outl up m x) v := by
  cases x with
  | row b => obtain ⟨h1, h2, h3⟩ := h; exact ⟨(H.ids b h1).1, h2.trans (H.ids b h1).2.symm, h3⟩
  | box b o => obtain ⟨h1, g, h2, h3⟩ := h; exact ⟨(H.ids b h1).1, g, (H.ids b h1).2.trans h2, h3⟩
  | sub b sz lo n => obtain ⟨h1, A, N, c, h2, h3⟩ := h; exact ⟨(H.ids b h1).1, A, N, c, (H.ids b h1).2.trans h2, h3⟩
  | elp b sz i j => obtain ⟨h1, g, n, c, h2, h3⟩ := h; exact ⟨(H.ids b h1).1, g, n, c, (H.ids b h1).2.trans h2, h3⟩
  | sl z sz xs =>
    cases z with
    | o => exact RepV.one h
    | n => exact RepV.move h (fun _ _ => rfl) H.new
    | u => exact RepV.flag (RepV.move h (fun _ _ => rfl) H.old)
  | rp z x j =>
    obtain ⟨ad, f, h1, h2, h3⟩ := h
    cases z with
    | o => rw [h1]; rfl
    | n => exact ⟨ad, f, h1, H.new _ h2, fun i lv hi => ⟨(h3 i lv hi).1, RepV.move (h3 i lv hi).2 (fun _ _ => rfl) H.new⟩⟩
    | u => exact ⟨ad, f, h1, H.old _ h2, fun i lv hi => ⟨(h3 i lv hi).1, RepV.move (h3 i lv hi).2 (fun _ _ => rfl) H.old⟩⟩
  | junk => exact h
  | lit v => exact h
  | agg l => exact h.elim
  | tup l => exact h.elim
  | fn f c => exact h.elim
theorem out1_ok (H : Bw Zf Zf' ρ ρ' bk bk' m up) {x : AV} {v : Value} (h : RepA0 Zf w ρ bk x v) : RepA0 Zf' w ρ' bk' (mp1 (outl up m) x) v := by
  rcases h with h | ⟨l, cs, rfl, rfl, h3⟩
  · have e : mp1 (outl up m) x = outl up m x := by cases x <;> first | rfl | exact h.elim
    rw [e]; exact .inl (outl_ok H h)
  · exact .inr ⟨_, cs, rfl, rfl, Fa.map_left.2 (h3.imp fun _ _ h => outl_ok H h)⟩
theorem out2_ok (H : Bw Zf Zf' ρ ρ' bk bk' m up) {x : AV} {v : Value} (h : RepC Zf w ρ bk x v) : RepC Zf' w ρ' bk' (mp2 (outl up m) x) v := by
  rcases h with h | ⟨f, l, cs, rfl, rfl, h3⟩
  · have e : mp2 (outl up m) x = outl up m x := by cases x <;> first | rfl | exact h.elim
    rw [e]; exact .inl (outl_ok H h)
  · exact .inr ⟨f, _, cs, rfl, rfl, Fa.map_left.2 (h3.imp fun _ _ h => out1_ok H h)⟩
theorem out3_ok (H : Bw Zf Zf' ρ ρ' bk bk' m up) {x : AV} {v : Value} (h : RepA Zf w ρ bk x v) : RepA Zf' w ρ' bk' (mp3 (outl up m) x) v := by
  rcases h with h | ⟨l, cs, rfl, rfl, h3⟩
  · have e : mp3 (outl up m) x = mp2 (outl up m) x := by
      cases x <;> first | rfl | (rcases h with h | ⟨_, _, _, h, _⟩; exact h.elim; cases h)
    rw [e]; exact .inl (out2_ok H h)
  · exact .inr ⟨_, cs, rfl, rfl, Fa.map_left.2 (h3.imp fun _ _ h => out2_ok H h)⟩
theorem out4_ok (H : Bw Zf Zf' ρ ρ' bk bk' m up) {x : AV} {v : Value} (h : RepT Zf w ρ bk x v) : RepT Zf' w ρ' bk' (mp4 (outl up m) x) v := by
  rcases h with rfl | rfl | h | ⟨l, cs, rfl, rfl, h3⟩
  · exact .inl rfl
  · exact .inr (.inl rfl)
  · have e : mp4 (outl up m) x = mp3 (outl up m) x := by
      cases x <;> first | rfl | (rcases h with h | ⟨_, _, h, _⟩; rcases h with h | ⟨_, _, _, h, _⟩; exact h.elim; cases h; cases h)
    rw [e]; exact .inr (.inr (.inl (out3_ok H h)))
  · exact .inr (.inr (.inr ⟨_, cs, rfl, rfl, Fa.map_left.2 (h3.imp fun _ _ h => out3_ok H h)⟩))
theorem outB_ok (H : Bw Zf Zf' ρ ρ' bk bk' m up) {x : Blk} {v : Value} (h : BlkOk Zf w ρ bk v x) : BlkOk Zf' w ρ' bk' v (mpB (outl up m) x) := by
  cases x with
  | fresh => trivial
  | gone => trivial
  | box t l =>
    obtain ⟨g, cs, h1, h2, h3⟩ := h
    exact ⟨g, cs, h1, h2, Fa.map_left.2 (h3.imp fun _ _ h => out2_ok H h)⟩
  | row e sz xs => exact RowOk.move h (fun k hk => ⟨rfl, H.new k hk⟩) (fun _ _ => rfl)
  | drow op ds e sz xs => cases op <;> trivial
end

/-- A row that is read is a slice that nobody writes to. -/
theorem row_sl {Zn Z : Nat → Prop} {w : World} {e sz : Nat} {v : Value} {xs : List AV} {z : Fl} (h : RowOk Zn w e sz v xs) (hz : ∀ k, Zn k → Z k) (ho : ∀ k, refB v = some k → Z k) : RepV Z w (.sl z sz xs) v := by
  obtain ⟨h0, inner, hown, hl, hr⟩ := h
  rcases hown.2 with ⟨rfl, hn⟩ | ⟨g, cap, cur, rfl, hg, hh, hnc, hcm, _⟩
  · have hx : xs = [] := List.eq_nil_of_length_eq_zero hn
    subst hx
    exact .sl (A := none) (c := 0) ⟨0, 0, none⟩ (fun _ _ => undef) (by simp) (by simp) h0 (fun h => absurd h (by simp)) (fun j x h => by simp at h) (fun j x i lv h => by simp at h) (fun j x i lv h => by simp at h)
  · have hcell : ∀ j x i lv, xs[j]? = some x → x.leaves[i]? = some lv → ∃ u, w.cell? (Addr.add ⟨g, 0, none⟩ (j * sz + i)) = some u ∧ RepV Z w lv u := by
      intro j x i lv hj hi
      obtain ⟨u, hu, hv⟩ := hr j x i lv hj hi
      exact ⟨u, hown.cells (g := g) rfl _ u hu, hv.move (fun _ _ => rfl) hz⟩
    refine .sl ⟨g, 0, none⟩ (fun j i => (w.cell? (Addr.add ⟨g, 0, none⟩ (j * sz + i))).getD undef) hnc (Nat.le_trans hnc (by simp only [maxLen] at hcm; omega)) h0 (fun _ => ⟨rfl, ho g rfl⟩) hl (fun j x i lv hj hi => ?_) (fun j x i lv hj hi => ?_)
    · obtain ⟨u, hu, _⟩ := hcell j x i lv hj hi
      rw [hu]; rfl
    · obtain ⟨u, hu, hv⟩ := hcell j x i lv hj hi
      rw [hu]; exact hv
theorem Lv.rep {Zn Z : Nat → Prop} {w : World} {t : Tr} {d : Ds} {x : AV} {u : Value} (h : Lv Zn w t d x u) (hz : ∀ k, Zn k → Z k) (ht : ∀ p k, t p = some k → Z k) : RepV Z w x u := by
  induction h with
  | v h => exact h.move (fun _ _ => rfl) hz
  | junk h => exact .junk h
  | @own t e ds z sz xs u inner g h0 ho hr hl hc hv ih =>
    rcases ho.2 with ⟨rfl, hn⟩ | ⟨k, cap, cur, rfl, hg, hh, hnc, hcm, _⟩
    · have hx : xs = [] := List.eq_nil_of_length_eq_zero hn
      subst hx
      exact repV_nil h0
    · refine .sl ⟨k, 0, none⟩ g hnc (Nat.le_trans hnc (by simp only [maxLen] at hcm; omega)) h0 (fun _ => ⟨rfl, ht [] k (hr ▸ rfl)⟩) hl (fun j x i lv hj hi => ho.cells (g := k) rfl _ _ (hc j x i lv hj hi)) (fun j x i lv hj hi => ih j x i lv hj hi (fun p k h => ht _ k h))
/-- A closed deep row that is read. -/
theorem rowD_sl {Zf : Fl → Nat → Prop} {Z : Nat → Prop} {w : World} {ρ : Nat → Value} {bk : Nat → Blk} {ds : List Ds} {t : Tr} {e sz : Nat} {v : Value} {xs : List AV} {z : Fl} (h : RowD Zf w ρ bk false ds t e sz v xs) (hz : ∀ k, Zf .n k → Z k) (hv : ∀ k, refB v = some k → Z k) (ht : ∀ i p k, t (i :: p) = some k → Z k) : RepV Z w (.sl z sz xs) v := by
  obtain ⟨h0, inner, ho, hl, hr⟩ := h
  rcases ho.2 with ⟨rfl, hn⟩ | ⟨k, cap, cur, rfl, hg, hh, hnc, hcm, _⟩
  · have hx : xs = [] := List.eq_nil_of_length_eq_zero hn
    subst hx
    exact repV_nil h0
  · have hcell : ∀ j x i lv, xs[j]? = some x → x.leaves[i]? = some lv → ∃ u, w.cell? (Addr.add ⟨k, 0, none⟩ (j * sz + i)) = some u ∧ RepV Z w lv u := by
      intro j x i lv hj hi
      obtain ⟨u, hu, hv⟩ := hr j x i lv hj hi
      refine ⟨u, ho.cells (g := k) rfl _ u hu, ?_⟩
      rcases hv with hv | ⟨c, h1, _⟩
      · exact hv.rep hz (fun p k h => ht _ p k h)
      · cases h1
    refine .sl ⟨k, 0, none⟩ (fun j i => (w.cell? (Addr.add ⟨k, 0, none⟩ (j * sz + i))).getD undef) hnc (Nat.le_trans hnc (by simp only [maxLen] at hcm; omega)) h0 (fun _ => ⟨rfl, hv k rfl⟩) hl (fun j x i lv hj hi => ?_) (fun j x i lv hj hi => ?_)
    · obtain ⟨u, hu, _⟩ := hcell j x i lv hj hi
      rw [hu]; rfl
    · obtain ⟨u, hu, hv⟩ := hcell j x i lv hj hi
      rw [hu]; exact hv
theorem sub_sl {Zn Z : Nat → Prop} {w : World} {e sz lo n N c : Nat} {A : Option Addr} {xs : List AV} {z : Fl} (h : RowOk Zn w e sz (.slice A N c) xs) (hle : lo + n ≤ N) (hz : ∀ k, Zn k → Z k) (ho : ∀ k, refB (.slice A N c) = some k → Z k) : RepV Z w (.sl z sz ((xs.drop lo).take n)) (sliced A lo (lo + n) c sz) := by
  have hN : N = xs.length ∧ N ≤ c := by
    obtain ⟨_, inner, hown, _⟩ := h
    rcases hown.2 with ⟨e1, e2⟩ | ⟨g, cap, cur, e1, _, _, hnc, _⟩
    · injection e1 with _ e3 e4; omega
    · injection e1 with _ e3 e4; omega
  have hlen : ((xs.drop lo).take n).length = n := by simp; omega
  have hs := row_sl (z := z) h hz ho
  have get : ∀ {j x}, ((xs.drop lo).take n)[j]? = some x → xs[lo + j]? = some x := by
    intro j x hj
    rw [List.getElem?_take] at hj
    split at hj
    · rwa [List.getElem?_drop] at hj
    · cases hj
  have e1 : sliced A lo (lo + n) c sz = .slice (if c = lo then A else A.map (·.add (lo * sz))) ((xs.drop lo).take n).length (c - lo) := by
    unfold sliced
    rw [hlen, Nat.add_sub_cancel_left]
  rw [e1]
  cases hs with
  | @sl _ _ _ _ _ ad f hc hm hz' hA hl hcell hrep =>
    by_cases hn : n = 0
    · subst hn
      exact .sl ad f (by rw [hlen]; omega) (by rw [hlen]; omega) hz' (fun h => by rw [hlen] at h; omega) (fun j x hj => hl _ _ (get hj)) (fun j x i lv hj => by simp at hj) (fun j x i lv hj => by simp at hj)
    · have hA' := hA (by omega)
      refine .sl (ad.add (lo * sz)) (fun j i => f (lo + j) i) (by rw [hlen]; omega) (by rw [hlen]; omega) hz' (fun _ => ⟨?_, by rw [add_block]; exact hA'.2⟩) (fun j x hj => hl _ _ (get hj)) (fun j x i lv hj hi => ?_) (fun j x i lv hj hi => hrep _ _ _ _ (get hj) hi)
      · rw [if_neg (by omega), hA'.1]; rfl
      · rw [add_add, ← hcell _ _ _ _ (get hj) hi]
        congr 2
        rw [Nat.add_mul]
        omega
theorem vwB_live {s : S} {I : List Nat} {up : Fl} {y x : Blk} (h : live (vwB s I up y x) = true) : live x = true := by
  cases x with
  | drow op ds e sz xs => rfl
  | _ => exact h
theorem vwB_isD {s : S} {I : List Nat} {up : Fl} {y x : Blk} (h : isD (vwB s I up y x) = true) : isD x = true := by
  cases x with
  | drow op ds e sz xs => rfl
  | _ => exact h
theorem vwB_drow {s : S} {I : List Nat} {up : Fl} {y x : Blk} {op : Bool} {ds : List Ds} {e sz : Nat} {xs : List AV} (h : vwB s I up y x = .drow op ds e sz xs) : op = false ∧ x = .drow false ds e sz xs := by
  cases x with
  | drow op' e' sz' xs' => cases op' with
    | true => cases h
    | false => injection h with h1 h2 h3 h4 h5; subst h1; subst h2; subst h3; subst h4; subst h5; exact ⟨rfl, rfl⟩
  | _ => cases h
theorem mpB_live {g : AV → AV} {x : Blk} (h : live (mpB g x) = true) : live x = true := by
  cases x with
  | drow op ds e sz xs => rfl
  | _ => exact h
theorem mpB_isD {g : AV → AV} {x : Blk} (h : isD (mpB g x) = true) : isD x = true := by
  cases x with
  | drow op ds e sz xs => rfl
  | _ => exact h
theorem mpB_drow {g : AV → AV} {x : Blk} {op : Bool} {ds : List Ds} {e sz : Nat} {xs : List AV} (h : mpB g x = .drow op ds e sz xs) : op = false ∧ x = .drow false ds e sz xs := by
  cases x with
  | drow op' e' sz' xs' => cases op' with
    | true => cases h
    | false => injection h with h1 h2 h3 h4 h5; subst h1; subst h2; subst h3; subst h4; subst h5; exact ⟨rfl, rfl⟩
  | _ => cases h
theorem mpB_fresh {g : AV → AV} {x : Blk} (h : x ≠ .fresh) : mpB g x ≠ .fresh := by
  cases x with
  | drow op ds e sz xs => cases op <;> exact fun h => by cases h
  | fresh => exact absurd rfl h
  | _ => exact fun h => by cases h
theorem renB_drow {m : Nat → Nat} {x : Blk} {op : Bool} {ds : List Ds} {e sz : Nat} {xs : List AV} (h : x = .drow op ds e sz xs) : ∃ ys, renB m x = .drow op ds e sz ys ∧ (op = false → ys = xs) := by
  subst h
  cases op with
  | false => exact ⟨_, rfl, fun _ => rfl⟩
  | true => exact ⟨_, rfl, fun h => by cases h⟩
/-- A closed deep row says nothing of other blocks. -/
theorem RowD.closed {Zf Zf' : Fl → Nat → Prop} {w : World} {ρ ρ' : Nat → Value} {bk bk' : Nat → Blk} {ds : List Ds} {t : Tr} {e sz : Nat} {v : Value} {xs : List AV} (h : RowD Zf w ρ bk false ds t e sz v xs) (hz : ∀ k, Zf .n k → Zf' .n k) : RowD Zf' w ρ' bk' false ds t e sz v xs := by
  obtain ⟨h0, inner, ho, hl, hc⟩ := h
  refine ⟨h0, inner, ho, hl, fun j x i lv hj hi => ?_⟩
  obtain ⟨u, hu, hv⟩ := hc j x i lv hj hi
  refine ⟨u, hu, ?_⟩
  rcases hv with hv | ⟨c, h1, _⟩
  · exact .inl (hv.move (fun k hk => ⟨rfl, hz k hk⟩) (fun _ _ _ => rfl))
  · cases h1
end Go.Proofs.YtahmbcgolnplgaaDoorA
