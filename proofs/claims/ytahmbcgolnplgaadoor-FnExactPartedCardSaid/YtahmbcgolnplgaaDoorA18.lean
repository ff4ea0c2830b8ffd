/- The abstract machine, eighteenth part: rounds enough; what is read at a type; a law's call. No claim lies here. -/
import Derived.Test.YtahmbcgolnplgaaDoorA17
import Derived.Deep.Slices
import Derived.WideShapes
import Derived.ChangeArms
import Derived.Carry
import Derived.Below
set_option linter.unusedVariables false
set_option linter.unusedSimpArgs false
namespace Go.Proofs.YtahmbcgolnplgaaDoorA
open Go Go.RowKit Go.WideShapes

/-! Rounds enough. -/
def Ev {α : Type} (g : Nat → Option α) (r : α) : Prop := ∃ K, ∀ k, K ≤ k → g k = some r
theorem Ev.now {α : Type} (r : α) : Ev (fun _ => some r) r := ⟨0, fun _ _ => rfl⟩
theorem Ev.rounds {α : Type} {g : Nat → Option α} {r : α} (h : Ev g r) : ∃ k, g k = some r := h.elim fun K h => ⟨K, h K (Nat.le_refl _)⟩
theorem Ev.bind {α β : Type} {g : Nat → Option α} {f : Nat → α → Option β} {a : α} {r : β} (h : Ev g a) (k : Ev (fun n => f n a) r) : Ev (fun n => (g n).bind (f n)) r := by
  obtain ⟨K, h⟩ := h
  obtain ⟨K', k⟩ := k
  exact ⟨max K K', fun n hn => by simp only [h n (by omega), Option.bind_some]; exact k n (by omega)⟩
theorem Ev.step {α : Type} {g f : Nat → Option α} {r : α} (h : ∀ k, g (k + 1) = f k) (k : Ev f r) : Ev g r := by
  obtain ⟨K, k⟩ := k
  refine ⟨K + 1, fun n hn => ?_⟩
  obtain ⟨m, rfl⟩ : ∃ m, n = m + 1 := ⟨n - 1, by omega⟩
  rw [h]
  exact k m (by omega)
theorem Ev.congr {α : Type} {g f : Nat → Option α} {r : α} (h : ∀ k, g k = f k) (k : Ev f r) : Ev g r := k.elim fun K k => ⟨K, fun n hn => (h n).trans (k n hn)⟩

/-! What is read at a type. -/
def Zall (w : World) (k : Nat) : Prop := k < w.heap.size
def OkN (k : IntKind) (n : Int) : Prop := (Lit.int k n).wf = true
def OkL {α : Type} (ok : α → Prop) (l : List α) : Prop := l.length ≤ 9223372036854775807 ∧ ∀ a ∈ l, ok a
def OkT {α : Type} (_ : α) : Prop := True
def OkS (s : ByteArray) : Prop := s.size ≤ 9223372036854775807
/-- Whatever reads at type t means an a whose leaves are f a, and a is so. -/
def Opens (P : Program) (t : TypeId) {α : Type} (f : α → List AV) (ok : α → Prop) : Prop :=
  (∀ a, (f a).length = P.cellsOf t) ∧ ∀ (H : Type) (enc : TypeId × Value → H) (w : World) (base : Nat) (sp : Nat → Bool) (held : Bool) (fuel : Nat) (cs : List Value) (x : DataW H × List MemPlace),
    DataW.trod enc P w base sp held fuel t cs = some x → ∃ a, Fa (RepV (Zall w) w) (f a) cs ∧ ok a
def OpensF (P : Program) (off n : Nat) (fs : List Field) {α : Type} (f : α → List AV) (ok : α → Prop) : Prop :=
  (∀ a, (f a).length = n) ∧ ∀ (H : Type) (enc : TypeId × Value → H) (w : World) (base : Nat) (sp : Nat → Bool) (held : Bool) (fuel : Nat) (cs : List Value), cs.length = off + n →
    (∀ (i : Nat) (g : Field), fs[i]? = some g → ∃ x, DataW.trod enc P w base sp held fuel g.type ((cs.drop g.offset).take (P.cellsOf g.type)) = some x) → ∃ a, Fa (RepV (Zall w) w) (f a) (cs.drop off) ∧ ok a
theorem Fa.one {α β : Type} {R : α → β → Prop} {a : α} {b : β} (h : R a b) : Fa R [a] [b] := Fa.cons h Fa.nil
theorem opens_int {P : Program} {t : TypeId} {k : IntKind} (ht : P.underlying t = some (.int k)) (hc : P.cellsOf t = 1) : Opens P t (fun n : Int => [.lit (.int k n)]) (OkN k) :=
  ⟨fun _ => hc.symm, fun H enc w base sp held fuel cs x h => by
    obtain ⟨n, rfl, _, hw⟩ := DataW.trod_int ht h
    exact ⟨n, Fa.one (.lit rfl), hw⟩⟩
theorem opens_bool {P : Program} {t : TypeId} (ht : P.underlying t = some .bool) (hc : P.cellsOf t = 1) : Opens P t (fun b : Bool => [.lit (.bool b)]) OkT :=
  ⟨fun _ => hc.symm, fun H enc w base sp held fuel cs x h => by
    obtain ⟨n, rfl, _⟩ := DataW.trod_bool ht h
    exact ⟨n, Fa.one (.lit rfl), trivial⟩⟩
theorem opens_string {P : Program} {t : TypeId} (ht : P.underlying t = some .string) (hc : P.cellsOf t = 1) : Opens P t (fun b : ByteArray => [.lit (.string b)]) OkS :=
  ⟨fun _ => hc.symm, fun H enc w base sp held fuel cs x h => by
    obtain ⟨n, rfl, _, hn⟩ := DataW.trod_string ht h
    exact ⟨n, Fa.one (.lit rfl), by unfold OkS; unfold maxLen at hn; omega⟩⟩
theorem lt_of_cell {w : World} {a : Addr} {u : Value} (h : w.cell? a = some u) : a.block < w.heap.size := by
  rcases Nat.lt_or_ge a.block w.heap.size with hl | hl
  · exact hl
  · exfalso
    unfold World.cell? at h
    rw [Array.getElem?_eq_none hl] at h
    simp at h
theorem opens_slice {P : Program} {t e : TypeId} {α : Type} {g : α → List AV} {ok : α → Prop} (f : α → AV) (sz : Nat) (hf : ∀ a, (f a).leaves = g a) (ht : P.underlying t = some (.slice e)) (hc : P.cellsOf t = 1) (hs : P.cellsOf e = sz) (hs0 : Nat.blt 0 sz = true) (h : Opens P e g ok) : Opens P t (fun l : List α => [.sl .n sz (l.map f)]) (OkL ok) :=
  ⟨fun _ => hc.symm, fun H enc w base sp held fuel cs x hx => by
    subst hs
    have hs0 : 0 < P.cellsOf e := by simpa using hs0
    rcases Go.Deep.open_slice ht hx with ⟨rfl, _⟩ | ⟨a, len, cap, m, n, D, Pl, rfl, hb, hl, hm, hmm, _, hi⟩
    · exact ⟨[], Fa.one (.sl (⟨0, 0, none⟩ : Addr) (fun _ _ => undef) (by simp) (by simp) hs0 (fun h => by simp at h) (fun j x h => by simp at h) (fun j x i lv h => by simp at h) (fun j x i lv h => by simp at h)), by simp, by simp⟩
    · have hcap : cap ≤ 9223372036854775807 := by unfold maxLen at hm; omega
      have hlm : len ≤ m := by rw [hmm]; split <;> omega
      have key : ∀ i, i < len → ∃ (p : α) (c : List Value), (Fa (RepV (Zall w) w) (g p) c ∧ ok p) ∧ ∀ j u, c[j]? = some u → w.cell? (a.add (i * P.cellsOf e + j)) = some u := by
        intro i hil
        obtain ⟨cs', h1, h2⟩ := hi i (by omega)
        obtain ⟨p, hK, hok⟩ := h.2 _ _ _ _ _ _ _ _ _ h2
        obtain ⟨_, hlen, hat⟩ := World.cells?_some h1
        refine ⟨p, cs', ⟨hK, hok⟩, fun j u hj => ?_⟩
        have hjl : j < cs'.length := (List.getElem?_eq_some_iff.1 hj).1
        rw [← Go.Deep.add_add, hat j (by omega), hj]
      rcases Nat.eq_zero_or_pos len with h0 | h0
      · subst h0
        exact ⟨[], Fa.one (.sl a (fun _ _ => undef) (by simp) (by simp) hs0 (fun h => by simp at h) (fun j x h => by simp at h) (fun j x i lv h => by simp at h) (fun j x i lv h => by simp at h)), by simp, by simp⟩
      · obtain ⟨p0, _⟩ := key 0 h0
        have hfun : ∃ F : Nat → α, ∃ C : Nat → List Value, ∀ i, i < len → (Fa (RepV (Zall w) w) (g (F i)) (C i) ∧ ok (F i)) ∧ ∀ j u, (C i)[j]? = some u → w.cell? (a.add (i * P.cellsOf e + j)) = some u := by
          classical
          refine ⟨fun i => if hil : i < len then Classical.choose (key i hil) else p0, fun i => if hil : i < len then Classical.choose (Classical.choose_spec (key i hil)) else [], fun i hil => ?_⟩
          simp only [dif_pos hil]
          exact Classical.choose_spec (Classical.choose_spec (key i hil))
        obtain ⟨F, C, hF⟩ := hfun
        have glen : ∀ p, (g p).length = P.cellsOf e := h.1
        have at_ : ∀ {j x}, (((List.range len).map F).map f)[j]? = some x → j < len ∧ x = f (F j) := by
          intro j x hj
          rw [List.getElem?_map, List.getElem?_map] at hj
          obtain ⟨p, hp, rfl⟩ := Option.map_eq_some_iff.1 hj
          obtain ⟨q, hq, rfl⟩ := Option.map_eq_some_iff.1 hp
          have hjl : j < len := by have := (List.getElem?_eq_some_iff.1 hq).1; simpa using this
          rw [List.getElem?_range hjl] at hq
          injection hq with hq; subst hq
          exact ⟨hjl, rfl⟩
        have hlen : (((List.range len).map F).map f).length = len := by simp
        have cell : ∀ {j x i lv}, (((List.range len).map F).map f)[j]? = some x → x.leaves[i]? = some lv → ∃ u, w.cell? (a.add (j * P.cellsOf e + i)) = some u ∧ (C j)[i]? = some u ∧ RepV (Zall w) w lv u := by
          intro j x i lv hj hi
          obtain ⟨hjl, rfl⟩ := at_ hj
          rw [hf] at hi
          obtain ⟨⟨h1, _⟩, h2⟩ := hF j hjl
          obtain ⟨u, hu, hr⟩ := h1.get hi
          exact ⟨u, h2 _ _ hu, hu, hr⟩
        have hz : a.block < w.heap.size := by
          obtain ⟨⟨h1, _⟩, h2⟩ := hF 0 h0
          have : 0 < (C 0).length := by rw [← h1.1, glen]; exact hs0
          have h3 := h2 0 _ (List.getElem?_eq_getElem this)
          have h4 := lt_of_cell h3
          rwa [add_block] at h4
        refine ⟨(List.range len).map F, Fa.one ?_, by simp; omega, fun p hp => ?_⟩
        · have := RepV.sl (Z := Zall w) (w := w) (z := .n) (sz := P.cellsOf e) (xs := ((List.range len).map F).map f) (A := some a) (c := cap) a (fun j i => ((C j)[i]?).getD undef) (by rw [hlen]; exact hl) (by rw [hlen]; omega) hs0 (fun _ => ⟨rfl, hz⟩)
            (fun j x hj => by obtain ⟨_, rfl⟩ := at_ hj; rw [hf, glen]) (fun j x i lv hj hi => by obtain ⟨u, h1, h2, _⟩ := cell hj hi; rw [h2]; exact h1) (fun j x i lv hj hi => by obtain ⟨u, _, h2, h3⟩ := cell hj hi; rw [h2]; exact h3)
          rwa [hlen] at this
        · obtain ⟨i, hi1, rfl⟩ := List.mem_map.1 hp
          exact (hF i (by simpa using hi1)).1.2⟩
theorem opensF_one {P : Program} {off n : Nat} {f : Field} {α : Type} {g : α → List AV} {ok : α → Prop} (ho : f.offset = off) (hn : P.cellsOf f.type = n) (h : Opens P f.type g ok) : OpensF P off n [f] g ok := by
  subst hn
  refine ⟨h.1, ?_⟩
  intro H enc w base sp held fuel cs hl hx
  obtain ⟨x, hx⟩ := hx 0 f rfl
  rw [ho, List.take_of_length_le (by rw [List.length_drop]; omega)] at hx
  exact h.2 _ _ _ _ _ _ _ _ _ hx
theorem opensF_cons {P : Program} {off n m : Nat} {f : Field} {fs : List Field} {α β : Type} {g : α → List AV} {g' : β → List AV} {ok : α → Prop} {ok' : β → Prop} (ho : f.offset = off) (hn : P.cellsOf f.type = n) (h : Opens P f.type g ok) (h' : OpensF P (off + n) m fs g' ok') :
    OpensF P off (n + m) (f :: fs) (fun x : α × β => g x.1 ++ g' x.2) (fun x => ok x.1 ∧ ok' x.2) := by
  subst hn
  refine ⟨fun a => by rw [List.length_append, h.1, h'.1], ?_⟩
  intro H enc w base sp held fuel cs hl hx
  obtain ⟨x, hx0⟩ := hx 0 f rfl
  rw [ho] at hx0
  obtain ⟨a, hK, hok⟩ := h.2 _ _ _ _ _ _ _ _ _ hx0
  obtain ⟨b, hK', hok'⟩ := h'.2 H enc w base sp held fuel cs (by omega) (fun i g hg => hx (i + 1) g (by simpa using hg))
  refine ⟨(a, b), ?_, hok, hok'⟩
  have := Fa.append hK hK'
  rwa [← List.drop_drop, List.take_append_drop] at this
theorem opens_struct {P : Program} {t : TypeId} {fs : Array Field} {l : List Field} {n : Nat} {α β : Type} {g : α → List AV} {ok : α → Prop} (φ : β → α) (g' : β → List AV) (hg' : ∀ b, g (φ b) = g' b) (hφ : ∀ a, ∃ b, φ b = a) (ht : P.underlying t = some (.struct fs)) (hl : fs.toList = l) (hc : P.cellsOf t = n) (h : OpensF P 0 n l g ok) :
    Opens P t g' (fun b => ok (φ b)) := by
  subst hl
  subst hc
  refine ⟨fun b => by rw [← hg', h.1], ?_⟩
  intro H enc w base sp held fuel cs x hx
  obtain ⟨xs, n, _, _, hl, hxl, hf⟩ := DataW.trod_struct ht hx
  obtain ⟨a, hK, hok⟩ := h.2 H enc w base sp held n cs (by omega) (fun i f hi => by
    have hi' : fs[i]? = some f := by simpa using hi
    have hil : i < fs.size := (Array.getElem?_eq_some_iff.1 hi').1
    exact ⟨xs[i]'(by omega), (hf i f hi').trans (List.getElem?_eq_getElem _)⟩)
  obtain ⟨b, rfl⟩ := hφ a
  rw [List.drop_zero] at hK
  exact ⟨b, hg' b ▸ hK, hok⟩

/-! A law's call. -/
def E0 (w : World) (hg : GL (Zall w) w) : Env := ⟨w, Zall w, fun _ => False, Zall w, fun _ => none, hg⟩
def fz0 (w : World) : Fl → Nat → Prop
  | .o => fun k => Zall w k ∨ False
  | .n => fun _ => False
  | .u => Zall w
theorem fz0_eq (w : World) (hg : GL (Zall w) w) : fz (E0 w hg) (fun _ => False) = fz0 w := by funext z; cases z <;> rfl
def oo : AV → AV
  | .sl _ sz xs => .sl .o sz xs
  | x => x
/-- A value that the law is handed. -/
abbrev HasA (w : World) (x : AV) (v : Value) : Prop := RepT (fz0 w) w (fun _ => undef) (gB []) x v
theorem repV_o {w : World} {x : AV} {v : Value} (h : RepV (Zall w) w x v) : RepC0 (fz0 w) w (fun _ => undef) (gB []) (oo x) v := by
  cases x with
  | lit v' => cases h with | lit h => exact ⟨rfl, h⟩
  | junk => cases h with | junk h => exact h
  | sl z sz xs => exact (h.flag (z' := .o)).move (fun k _ => rfl) (fun k hk => .inl hk)
  | _ => cases h
theorem hasA_int {w : World} {k : IntKind} {n : Int} : HasA w (.lit (.int k n)) (.int k n) := .inr (.inl rfl)
theorem hasA_bool {w : World} {b : Bool} : HasA w (.lit (.bool b)) (.bool b) := .inr (.inl rfl)
theorem hasA_string {w : World} {b : ByteArray} : HasA w (.lit (.string b)) (.string b) := .inr (.inl rfl)
theorem arg_slice {P : Program} {t e : TypeId} {α : Type} {g : α → List AV} {ok : α → Prop} (f : α → AV) (sz : Nat) (hf : ∀ a, (f a).leaves = g a) (ht : P.underlying t = some (.slice e)) (hc : P.cellsOf t = 1) (hs : P.cellsOf e = sz) (hs0 : Nat.blt 0 sz = true) (h : Opens P e g ok) {H : Type} {enc : TypeId × Value → H} {w : World} {sp : Nat → Bool} {held : Bool} {r : Reach} {base b0 : Nat} {v : Value} {d : DataW H} {ps : List MemPlace}
    (hv : Value.okWide P w r b0 t v) (hd : DataW.Trod enc P w base sp held t v d ps) : ∃ l : List α, HasA w (.sl .o sz (l.map f)) v ∧ OkL ok l := by
  obtain ⟨a, len, cap, rfl⟩ := okWide_slice ht hv
  obtain ⟨fuel, hf'⟩ := hd
  obtain ⟨l, hl, hok⟩ := (opens_slice f sz hf ht hc hs hs0 h).2 _ _ _ _ _ _ _ _ _ hf'
  simp only [Value.cells] at hl
  obtain ⟨u, hu, hr⟩ := hl.get (i := 0) rfl
  simp at hu
  subst hu
  exact ⟨l, rep_of_C (.inl (repV_o hr)), hok⟩
theorem arg_struct {P : Program} {t : TypeId} {fs : Array Field} {α : Type} {g : α → List AV} {ok : α → Prop} (ht : P.underlying t = some (.struct fs)) (h : Opens P t g ok) {H : Type} {enc : TypeId × Value → H} {w : World} {sp : Nat → Bool} {held : Bool} {r : Reach} {base b0 : Nat} {v : Value} {d : DataW H} {ps : List MemPlace}
    (hv : Value.okWide P w r b0 t v) (hd : DataW.Trod enc P w base sp held t v d ps) : ∃ x : α, HasA w (.agg ((g x).map oo)) v ∧ ok x := by
  obtain ⟨cs, rfl, _⟩ := okWide_struct ht hv
  obtain ⟨fuel, hf⟩ := hd
  obtain ⟨x, hK, hok⟩ := h.2 _ _ _ _ _ _ _ _ _ hf
  simp only [Value.cells] at hK
  exact ⟨x, .inr (.inr (.inl (.inr ⟨_, cs.toList, rfl, by simp, Fa.map_left.2 (hK.imp fun _ _ h => .inl (repV_o h))⟩))), hok⟩
theorem law_calls {P : Program} {f : FuncId} {args : List AV} {b : Bool} (h : ACalls P f [] args [] (.lit (.bool b))) {w : World} (hg : GL (Zall w) w) {vs : List Value} (hv : Fa (HasA w) args vs) : Calls P f vs.toArray w fun e w' => e = .returned (.bool b) ∧ Below w.heap.size w w' := by
  have hp : Hp (E0 w hg) (fun _ => undef) (E0 w hg).Zi (gB []) (E0 w hg).W0 :=
    ⟨rfl, rfl, rfl, Nat.le_refl _, fun k hk => hk, fun _ _ => rfl, fun _ h => h, fun _ h => h, fun _ h => h.elim, fun _ _ h => (by cases h), fun _ => trivial, ⟨fun _ _ => none, fun b op ds e sz xs h => (by cases h), fun b h => (by cases h), fun b k ho => (by cases ho.1), fun b k ho => (by cases ho.1), fun b b' k ho _ => (by cases ho.1)⟩, rfl, rfl, fun _ => .inl rfl⟩
  refine (h (E0 w hg) (fun _ => undef) vs hp (fun b v h => by cases h) (show Fa (RepT (fz (E0 w hg) fun _ => False) w (fun _ => undef) (gB [])) args vs by rw [fz0_eq]; exact hv)).mono ?_
  rintro e w' ⟨v, ρ', Zn, rfl, hp', hr⟩
  exact ⟨by rw [rep_lit hr], hp'.os, hp'.tape, hp'.output, hp'.size, hp'.keep⟩
end Go.Proofs.YtahmbcgolnplgaaDoorA
