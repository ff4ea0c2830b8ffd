/- A value that a parameter's type lets read is a value of the printed kind: from the reading of an argument (whole numbers, bools, strings, structs, slices, one in another) to the printed contract's premises. No condition. -/
import Derived.Test.YthdeicbkimlnhaaProg
import Derived.Deep.Slices
import Derived.WideShapes
import Derived.ChangeArms
import Derived.RowKit3
import Derived.Carry
import Derived.Test.YthdeicbkimlnhaaVMore
set_option linter.unusedVariables false
namespace Go.Proofs.YthdeicbkimlnhaaO
open Go.RowKit Go.Proofs.YthdeicbkimlnhaaW.PrintWords Go.WideShapes

/-- Whatever reads at type t is of kind k, and is so. -/
def Opens (P : Program) (t : TypeId) {α : Type} (k : Kd α) (ok : α → Prop) : Prop :=
  k.sz = P.cellsOf t ∧ ∀ (H : Type) (enc : TypeId × Value → H) (w : World) (base : Nat) (sp : Nat → Bool) (held : Bool) (fuel : Nat) (cs : List Value) (x : DataW H × List MemPlace),
    DataW.trod enc P w base sp held fuel t cs = some x → ∃ a, k.K w a cs ∧ ok a
/-- The same of fields in line, from the cell 'off' on. -/
def OpensF (P : Program) (off : Nat) (fs : List Field) {α : Type} (k : Kd α) (ok : α → Prop) : Prop :=
  ∀ (H : Type) (enc : TypeId × Value → H) (w : World) (base : Nat) (sp : Nat → Bool) (held : Bool) (fuel : Nat) (cs : List Value), cs.length = off + k.sz →
    (∀ (i : Nat) (f : Field), fs[i]? = some f → ∃ x, DataW.trod enc P w base sp held fuel f.type ((cs.drop f.offset).take (P.cellsOf f.type)) = some x) → ∃ a, k.K w a (cs.drop off) ∧ ok a

def OkN (k : IntKind) (n : Int) : Prop := (Lit.int k n).wf = true
def OkL {α : Type} (ok : α → Prop) (l : List α) : Prop := l.length ≤ 9223372036854775807 ∧ ∀ a ∈ l, ok a
def OkT {α : Type} (_ : α) : Prop := True
def OkS (s : ByteArray) : Prop := s.size ≤ 9223372036854775807

theorem opens_int {P : Program} {t : TypeId} {k : IntKind} (ht : P.underlying t = some (.int k)) (hc : P.cellsOf t = 1) : Opens P t (Kd.int k) (OkN k) :=
  ⟨hc.symm, fun H enc w base sp held fuel cs x h => by
    obtain ⟨n, rfl, _, hw⟩ := DataW.trod_int ht h
    exact ⟨n, rfl, hw⟩⟩
theorem opens_bool {P : Program} {t : TypeId} (ht : P.underlying t = some .bool) (hc : P.cellsOf t = 1) : Opens P t Kd.bool OkT :=
  ⟨hc.symm, fun H enc w base sp held fuel cs x h => by
    obtain ⟨n, rfl, _⟩ := DataW.trod_bool ht h
    exact ⟨n, rfl, trivial⟩⟩
theorem opens_string {P : Program} {t : TypeId} (ht : P.underlying t = some .string) (hc : P.cellsOf t = 1) : Opens P t Kd.string OkS :=
  ⟨hc.symm, fun H enc w base sp held fuel cs x h => by
    obtain ⟨n, rfl, _, hn⟩ := DataW.trod_string ht h
    exact ⟨n, rfl, by unfold OkS; unfold maxLen at hn; omega⟩⟩
theorem opens_slice {P : Program} {t e : TypeId} {α : Type} {k : Kd α} {ok : α → Prop} (q : Nat) (ht : P.underlying t = some (.slice e)) (hc : P.cellsOf t = 1) (h : Opens P e k ok) : Opens P t (Kd.slice q k) (OkL ok) :=
  ⟨hc.symm, fun H enc w base sp held fuel cs x hx => by
    rcases Go.Deep.open_slice ht hx with ⟨rfl, _⟩ | ⟨a, len, cap, m, n, D, Pl, rfl, hb, hl, hm, hmm, _, hi⟩
    · exact ⟨[], ⟨none, 0, rfl, Nat.le_refl _, Kd.C_nil k w⟩, by simp, by simp⟩
    · have hcap : cap ≤ 9223372036854775807 := by unfold maxLen at hm; omega
      have hlm : len ≤ m := by rw [hmm]; split <;> omega
      have key : ∀ i, i < len → ∃ (p : α) (c : List Value), c.length = k.sz ∧ (k.K w p c ∧ ok p) ∧ ∀ j u, c[j]? = some u → w.cell? (a.add (i * k.sz + j)) = some u := by
        intro i hil
        obtain ⟨cs', h1, h2⟩ := hi i (by omega)
        obtain ⟨p, hK, hok⟩ := h.2 _ _ _ _ _ _ _ _ _ h2
        obtain ⟨_, hlen, hat⟩ := World.cells?_some h1
        refine ⟨p, cs', by rw [hlen, h.1], ⟨hK, hok⟩, fun j u hj => ?_⟩
        have hjl : j < cs'.length := (List.getElem?_eq_some_iff.1 hj).1
        rw [← Go.Deep.add_add, h.1, hat j (by omega), hj]
      rcases Nat.eq_zero_or_pos len with h0 | h0
      · subst h0
        exact ⟨[], ⟨some a, cap, rfl, Nat.zero_le _, rfl, by simp, fun h => absurd h (Nat.lt_irrefl 0)⟩, by simp, by simp⟩
      · obtain ⟨p0, _⟩ := key 0 h0
        have hf : ∃ f : Nat → α, ∀ i, i < len → ∃ (c : List Value), c.length = k.sz ∧ (k.K w (f i) c ∧ ok (f i)) ∧ ∀ j u, c[j]? = some u → w.cell? (a.add (i * k.sz + j)) = some u := by
          classical
          refine ⟨fun i => if hil : i < len then Classical.choose (key i hil) else p0, fun i hil => ?_⟩
          simp only [dif_pos hil]
          exact Classical.choose_spec (key i hil)
        obtain ⟨f, hf⟩ := hf
        refine ⟨(List.range len).map f, ⟨some a, cap, by simp, by simpa using hl, rfl, by simp; omega, fun _ => ⟨a, rfl, fun j p hj => ?_⟩⟩, by simp; omega, fun p hp => ?_⟩
        · have hjl : j < len := by
            have := (List.getElem?_eq_some_iff.1 hj).1
            simpa using this
          obtain ⟨c, hc1, hc2, hc3⟩ := hf j hjl
          have : p = f j := by
            rw [List.getElem?_map, List.getElem?_range hjl] at hj
            simpa using hj.symm
          subst this
          exact ⟨c, hc1, hc2.1, hc3⟩
        · obtain ⟨i, hi1, rfl⟩ := List.mem_map.1 hp
          obtain ⟨c, _, hc2, _⟩ := hf i (by simpa using hi1)
          exact hc2.2⟩
theorem opensF_one {P : Program} {off : Nat} {f : Field} {α : Type} {k : Kd α} {ok : α → Prop} (ho : f.offset = off) (h : Opens P f.type k ok) : OpensF P off [f] k ok := by
  intro H enc w base sp held fuel cs hl hx
  obtain ⟨x, hx⟩ := hx 0 f rfl
  rw [ho, List.take_of_length_le (by rw [List.length_drop, ← h.1]; omega)] at hx
  exact h.2 _ _ _ _ _ _ _ _ _ hx
theorem opensF_cons {P : Program} {off n : Nat} {f : Field} {fs : List Field} {α β : Type} {k : Kd α} {k' : Kd β} {ok : α → Prop} {ok' : β → Prop} (ho : f.offset = off) (hn : k.sz = n) (h : Opens P f.type k ok) (h' : OpensF P (off + n) fs k' ok') :
    OpensF P off (f :: fs) (Kd.pair k k') (fun x => ok x.1 ∧ ok' x.2) := by
  subst hn
  intro H enc w base sp held fuel cs hl hx
  have hl' : cs.length = off + (k.sz + k'.sz) := hl
  obtain ⟨x, hx0⟩ := hx 0 f rfl
  rw [ho, ← h.1] at hx0
  obtain ⟨a, hK, hok⟩ := h.2 _ _ _ _ _ _ _ _ _ hx0
  obtain ⟨b, hK', hok'⟩ := h' H enc w base sp held fuel cs (by omega) (fun i g hg => hx (i + 1) g (by simpa using hg))
  exact ⟨(a, b), ⟨_, _, by rw [← List.drop_drop, List.take_append_drop], hK, hK'⟩, hok, hok'⟩
theorem opens_struct {P : Program} {t : TypeId} {fs : Array Field} {l : List Field} {α β : Type} {k : Kd α} {ok : α → Prop} (g : β → α) (hg : ∀ a, ∃ b, g b = a) (ht : P.underlying t = some (.struct fs)) (hl : fs.toList = l) (hc : P.cellsOf t = k.sz) (h : OpensF P 0 l k ok) :
    Opens P t (Kd.iso k g) (fun b => ok (g b)) := by
  subst hl
  exact ⟨hc.symm, fun H enc w base sp held fuel cs x hx => by
    obtain ⟨xs, n, _, _, hl, hxl, hf⟩ := DataW.trod_struct ht hx
    obtain ⟨a, hK, hok⟩ := h H enc w base sp held n cs (by omega) (fun i f hi => by
      have hi' : fs[i]? = some f := by simpa using hi
      have hil : i < fs.size := (Array.getElem?_eq_some_iff.1 hi').1
      exact ⟨xs[i]'(by omega), (hf i f hi').trans (List.getElem?_eq_getElem _)⟩)
    obtain ⟨b, rfl⟩ := hg a
    rw [List.drop_zero] at hK
    exact ⟨b, hK, hok⟩⟩

/-- A slice that is handed over. -/
theorem arg_slice {P : Program} {t e : TypeId} {α : Type} {k : Kd α} {ok : α → Prop} (ht : P.underlying t = some (.slice e)) (hc : P.cellsOf t = 1) (h : Opens P e k ok) {H : Type} {enc : TypeId × Value → H} {w : World} {sp : Nat → Bool} {held : Bool} {r : Reach} {base b0 : Nat} {v : Value} {d : DataW H} {ps : List MemPlace}
    (hv : Value.okWide P w r b0 t v) (hd : DataW.Trod enc P w base sp held t v d ps) : ∃ (A : Option Addr) (l : List α) (c : Nat), v = .slice A l.length c ∧ l.length ≤ c ∧ Kd.C k w A l.length l ∧ OkL ok l := by
  obtain ⟨a, len, cap, rfl⟩ := okWide_slice ht hv
  obtain ⟨fuel, hf⟩ := hd
  obtain ⟨l, ⟨A, c, hcs, hl, hC⟩, hok⟩ := (opens_slice 0 ht hc h).2 _ _ _ _ _ _ _ _ _ hf
  simp [Value.cells] at hcs
  obtain ⟨rfl, rfl, rfl⟩ := hcs
  exact ⟨_, l, _, rfl, hl, hC, hok⟩
/-- A struct that is handed over. -/
theorem arg_struct {P : Program} {t : TypeId} {fs : Array Field} {α : Type} {k : Kd α} {ok : α → Prop} (ht : P.underlying t = some (.struct fs)) (h : Opens P t k ok) {H : Type} {enc : TypeId × Value → H} {w : World} {sp : Nat → Bool} {held : Bool} {r : Reach} {base b0 : Nat} {v : Value} {d : DataW H} {ps : List MemPlace}
    (hv : Value.okWide P w r b0 t v) (hd : DataW.Trod enc P w base sp held t v d ps) : ∃ (x : α) (cs : List Value), v = .agg cs.toArray ∧ k.K w x cs ∧ ok x := by
  obtain ⟨cs, rfl, _⟩ := okWide_struct ht hv
  obtain ⟨fuel, hf⟩ := hd
  obtain ⟨x, hK, hok⟩ := h.2 _ _ _ _ _ _ _ _ _ hf
  exact ⟨x, cs.toList, by simp, by simpa [Value.cells] using hK, hok⟩
end Go.Proofs.YthdeicbkimlnhaaO
