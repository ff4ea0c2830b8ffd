/- development: chains of lines -/
import Derived.Test.YtahmbcgolnplgaaDoorShaD
import Derived.Test.YtahmbcgolnplgaaDoorExFnExactParted
set_option linter.unusedVariables false
set_option linter.unusedSimpArgs false
namespace Go.Proofs.YtahmbcgolnplgaaDoor.PFnExactParted
open Go Go.RowKit Go.Proofs.YtahmbcgolnplgaaDoorA Go.Proofs.YtahmbcgolnplgaaDoorL
/-! Chains of lines. -/
abbrev En := S35
def okV (x : En) : Bool := (spec_FrameOk.f 1 x.f0 x.f1 x.f2.f0 x.f2.f1 x.f2.f2 x.f2.f3).getD false
def etV (x : En) : ByteArray := (if okV x = true then selV (frB 1 x.f0 x.f1 x.f2.f0 x.f2.f1 x.f2.f2 x.f2.f3) else (ByteArray.empty, false)).1
theorem etV_size (x : En) : (etV x).size ≤ 30 := by
  unfold etV
  split
  · have h1 := selV_size (frB 1 x.f0 x.f1 x.f2.f0 x.f2.f1 x.f2.f2 x.f2.f3)
    have h2 := frB_size 1 x.f0 x.f1 x.f2.f0 x.f2.f1 x.f2.f2 x.f2.f3
    have h3 := varT_size x.f1
    have h4 := varT_size x.f2.f3
    omega
  · decide
theorem spec_entry (x : En) : Ev (fun k => spec_EntryText.f k x.f0 x.f1 x.f2.f0 x.f2.f1 x.f2.f2 x.f2.f3) (etV x) := by
  obtain ⟨b, hb, _⟩ := frameOk_of 1 x.f0 x.f1 x.f2.f0 x.f2.f1 x.f2.f2 x.f2.f3
  have e : okV x = b := by unfold okV; rw [hb]; rfl
  unfold spec_EntryText.f etV
  rw [e]
  exact Ev.bind (frameText_ev hb).1 (Ev.now _)
theorem impl_entry (x : En) : Ev (fun k => impl_EntryText.f k x.f0 x.f1 x.f2.f0 x.f2.f1 x.f2.f2 x.f2.f3) (etV x) := by
  obtain ⟨b, hb, _⟩ := frameOk_of 1 x.f0 x.f1 x.f2.f0 x.f2.f1 x.f2.f2 x.f2.f3
  have e : okV x = b := by unfold okV; rw [hb]; rfl
  unfold impl_EntryText.f etV
  rw [e]
  exact Ev.bind (frameText_ev hb).2 (Ev.now _)
def headF : ByteArray → List En → ByteArray
  | h, [] => h
  | h, x :: r => headF (digestV (h ++ etV x)) r
theorem headF_size : ∀ (l : List En) (h : ByteArray), h.size = 32 → (headF h l).size = 32
  | [], _, hh => hh
  | x :: r, h, _ => by rw [headF]; exact headF_size r _ (digestV_size _)
def chV : ByteArray → List En → List ByteArray
  | _, [] => []
  | h, x :: r => (h ++ etV x) :: chV (digestV (h ++ etV x)) r
theorem chV_len : ∀ (l : List En) (h : ByteArray), (chV h l).length = l.length
  | [], _ => rfl
  | x :: r, h => by rw [chV, List.length_cons, chV_len r, List.length_cons]
theorem chV_get : ∀ (l : List En) (h : ByteArray) (i : Nat) (x : En), l[i]? = some x → (chV h l)[i]? = some (headF h (l.take i) ++ etV x)
  | [], _, _, _, hx => by simp at hx
  | y :: r, h, 0, x, hx => by
    simp only [List.getElem?_cons_zero, Option.some.injEq] at hx
    subst hx; rfl
  | y :: r, h, i + 1, x, hx => by
    rw [List.getElem?_cons_succ] at hx
    rw [chV, List.getElem?_cons_succ, chV_get r _ i x hx]; rfl
abbrev hd0 : ByteArray := digestV ByteArray.empty
theorem spec_head_in (l : List En) (hl : l.length ≤ 1048576) : ∀ (d i : Nat) (h : ByteArray), l.length - i = d → i ≤ l.length → h.size = 32 → Ev (fun k => spec_HeadOf.l0 k l h (i : Int)) (headF h (l.drop i)) := by
  intro d
  induction d with
  | zero =>
    intro i h hd hi hh
    rw [List.drop_of_length_le (by omega)]
    refine Ev.step (fun _ => rfl) ?_
    simp only [spec_HeadOf.l0]
    exact Ev.neg (by omega) (Ev.now _)
  | succ d ih =>
    intro i h hd hi hh
    have hx : l[i]? = some l[i] := List.getElem?_eq_getElem (by omega)
    have z := etV_size l[i]
    have h2 := ih (i + 1) (digestV (h ++ etV l[i])) (by omega) (by omega) (digestV_size _)
    rw [List.drop_eq_getElem_cons (by omega)]
    refine Ev.step (fun _ => rfl) ?_
    simp only [spec_HeadOf.l0]
    rw [rd35 hx, w64 (x := (i : Int) + 1) (by omega) (by omega)]
    exact Ev.pos (by omega) (Ev.pos (by omega) (Ev.bind (spec_entry l[i]) (Ev.pos (by omega) (Ev.bind (spec_digest _ (by rw [ByteArray.size_append]; omega)) h2))))
theorem spec_head (l : List En) (hl : l.length ≤ 1048576) : Ev (fun k => spec_HeadOf.f k l) (headF hd0 l) :=
  Ev.bind (spec_digest ByteArray.empty (by decide)) (spec_head_in l hl _ 0 _ rfl (Nat.zero_le _) (digestV_size _))
theorem impl_chain_in (l : List En) (hl : l.length ≤ 1048576) : ∀ (d i : Nat) (q : List ByteArray) (h : ByteArray), l.length - i = d → i ≤ l.length → q.length ≤ i → h.size = 32 → Ev (fun k => impl_chained.l0 k l q h (i : Int)) (q ++ chV h (l.drop i)) := by
  intro d
  induction d with
  | zero =>
    intro i q h hd hi hq hh
    rw [List.drop_of_length_le (by omega), chV, List.append_nil]
    refine Ev.step (fun _ => rfl) ?_
    simp only [impl_chained.l0]
    exact Ev.neg (by omega) (Ev.now _)
  | succ d ih =>
    intro i q h hd hi hq hh
    have hx : l[i]? = some l[i] := List.getElem?_eq_getElem (by omega)
    have z := etV_size l[i]
    have h2 := ih (i + 1) (q ++ [h ++ etV l[i]]) (digestV (h ++ etV l[i])) (by omega) (by omega) (by rw [List.length_append]; simp only [List.length_cons, List.length_nil]; omega) (digestV_size _)
    rw [List.append_assoc] at h2
    rw [List.drop_eq_getElem_cons (by omega)]
    refine Ev.step (fun _ => rfl) ?_
    simp only [impl_chained.l0]
    rw [rd35 hx, w64 (x := (i : Int) + 1) (by omega) (by omega)]
    exact Ev.pos (by omega) (Ev.pos (by omega) (Ev.bind (impl_entry l[i]) (Ev.pos (by omega) (Ev.pos (by simp only [List.length_cons, List.length_nil]; omega) (Ev.bind (impl_digest _ (by rw [ByteArray.size_append]; omega)) h2)))))
theorem impl_chain (l : List En) (hl : l.length ≤ 1048576) : Ev (fun k => impl_chained.f k l) (chV hd0 l) :=
  Ev.bind (impl_digest ByteArray.empty (by decide)) (impl_chain_in l hl _ 0 [] _ rfl (Nat.zero_le _) (Nat.le_refl _) (digestV_size _))
theorem rdOf_of {l : List ByteArray} {i : Nat} {x : ByteArray} (h : l[i]? = some x) : rdOf ByteArray.empty l (i : Int) = x := by
  unfold rdOf; rw [Int.toNat_natCast, List.getD_eq_getElem?_getD, h]; rfl
theorem parted_in (a b : List En) (ha : a.length ≤ 1048576) (hb : b.length = a.length) : ∀ (d : Nat) (p : Int), d ≤ a.length → p = (d : Int) - 1 → ∃ r, Ev (fun k => spec_Parted.l0 k a b p) r ∧ Ev (fun k => impl_Parted.l0 k (chV hd0 a) (chV hd0 b) p) r := by
  intro d
  induction d with
  | zero =>
    intro p hd hp
    refine ⟨(ByteArray.empty, ByteArray.empty, false), Ev.step (fun _ => rfl) ?_, Ev.step (fun _ => rfl) ?_⟩
    · simp only [spec_Parted.l0]; exact Ev.neg (by omega) (Ev.now _)
    · simp only [impl_Parted.l0]; exact Ev.neg (by omega) (Ev.now _)
  | succ d ih =>
    intro p hd hp
    obtain rfl : p = (d : Int) := by omega
    obtain ⟨r, r1, r2⟩ := ih ((d : Int) - 1) (by omega) rfl
    have hx : a[d]? = some a[d] := List.getElem?_eq_getElem (by omega)
    have hy : b[d]? = some b[d] := List.getElem?_eq_getElem (by omega)
    have gx := rdOf_of (chV_get a hd0 d _ hx)
    have gy := rdOf_of (chV_get b hd0 d _ hy)
    have zx := etV_size a[d]
    have zy := etV_size b[d]
    have sx := headF_size (a.take d) hd0 (digestV_size _)
    have sy := headF_size (b.take d) hd0 (digestV_size _)
    have Hx := spec_head (a.take d) (by rw [List.length_take]; omega)
    have Hy := spec_head (b.take d) (by rw [List.length_take]; omega)
    have Ex := spec_entry a[d]
    have Ey := spec_entry b[d]
    have ca := chV_len a hd0
    have cb := chV_len b hd0
    have wx : (headF hd0 (a.take d) ++ etV a[d]).size ≤ 100000 := by rw [ByteArray.size_append]; omega
    have wy : (headF hd0 (b.take d) ++ etV b[d]).size ≤ 100000 := by rw [ByteArray.size_append]; omega
    have key : ∀ r' : ByteArray × ByteArray × Bool, Ev (fun k => if ((headF hd0 (a.take d) ++ etV a[d]).toList == (headF hd0 (b.take d) ++ etV b[d]).toList) = true then spec_Parted.l0 k a b ((d : Int) - 1) else (spec_Digest.f k (headF hd0 (a.take d) ++ etV a[d])).bind fun t43 => (spec_Digest.f k (headF hd0 (b.take d) ++ etV b[d])).bind fun t45 => some (headF hd0 (a.take d) ++ etV a[d], headF hd0 (b.take d) ++ etV b[d], t43.toList == t45.toList)) r' → Ev (fun k => spec_Parted.l0 k a b (d : Int)) r' := by
      intro r' h
      refine Ev.step (fun _ => rfl) ?_
      simp only [spec_Parted.l0]
      rw [rd35 hx, rd35 hy, w64 (x := (d : Int) - 1) (by omega) (by omega)]
      exact Ev.pos (by omega) (Ev.pos (by omega) (Ev.pos (by omega) (Ev.bind Hx (Ev.pos (by omega) (Ev.bind Ex (Ev.pos (by omega) (Ev.pos (by omega) (Ev.bind Hy (Ev.pos (by omega) (Ev.bind Ey (Ev.pos (by omega) h)))))))))))
    have key2 : ∀ r' : ByteArray × ByteArray × Bool, Ev (fun k => if ((headF hd0 (a.take d) ++ etV a[d]).toList == (headF hd0 (b.take d) ++ etV b[d]).toList) = true then impl_Parted.l0 k (chV hd0 a) (chV hd0 b) ((d : Int) - 1) else (impl_Digest.f k (headF hd0 (a.take d) ++ etV a[d])).bind fun t43 => (impl_Digest.f k (headF hd0 (b.take d) ++ etV b[d])).bind fun t45 => some (headF hd0 (a.take d) ++ etV a[d], headF hd0 (b.take d) ++ etV b[d], t43.toList == t45.toList)) r' → Ev (fun k => impl_Parted.l0 k (chV hd0 a) (chV hd0 b) (d : Int)) r' := by
      intro r' h
      refine Ev.step (fun _ => rfl) ?_
      simp only [impl_Parted.l0]
      rw [gx, gy, w64 (x := (d : Int) - 1) (by omega) (by omega)]
      exact Ev.pos (by omega) (Ev.pos (by omega) (Ev.pos (by omega) (Ev.pos (by omega) h)))
    by_cases e : ((headF hd0 (a.take d) ++ etV a[d]).toList == (headF hd0 (b.take d) ++ etV b[d]).toList) = true
    · exact ⟨r, key r (Ev.pos e r1), key2 r (Ev.pos e r2)⟩
    · exact ⟨_, key _ (Ev.neg e (Ev.bind (spec_digest _ wx) (Ev.bind (spec_digest _ wy) (Ev.now _)))), key2 _ (Ev.neg e (Ev.bind (impl_digest _ wx) (Ev.bind (impl_digest _ wy) (Ev.now _))))⟩
theorem parted_ev (a b : List En) (ha : a.length ≤ 1048576) (hb : b.length ≤ 1048576) : ∃ r, Ev (fun k => spec_Parted.f k a b) r ∧ Ev (fun k => impl_Parted.f k a b) r := by
  unfold spec_Parted.f impl_Parted.f
  by_cases e : (a.length : Int) = (b.length : Int)
  · obtain ⟨r, h1, h2⟩ := parted_in a b ha (by omega) a.length ((a.length : Int) - 1) (Nat.le_refl _) rfl
    refine ⟨r, Ev.pos e ?_, Ev.pos e (Ev.bind (impl_chain a ha) (Ev.bind (impl_chain b hb) ?_))⟩
    · rw [w64 (x := (a.length : Int) - 1) (by omega) (by omega)]; exact h1
    · rw [chV_len, w64 (x := (a.length : Int) - 1) (by omega) (by omega)]; exact h2
  · exact ⟨_, Ev.neg e (Ev.now _), Ev.neg e (Ev.now _)⟩
end Go.Proofs.YtahmbcgolnplgaaDoor.PFnExactParted
