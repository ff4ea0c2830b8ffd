/- What the plain helpers of laws.FnExactCalmWorld come to: copies, equals, sizes. Conditions: the lengths and numbers that each theorem names. -/
import Derived.Test.YtkkglhhkpihmgaaGreatArgFnExactCalmWorld
import Derived.Test.YtkkglhhkpihmgaaGreatLib
set_option linter.unusedVariables false
set_option linter.unusedSimpArgs false
namespace Go.Proofs.YtkkglhhkpihmgaaGreat.PFnExactCalmWorld
open Go Go.RowKit Go.Proofs.YtkkglhhkpihmgaaGreatA Go.Proofs.YtkkglhhkpihmgaaGreatL Go.Proofs.YtkkglhhkpihmgaaGreat.AFnExactCalmWorld
theorem lt_of {α : Type} {l : List α} {i : Nat} {x : α} (h : l[i]? = some x) : i < l.length:=(List.getElem?_eq_some_iff.1 h).1
def FitL {α : Type} (p : α→Prop) (l : List α) : Prop:=l.length ≤ 1048576∧∀ x ∈ l,p x
def FitA {α : Type} (_ : α) : Prop:=True
def FitS (s : ByteArray) : Prop:=s.size ≤ 1048576
theorem szl_ev {α : Type} (L : Nat→Int→Int→Option Int) (xs : List α) (ok : α→Prop) (stop : ∀ a,Ev (fun k=>L k a (xs.length : Int)) a)
    (step : ∀ (i : Nat) x a,xs[i]? = some x→0 ≤ a→a ≤ 1048576→∃ v,(v < 0∧Ev (fun k=>L k a (i : Int)) (-1)) ∨ (0 ≤ v∧v ≤ a∧ok x∧∀ r,Ev (fun k=>L k v ((i : Int) + 1)) r→Ev (fun k=>L k a (i : Int)) r)) :
    ∀ a,0 ≤ a→a ≤ 1048576→∃ v,Ev (fun k=>L k a 0) v∧(v < 0 ∨ (0 ≤ v∧v ≤ a∧∀ x ∈ xs,ok x)):=by
  have key : ∀ (d i : Nat) (a : Int),xs.length - i = d→i ≤ xs.length→0 ≤ a→a ≤ 1048576→∃ v,Ev (fun k=>L k a (i : Int)) v∧(v < 0 ∨ (0 ≤ v∧v ≤ a∧∀ x ∈ xs.drop i,ok x)):=by
    intro d
    induction d with
    | zero =>
      intro i a hd hi h0 h1
      have : i = xs.length:=by omega
      subst this
      exact ⟨a,stop a,.inr ⟨h0,Int.le_refl _,fun x hx=>by simp at hx⟩⟩
    | succ d ih =>
      intro i a hd hi h0 h1
      have hlt : i < xs.length:=by omega
      obtain ⟨v,h | ⟨hv0,hv1,hok,h⟩⟩:=step i _ a (List.getElem?_eq_getElem hlt) h0 h1
      · exact ⟨-1,h.2,.inl (by omega)⟩
      · obtain ⟨u,hu,hr⟩:=ih (i + 1) v (by omega) (by omega) hv0 (by omega)
        refine ⟨u,h u (by simpa using hu),?_⟩
        rcases hr with hr | ⟨r0,r1,r2⟩
        · exact .inl hr
        · refine .inr ⟨r0,by omega,fun x hx=>?_⟩
          rw [List.drop_eq_getElem_cons hlt] at hx
          rcases List.mem_cons.1 hx with rfl | hx
          · exact hok
          · exact r2 x hx
  intro a h0 h1
  obtain ⟨v,h,r⟩:=key xs.length 0 a rfl (Nat.zero_le _) h0 h1
  exact ⟨v,h,by simpa using r⟩
theorem szInsS_ev (l0 : List S308) (a1 : Int) (hl0 : (OkL Ok308) l0) (h0 : 0 ≤ a1) (h1 : a1 ≤ 1048576) : ∃ v,laws_szInsS.f l0 a1 = some v∧(v < 0 ∨ (0 ≤ v∧v ≤ a1∧(FitL FitA) l0)):=by
  have hl:=hl0.1
  unfold laws_szInsS.f
  rw [w64 (by omega) (by omega)]
  by_cases h : a1 - (l0.length : Int) < 0
  · rw [if_pos h];exact ⟨_,rfl,.inl (by omega)⟩
  · rw [if_neg h];exact ⟨_,rfl,.inr ⟨by omega,by omega,by omega,fun x _=>trivial⟩⟩
theorem rdOfE {α : Type} {z : α} {l : List α} {i : Nat} {x : α} (h : l[i]? = some x) : rdOf z l (i : Int) = x:=by
  unfold rdOf;simpa using get_of l z h
theorem szInsSS_ev (l : List (List S308)) (a : Int) (h : OkL (OkL Ok308) l) (h0 : 0 ≤ a) (h1 : a ≤ 1048576) : ∃ v,Ev (fun k=>laws_szInsSS.f k l a) v∧(v < 0 ∨ (0 ≤ v∧v ≤ a∧FitL (FitL FitA) l)):=by
  have hl:=h.1
  unfold laws_szInsSS.f
  rw [w64 (by omega) (by omega)]
  by_cases hn : a - (l.length : Int) < 0
  · exact ⟨-1,Ev.pos hn (Ev.now _),.inl (by omega)⟩
  have key:=szl_ev (fun k b i=>laws_szInsSS.l0 k l b i) l (FitL FitA) ?_ ?_ (a - (l.length : Int)) (by omega) (by omega)
  · obtain ⟨v,hv,hr⟩:=key
    refine ⟨v,Ev.neg hn hv,?_⟩
    rcases hr with hr | ⟨r0,r1,r2⟩
    · exact .inl hr
    · exact .inr ⟨r0,by omega,by omega,r2⟩
  · intro b
    refine Ev.step (fun _=>rfl) ?_
    simp only [laws_szInsSS.l0];exact Ev.neg (by omega) (Ev.now _)
  · intro i x b hx b0 b1
    have hi:=lt_of hx
    have hf:=h.2 x (List.mem_of_getElem? hx)
    obtain ⟨v,hv,hr⟩:=szInsS_ev x b hf b0 b1
    refine ⟨v,?_⟩
    rcases hr with hr | ⟨r0,r1,r2⟩
    · refine .inl ⟨hr,Ev.step (fun _=>rfl) ?_⟩
      simp only [laws_szInsSS.l0]
      rw [rdOfE hx]
      exact Ev.pos (by omega) (Ev.pos (by omega) (Ev.bindc hv (Ev.pos hr (Ev.now _))))
    · refine .inr ⟨r0,r1,r2,fun r hh=>Ev.step (fun _=>rfl) ?_⟩
      simp only [laws_szInsSS.l0]
      rw [rdOfE hx,w64 (x:=(i : Int) + 1) (by omega) (by omega)]
      exact Ev.pos (by omega) (Ev.pos (by omega) (Ev.bindc hv (Ev.neg (by omega) hh)))
theorem szInsSSS_ev (l : List (List (List S308))) (a : Int) (h : OkL (OkL (OkL Ok308)) l) (h0 : 0 ≤ a) (h1 : a ≤ 1048576) : ∃ v,Ev (fun k=>laws_szInsSSS.f k l a) v∧(v < 0 ∨ (0 ≤ v∧v ≤ a∧FitL (FitL (FitL FitA)) l)):=by
  have hl:=h.1
  unfold laws_szInsSSS.f
  rw [w64 (by omega) (by omega)]
  by_cases hn : a - (l.length : Int) < 0
  · exact ⟨-1,Ev.pos hn (Ev.now _),.inl (by omega)⟩
  have key:=szl_ev (fun k b i=>laws_szInsSSS.l0 k l b i) l (FitL (FitL FitA)) ?_ ?_ (a - (l.length : Int)) (by omega) (by omega)
  · obtain ⟨v,hv,hr⟩:=key
    refine ⟨v,Ev.neg hn hv,?_⟩
    rcases hr with hr | ⟨r0,r1,r2⟩
    · exact .inl hr
    · exact .inr ⟨r0,by omega,by omega,r2⟩
  · intro b
    refine Ev.step (fun _=>rfl) ?_
    simp only [laws_szInsSSS.l0];exact Ev.neg (by omega) (Ev.now _)
  · intro i x b hx b0 b1
    have hi:=lt_of hx
    have hf:=h.2 x (List.mem_of_getElem? hx)
    obtain ⟨v,hv,hr⟩:=szInsSS_ev x b hf b0 b1
    refine ⟨v,?_⟩
    rcases hr with hr | ⟨r0,r1,r2⟩
    · refine .inl ⟨hr,Ev.step (fun _=>rfl) ?_⟩
      simp only [laws_szInsSSS.l0]
      rw [rdOfE hx]
      exact Ev.pos (by omega) (Ev.pos (by omega) (Ev.bind hv (Ev.pos hr (Ev.now _))))
    · refine .inr ⟨r0,r1,r2,fun r hh=>Ev.step (fun _=>rfl) ?_⟩
      simp only [laws_szInsSSS.l0]
      rw [rdOfE hx,w64 (x:=(i : Int) + 1) (by omega) (by omega)]
      exact Ev.pos (by omega) (Ev.pos (by omega) (Ev.bind hv (Ev.neg (by omega) hh)))
theorem szItemS_ev (l0 : List S266) (a1 : Int) (hl0 : (OkL Ok266) l0) (h0 : 0 ≤ a1) (h1 : a1 ≤ 1048576) : ∃ v,laws_szItemS.f l0 a1 = some v∧(v < 0 ∨ (0 ≤ v∧v ≤ a1∧(FitL FitA) l0)):=by
  have hl:=hl0.1
  unfold laws_szItemS.f
  rw [w64 (by omega) (by omega)]
  by_cases h : a1 - (l0.length : Int) < 0
  · rw [if_pos h];exact ⟨_,rfl,.inl (by omega)⟩
  · rw [if_neg h];exact ⟨_,rfl,.inr ⟨by omega,by omega,by omega,fun x _=>trivial⟩⟩
theorem szRing_ev (l0_0 : List S266) (a0_1 : Int) (a0_2 : Int) (a0_3 : Int) (a1 : Int) (hl0_0 : (OkL Ok266) l0_0) (h0 : 0 ≤ a1) (h1 : a1 ≤ 1048576) : ∃ v,laws_szRing.f l0_0 a0_1 a0_2 a0_3 a1 = some v∧(v < 0 ∨ (0 ≤ v∧v ≤ a1∧(FitL FitA) l0_0)):=by
  unfold laws_szRing.f
  obtain ⟨v1,e1,q1⟩:=szItemS_ev l0_0 a1 hl0_0 (by omega) (by omega)
  rw [e1];simp only [Option.bind_some]
  rcases q1 with q1 | q1
  · rw [if_pos q1];exact ⟨_,rfl,.inl (by omega)⟩
  rw [if_neg (by omega)]
  exact ⟨_,rfl,.inr ⟨by omega,by omega,q1.2.2⟩⟩
theorem rd187 {l : List S187} {i : Nat} {x : S187} (h : l[i]? = some x) : rd_T187 l (i : Int) = x:=by
  unfold rd_T187;simpa using get_of l z187 h
def Fit187 (x : S187) : Prop:=(FitL FitA) x.f0
theorem szRingS_ev (l : List S187) (a : Int) (h : OkL Ok187 l) (h0 : 0 ≤ a) (h1 : a ≤ 1048576) : ∃ v,Ev (fun k=>laws_szRingS.f k l a) v∧(v < 0 ∨ (0 ≤ v∧v ≤ a∧FitL Fit187 l)):=by
  have hl:=h.1
  unfold laws_szRingS.f
  rw [w64 (by omega) (by omega)]
  by_cases hn : a - (l.length : Int) < 0
  · exact ⟨-1,Ev.pos hn (Ev.now _),.inl (by omega)⟩
  have key:=szl_ev (fun k b i=>laws_szRingS.l0 k l b i) l Fit187 ?_ ?_ (a - (l.length : Int)) (by omega) (by omega)
  · obtain ⟨v,hv,hr⟩:=key
    refine ⟨v,Ev.neg hn hv,?_⟩
    rcases hr with hr | ⟨r0,r1,r2⟩
    · exact .inl hr
    · exact .inr ⟨r0,by omega,by omega,r2⟩
  · intro b
    refine Ev.step (fun _=>rfl) ?_
    simp only [laws_szRingS.l0];exact Ev.neg (by omega) (Ev.now _)
  · intro i x b hx b0 b1
    have hi:=lt_of hx
    have hf:=h.2 x (List.mem_of_getElem? hx)
    obtain ⟨o0,o1,o2,o3⟩:=hf
    obtain ⟨v,hv,hr⟩:=szRing_ev x.f0 x.f1 x.f2 x.f3 b o0 b0 b1
    refine ⟨v,?_⟩
    rcases hr with hr | ⟨r0,r1,r2⟩
    · refine .inl ⟨hr,Ev.step (fun _=>rfl) ?_⟩
      simp only [laws_szRingS.l0]
      rw [rd187 hx]
      exact Ev.pos (by omega) (Ev.pos (by omega) (Ev.bindc hv (Ev.pos hr (Ev.now _))))
    · refine .inr ⟨r0,r1,r2,fun r hh=>Ev.step (fun _=>rfl) ?_⟩
      simp only [laws_szRingS.l0]
      rw [rd187 hx,w64 (x:=(i : Int) + 1) (by omega) (by omega)]
      exact Ev.pos (by omega) (Ev.pos (by omega) (Ev.bindc hv (Ev.neg (by omega) hh)))
theorem szSender_ev (a0_0 : Int) (a0_1 : Int) (l0_2 : List S266) (a0_3 : Int) (a0_4 : Int) (a1 : Int) (hl0_2 : (OkL Ok266) l0_2) (h0 : 0 ≤ a1) (h1 : a1 ≤ 1048576) : ∃ v,laws_szSender.f a0_0 a0_1 l0_2 a0_3 a0_4 a1 = some v∧(v < 0 ∨ (0 ≤ v∧v ≤ a1∧(FitL FitA) l0_2)):=by
  unfold laws_szSender.f
  obtain ⟨v1,e1,q1⟩:=szItemS_ev l0_2 a1 hl0_2 (by omega) (by omega)
  rw [e1];simp only [Option.bind_some]
  rcases q1 with q1 | q1
  · rw [if_pos q1];exact ⟨_,rfl,.inl (by omega)⟩
  rw [if_neg (by omega)]
  exact ⟨_,rfl,.inr ⟨by omega,by omega,q1.2.2⟩⟩
theorem rd190 {l : List S190} {i : Nat} {x : S190} (h : l[i]? = some x) : rd_T190 l (i : Int) = x:=by
  unfold rd_T190;simpa using get_of l z190 h
def Fit190 (x : S190) : Prop:=(FitL FitA) x.f2
theorem szSenderS_ev (l : List S190) (a : Int) (h : OkL Ok190 l) (h0 : 0 ≤ a) (h1 : a ≤ 1048576) : ∃ v,Ev (fun k=>laws_szSenderS.f k l a) v∧(v < 0 ∨ (0 ≤ v∧v ≤ a∧FitL Fit190 l)):=by
  have hl:=h.1
  unfold laws_szSenderS.f
  rw [w64 (by omega) (by omega)]
  by_cases hn : a - (l.length : Int) < 0
  · exact ⟨-1,Ev.pos hn (Ev.now _),.inl (by omega)⟩
  have key:=szl_ev (fun k b i=>laws_szSenderS.l0 k l b i) l Fit190 ?_ ?_ (a - (l.length : Int)) (by omega) (by omega)
  · obtain ⟨v,hv,hr⟩:=key
    refine ⟨v,Ev.neg hn hv,?_⟩
    rcases hr with hr | ⟨r0,r1,r2⟩
    · exact .inl hr
    · exact .inr ⟨r0,by omega,by omega,r2⟩
  · intro b
    refine Ev.step (fun _=>rfl) ?_
    simp only [laws_szSenderS.l0];exact Ev.neg (by omega) (Ev.now _)
  · intro i x b hx b0 b1
    have hi:=lt_of hx
    have hf:=h.2 x (List.mem_of_getElem? hx)
    obtain ⟨o0,o1,o2,o3,o4⟩:=hf
    obtain ⟨v,hv,hr⟩:=szSender_ev x.f0 x.f1 x.f2 x.f3 x.f4 b o2 b0 b1
    refine ⟨v,?_⟩
    rcases hr with hr | ⟨r0,r1,r2⟩
    · refine .inl ⟨hr,Ev.step (fun _=>rfl) ?_⟩
      simp only [laws_szSenderS.l0]
      rw [rd190 hx]
      exact Ev.pos (by omega) (Ev.pos (by omega) (Ev.bindc hv (Ev.pos hr (Ev.now _))))
    · refine .inr ⟨r0,r1,r2,fun r hh=>Ev.step (fun _=>rfl) ?_⟩
      simp only [laws_szSenderS.l0]
      rw [rd190 hx,w64 (x:=(i : Int) + 1) (by omega) (by omega)]
      exact Ev.pos (by omega) (Ev.pos (by omega) (Ev.bindc hv (Ev.neg (by omega) hh)))
theorem szEntryS_ev (l0 : List S268) (a1 : Int) (hl0 : (OkL Ok268) l0) (h0 : 0 ≤ a1) (h1 : a1 ≤ 1048576) : ∃ v,laws_szEntryS.f l0 a1 = some v∧(v < 0 ∨ (0 ≤ v∧v ≤ a1∧(FitL FitA) l0)):=by
  have hl:=hl0.1
  unfold laws_szEntryS.f
  rw [w64 (by omega) (by omega)]
  by_cases h : a1 - (l0.length : Int) < 0
  · rw [if_pos h];exact ⟨_,rfl,.inl (by omega)⟩
  · rw [if_neg h];exact ⟨_,rfl,.inr ⟨by omega,by omega,by omega,fun x _=>trivial⟩⟩
theorem szIntS_ev (l0 : List Int) (a1 : Int) (hl0 : (OkL (OkN .i64)) l0) (h0 : 0 ≤ a1) (h1 : a1 ≤ 1048576) : ∃ v,laws_szIntS.f l0 a1 = some v∧(v < 0 ∨ (0 ≤ v∧v ≤ a1∧(FitL FitA) l0)):=by
  have hl:=hl0.1
  unfold laws_szIntS.f
  rw [w64 (by omega) (by omega)]
  by_cases h : a1 - (l0.length : Int) < 0
  · rw [if_pos h];exact ⟨_,rfl,.inl (by omega)⟩
  · rw [if_neg h];exact ⟨_,rfl,.inr ⟨by omega,by omega,by omega,fun x _=>trivial⟩⟩
theorem szEarlyS_ev (l0 : List S270) (a1 : Int) (hl0 : (OkL Ok270) l0) (h0 : 0 ≤ a1) (h1 : a1 ≤ 1048576) : ∃ v,laws_szEarlyS.f l0 a1 = some v∧(v < 0 ∨ (0 ≤ v∧v ≤ a1∧(FitL FitA) l0)):=by
  have hl:=hl0.1
  unfold laws_szEarlyS.f
  rw [w64 (by omega) (by omega)]
  by_cases h : a1 - (l0.length : Int) < 0
  · rw [if_pos h];exact ⟨_,rfl,.inl (by omega)⟩
  · rw [if_neg h];exact ⟨_,rfl,.inr ⟨by omega,by omega,by omega,fun x _=>trivial⟩⟩
theorem szKeeper_ev (l0_0 : List S268) (l0_1 : List Int) (l0_2 : List S270) (a0_3 : Int) (l0_4 : List Int) (a1 : Int) (hl0_0 : (OkL Ok268) l0_0) (hl0_1 : (OkL (OkN .i64)) l0_1) (hl0_2 : (OkL Ok270) l0_2) (hl0_4 : (OkL (OkN .i64)) l0_4) (h0 : 0 ≤ a1) (h1 : a1 ≤ 1048576) : ∃ v,laws_szKeeper.f l0_0 l0_1 l0_2 a0_3 l0_4 a1 = some v∧(v < 0 ∨ (0 ≤ v∧v ≤ a1∧(FitL FitA) l0_0∧(FitL FitA) l0_1∧(FitL FitA) l0_2∧(FitL FitA) l0_4)):=by
  unfold laws_szKeeper.f
  obtain ⟨v1,e1,q1⟩:=szEntryS_ev l0_0 a1 hl0_0 (by omega) (by omega)
  rw [e1];simp only [Option.bind_some]
  rcases q1 with q1 | q1
  · rw [if_pos q1];exact ⟨_,rfl,.inl (by omega)⟩
  rw [if_neg (by omega)]
  obtain ⟨v2,e2,q2⟩:=szIntS_ev l0_1 v1 hl0_1 (by omega) (by omega)
  rw [e2];simp only [Option.bind_some]
  rcases q2 with q2 | q2
  · rw [if_pos q2];exact ⟨_,rfl,.inl (by omega)⟩
  rw [if_neg (by omega)]
  obtain ⟨v3,e3,q3⟩:=szEarlyS_ev l0_2 v2 hl0_2 (by omega) (by omega)
  rw [e3];simp only [Option.bind_some]
  rcases q3 with q3 | q3
  · rw [if_pos q3];exact ⟨_,rfl,.inl (by omega)⟩
  rw [if_neg (by omega)]
  obtain ⟨v4,e4,q4⟩:=szIntS_ev l0_4 v3 hl0_4 (by omega) (by omega)
  rw [e4];simp only [Option.bind_some]
  rcases q4 with q4 | q4
  · rw [if_pos q4];exact ⟨_,rfl,.inl (by omega)⟩
  rw [if_neg (by omega)]
  exact ⟨_,rfl,.inr ⟨by omega,by omega,q1.2.2,q2.2.2,q3.2.2,q4.2.2⟩⟩
theorem szLetter_ev (a0_0 : Bool) (a0_1 : ByteArray) (a0_2 : Bool) (a1 : Int) (ha0_1 : OkS a0_1) (h0 : 0 ≤ a1) (h1 : a1 ≤ 1048576) : ∃ v,laws_szLetter.f a0_0 a0_1 a0_2 a1 = some v∧(v < 0 ∨ (0 ≤ v∧v ≤ a1∧FitS a0_1)):=by
  unfold laws_szLetter.f
  have ga0_1 : a0_1.size ≤ 9223372036854775807:=ha0_1
  rw [w64 (by omega) (by omega)]
  by_cases hsa0_1 : a1 - (a0_1.size : Int) < 0
  · rw [if_pos hsa0_1];exact ⟨_,rfl,.inl (by omega)⟩
  rw [if_neg hsa0_1]
  exact ⟨_,rfl,.inr ⟨by omega,by omega,(show a0_1.size ≤ 1048576 by omega)⟩⟩
theorem rd194 {l : List S194} {i : Nat} {x : S194} (h : l[i]? = some x) : rd_T194 l (i : Int) = x:=by
  unfold rd_T194;simpa using get_of l z194 h
def Fit194 (x : S194) : Prop:=FitS x.f1
theorem szLetterS_ev (l : List S194) (a : Int) (h : OkL Ok194 l) (h0 : 0 ≤ a) (h1 : a ≤ 1048576) : ∃ v,Ev (fun k=>laws_szLetterS.f k l a) v∧(v < 0 ∨ (0 ≤ v∧v ≤ a∧FitL Fit194 l)):=by
  have hl:=h.1
  unfold laws_szLetterS.f
  rw [w64 (by omega) (by omega)]
  by_cases hn : a - (l.length : Int) < 0
  · exact ⟨-1,Ev.pos hn (Ev.now _),.inl (by omega)⟩
  have key:=szl_ev (fun k b i=>laws_szLetterS.l0 k l b i) l Fit194 ?_ ?_ (a - (l.length : Int)) (by omega) (by omega)
  · obtain ⟨v,hv,hr⟩:=key
    refine ⟨v,Ev.neg hn hv,?_⟩
    rcases hr with hr | ⟨r0,r1,r2⟩
    · exact .inl hr
    · exact .inr ⟨r0,by omega,by omega,r2⟩
  · intro b
    refine Ev.step (fun _=>rfl) ?_
    simp only [laws_szLetterS.l0];exact Ev.neg (by omega) (Ev.now _)
  · intro i x b hx b0 b1
    have hi:=lt_of hx
    have hf:=h.2 x (List.mem_of_getElem? hx)
    obtain ⟨o0,o1,o2⟩:=hf
    obtain ⟨v,hv,hr⟩:=szLetter_ev x.f0 x.f1 x.f2 b o1 b0 b1
    refine ⟨v,?_⟩
    rcases hr with hr | ⟨r0,r1,r2⟩
    · refine .inl ⟨hr,Ev.step (fun _=>rfl) ?_⟩
      simp only [laws_szLetterS.l0]
      rw [rd194 hx]
      exact Ev.pos (by omega) (Ev.pos (by omega) (Ev.bindc hv (Ev.pos hr (Ev.now _))))
    · refine .inr ⟨r0,r1,r2,fun r hh=>Ev.step (fun _=>rfl) ?_⟩
      simp only [laws_szLetterS.l0]
      rw [rd194 hx,w64 (x:=(i : Int) + 1) (by omega) (by omega)]
      exact Ev.pos (by omega) (Ev.pos (by omega) (Ev.bindc hv (Ev.neg (by omega) hh)))
theorem szSeenS_ev (l0 : List S210) (a1 : Int) (hl0 : (OkL Ok210) l0) (h0 : 0 ≤ a1) (h1 : a1 ≤ 1048576) : ∃ v,laws_szSeenS.f l0 a1 = some v∧(v < 0 ∨ (0 ≤ v∧v ≤ a1∧(FitL FitA) l0)):=by
  have hl:=hl0.1
  unfold laws_szSeenS.f
  rw [w64 (by omega) (by omega)]
  by_cases h : a1 - (l0.length : Int) < 0
  · rw [if_pos h];exact ⟨_,rfl,.inl (by omega)⟩
  · rw [if_neg h];exact ⟨_,rfl,.inr ⟨by omega,by omega,by omega,fun x _=>trivial⟩⟩
theorem szWorld_ev (l0_0 : List (List (List S308))) (l0_1 : List S187) (l0_2 : List S190) (l0_3 : List S268) (l0_4 : List Int) (l0_5 : List S270) (a0_6 : Int) (l0_7 : List Int) (l0_8 : List S194) (a0_9 : Int) (l0_10 : List Int) (l0_11 : List S210) (a1 : Int) (hl0_0 : (OkL (OkL (OkL Ok308))) l0_0) (hl0_1 : (OkL Ok187) l0_1) (hl0_2 : (OkL Ok190) l0_2) (hl0_3 : (OkL Ok268) l0_3) (hl0_4 : (OkL (OkN .i64)) l0_4) (hl0_5 : (OkL Ok270) l0_5) (hl0_7 : (OkL (OkN .i64)) l0_7) (hl0_8 : (OkL Ok194) l0_8) (hl0_10 : (OkL (OkN .i64)) l0_10) (hl0_11 : (OkL Ok210) l0_11) (h0 : 0 ≤ a1) (h1 : a1 ≤ 1048576) : ∃ v,Ev (fun k=>laws_szWorld.f k l0_0 l0_1 l0_2 l0_3 l0_4 l0_5 a0_6 l0_7 l0_8 a0_9 l0_10 l0_11 a1) v∧(v < 0 ∨ (0 ≤ v∧v ≤ a1∧(FitL (FitL (FitL FitA))) l0_0∧(FitL Fit187) l0_1∧(FitL Fit190) l0_2∧(FitL FitA) l0_3∧(FitL FitA) l0_4∧(FitL FitA) l0_5∧(FitL FitA) l0_7∧(FitL Fit194) l0_8∧(FitL FitA) l0_10∧(FitL FitA) l0_11)):=by
  unfold laws_szWorld.f
  obtain ⟨v1,e1,q1⟩:=szInsSSS_ev l0_0 a1 hl0_0 (by omega) (by omega)
  rcases q1 with q1 | q1
  · exact ⟨-1,Ev.bind e1 (Ev.pos q1 (Ev.now _)),.inl (by omega)⟩
  obtain ⟨v2,e2,q2⟩:=szRingS_ev l0_1 v1 hl0_1 (by omega) (by omega)
  rcases q2 with q2 | q2
  · exact ⟨-1,Ev.bind e1 (Ev.neg (by omega) (Ev.bind e2 (Ev.pos q2 (Ev.now _)))),.inl (by omega)⟩
  obtain ⟨v3,e3,q3⟩:=szSenderS_ev l0_2 v2 hl0_2 (by omega) (by omega)
  rcases q3 with q3 | q3
  · exact ⟨-1,Ev.bind e1 (Ev.neg (by omega) (Ev.bind e2 (Ev.neg (by omega) (Ev.bind e3 (Ev.pos q3 (Ev.now _)))))),.inl (by omega)⟩
  obtain ⟨v4,e4,q4⟩:=szKeeper_ev l0_3 l0_4 l0_5 a0_6 l0_7 v3 hl0_3 hl0_4 hl0_5 hl0_7 (by omega) (by omega)
  rcases q4 with q4 | q4
  · exact ⟨-1,Ev.bind e1 (Ev.neg (by omega) (Ev.bind e2 (Ev.neg (by omega) (Ev.bind e3 (Ev.neg (by omega) (Ev.bindc e4 (Ev.pos q4 (Ev.now _)))))))),.inl (by omega)⟩
  obtain ⟨v5,e5,q5⟩:=szLetterS_ev l0_8 v4 hl0_8 (by omega) (by omega)
  rcases q5 with q5 | q5
  · exact ⟨-1,Ev.bind e1 (Ev.neg (by omega) (Ev.bind e2 (Ev.neg (by omega) (Ev.bind e3 (Ev.neg (by omega) (Ev.bindc e4 (Ev.neg (by omega) (Ev.bind e5 (Ev.pos q5 (Ev.now _)))))))))),.inl (by omega)⟩
  obtain ⟨v6,e6,q6⟩:=szIntS_ev l0_10 v5 hl0_10 (by omega) (by omega)
  rcases q6 with q6 | q6
  · exact ⟨-1,Ev.bind e1 (Ev.neg (by omega) (Ev.bind e2 (Ev.neg (by omega) (Ev.bind e3 (Ev.neg (by omega) (Ev.bindc e4 (Ev.neg (by omega) (Ev.bind e5 (Ev.neg (by omega) (Ev.bindc e6 (Ev.pos q6 (Ev.now _)))))))))))),.inl (by omega)⟩
  obtain ⟨v7,e7,q7⟩:=szSeenS_ev l0_11 v6 hl0_11 (by omega) (by omega)
  rcases q7 with q7 | q7
  · exact ⟨-1,Ev.bind e1 (Ev.neg (by omega) (Ev.bind e2 (Ev.neg (by omega) (Ev.bind e3 (Ev.neg (by omega) (Ev.bindc e4 (Ev.neg (by omega) (Ev.bind e5 (Ev.neg (by omega) (Ev.bindc e6 (Ev.neg (by omega) (Ev.bindc e7 (Ev.pos q7 (Ev.now _)))))))))))))),.inl (by omega)⟩
  exact ⟨v7,Ev.bind e1 (Ev.neg (by omega) (Ev.bind e2 (Ev.neg (by omega) (Ev.bind e3 (Ev.neg (by omega) (Ev.bindc e4 (Ev.neg (by omega) (Ev.bind e5 (Ev.neg (by omega) (Ev.bindc e6 (Ev.neg (by omega) (Ev.bindc e7 (Ev.neg (by omega) (Ev.now _)))))))))))))),.inr ⟨by omega,by omega,q1.2.2,q2.2.2,q3.2.2,q4.2.2.1,q4.2.2.2.1,q4.2.2.2.2.1,q4.2.2.2.2.2,q5.2.2,q6.2.2,q7.2.2⟩⟩
theorem toIns_ev (a0_0 : Int) (a0_1 : Int) (a0_2 : Int) (a0_3 : Int) : laws_toIns.f a0_0 a0_1 a0_2 a0_3 = some (a0_0,a0_1,a0_2,a0_3):=rfl
theorem rd308 {l : List S308} {i : Nat} {x : S308} (h : l[i]? = some x) : rd_T308 l (i : Int) = x:=by
  unfold rd_T308;simpa using get_of l z308 h
def cvS308_S234 (x : S308) : S234:=⟨x.f0,x.f1,x.f2,x.f3⟩
theorem toInsS_ev (l : List S308) (h : FitL FitA l) : Ev (fun k=>laws_toInsS.f k l) (l.map cvS308_S234):=by
  unfold laws_toInsS.f
  have hl:=h.1
  refine Ev.pos (by omega) (Ev.pos (by omega) ?_)
  rw [Int.toNat_natCast]
  refine copy_ev (fun k out i=>laws_toInsS.l0 k l out i) l cvS308_S234 z234 ?_ ?_
  · intro out
    refine Ev.step (fun _=>rfl) ?_
    simp only [laws_toInsS.l0];exact Ev.neg (by omega) (Ev.now _)
  · intro i x out r hx ho hh
    have hi:=lt_of hx
    have hf:=h.2 x (List.mem_of_getElem? hx)
    refine Ev.step (fun _=>rfl) ?_
    simp only [laws_toInsS.l0]
    rw [rd308 hx,w64 (x:=(i : Int) + 1) (by omega) (by omega),Int.toNat_natCast]
    refine Ev.pos (by omega) (Ev.pos (by omega) ?_)
    refine Ev.bindc (toIns_ev x.f0 x.f1 x.f2 x.f3 ) ?_
    first
      | exact Ev.pos (by omega) hh
      | exact hh
theorem toInsSS_ev (l : List (List S308)) (h : FitL (FitL FitA) l) : Ev (fun k=>laws_toInsSS.f k l) (l.map (List.map cvS308_S234)):=by
  unfold laws_toInsSS.f
  have hl:=h.1
  refine Ev.pos (by omega) (Ev.pos (by omega) ?_)
  rw [Int.toNat_natCast]
  refine copy_ev (fun k out i=>laws_toInsSS.l0 k l out i) l (List.map cvS308_S234) ([] : List S234) ?_ ?_
  · intro out
    refine Ev.step (fun _=>rfl) ?_
    simp only [laws_toInsSS.l0];exact Ev.neg (by omega) (Ev.now _)
  · intro i x out r hx ho hh
    have hi:=lt_of hx
    have hf:=h.2 x (List.mem_of_getElem? hx)
    refine Ev.step (fun _=>rfl) ?_
    simp only [laws_toInsSS.l0]
    rw [rdOfE hx,w64 (x:=(i : Int) + 1) (by omega) (by omega),Int.toNat_natCast]
    refine Ev.pos (by omega) (Ev.pos (by omega) ?_)
    refine Ev.bind (toInsS_ev x (by first | exact hf | exact hf.1 | exact hf.2 | exact hf.2.1 | exact hf.1.1)) ?_
    first
      | exact Ev.pos (by omega) hh
      | exact hh
theorem toInsSSS_ev (l : List (List (List S308))) (h : FitL (FitL (FitL FitA)) l) : Ev (fun k=>laws_toInsSSS.f k l) (l.map (List.map (List.map cvS308_S234))):=by
  unfold laws_toInsSSS.f
  have hl:=h.1
  refine Ev.pos (by omega) (Ev.pos (by omega) ?_)
  rw [Int.toNat_natCast]
  refine copy_ev (fun k out i=>laws_toInsSSS.l0 k l out i) l (List.map (List.map cvS308_S234)) ([] : List (List S234)) ?_ ?_
  · intro out
    refine Ev.step (fun _=>rfl) ?_
    simp only [laws_toInsSSS.l0];exact Ev.neg (by omega) (Ev.now _)
  · intro i x out r hx ho hh
    have hi:=lt_of hx
    have hf:=h.2 x (List.mem_of_getElem? hx)
    refine Ev.step (fun _=>rfl) ?_
    simp only [laws_toInsSSS.l0]
    rw [rdOfE hx,w64 (x:=(i : Int) + 1) (by omega) (by omega),Int.toNat_natCast]
    refine Ev.pos (by omega) (Ev.pos (by omega) ?_)
    refine Ev.bind (toInsSS_ev x (by first | exact hf | exact hf.1 | exact hf.2 | exact hf.2.1 | exact hf.1.1)) ?_
    first
      | exact Ev.pos (by omega) hh
      | exact hh
theorem toItem_ev (a0_0 : Int) (a0_1 : Int) (a0_2 : Int) (a0_3 : Int) : laws_toItem.f a0_0 a0_1 a0_2 a0_3 = some (a0_0,a0_1,a0_2,a0_3):=rfl
theorem rd266 {l : List S266} {i : Nat} {x : S266} (h : l[i]? = some x) : rd_T266 l (i : Int) = x:=by
  unfold rd_T266;simpa using get_of l z266 h
def cvS266_S63 (x : S266) : S63:=⟨x.f0,x.f1,x.f2,x.f3⟩
theorem toItemS_ev (l : List S266) (h : FitL FitA l) : Ev (fun k=>laws_toItemS.f k l) (l.map cvS266_S63):=by
  unfold laws_toItemS.f
  have hl:=h.1
  refine Ev.pos (by omega) (Ev.pos (by omega) ?_)
  rw [Int.toNat_natCast]
  refine copy_ev (fun k out i=>laws_toItemS.l0 k l out i) l cvS266_S63 z63 ?_ ?_
  · intro out
    refine Ev.step (fun _=>rfl) ?_
    simp only [laws_toItemS.l0];exact Ev.neg (by omega) (Ev.now _)
  · intro i x out r hx ho hh
    have hi:=lt_of hx
    have hf:=h.2 x (List.mem_of_getElem? hx)
    refine Ev.step (fun _=>rfl) ?_
    simp only [laws_toItemS.l0]
    rw [rd266 hx,w64 (x:=(i : Int) + 1) (by omega) (by omega),Int.toNat_natCast]
    refine Ev.pos (by omega) (Ev.pos (by omega) ?_)
    refine Ev.bindc (toItem_ev x.f0 x.f1 x.f2 x.f3 ) ?_
    first
      | exact Ev.pos (by omega) hh
      | exact hh
theorem toRing_ev (l0_0 : List S266) (a0_1 : Int) (a0_2 : Int) (a0_3 : Int) (hl0_0 : (FitL FitA) l0_0) : Ev (fun k=>laws_toRing.f k l0_0 a0_1 a0_2 a0_3) (l0_0.map cvS266_S63,a0_1,a0_2,a0_3):=by
  unfold laws_toRing.f
  repeat (first | (refine Ev.bind (toItemS_ev _ (by assumption)) ?_;try dsimp only))
  exact Ev.now _
def cvS187_S67 (x : S187) : S67:=⟨(List.map cvS266_S63) x.f0,x.f1,x.f2,x.f3⟩
theorem toRingS_ev (l : List S187) (h : FitL Fit187 l) : Ev (fun k=>laws_toRingS.f k l) (l.map cvS187_S67):=by
  unfold laws_toRingS.f
  have hl:=h.1
  refine Ev.pos (by omega) (Ev.pos (by omega) ?_)
  rw [Int.toNat_natCast]
  refine copy_ev (fun k out i=>laws_toRingS.l0 k l out i) l cvS187_S67 z67 ?_ ?_
  · intro out
    refine Ev.step (fun _=>rfl) ?_
    simp only [laws_toRingS.l0];exact Ev.neg (by omega) (Ev.now _)
  · intro i x out r hx ho hh
    have hi:=lt_of hx
    have hf:=h.2 x (List.mem_of_getElem? hx)
    refine Ev.step (fun _=>rfl) ?_
    simp only [laws_toRingS.l0]
    rw [rd187 hx,w64 (x:=(i : Int) + 1) (by omega) (by omega),Int.toNat_natCast]
    refine Ev.pos (by omega) (Ev.pos (by omega) ?_)
    refine Ev.bind (toRing_ev x.f0 x.f1 x.f2 x.f3 (by first | exact hf | exact hf.1 | exact hf.2 | exact hf.2.1 | exact hf.1.1)) ?_
    first
      | exact Ev.pos (by omega) hh
      | exact hh
theorem toSender_ev (a0_0 : Int) (a0_1 : Int) (l0_2 : List S266) (a0_3 : Int) (a0_4 : Int) (hl0_2 : (FitL FitA) l0_2) : Ev (fun k=>laws_toSender.f k a0_0 a0_1 l0_2 a0_3 a0_4) (a0_0,a0_1,l0_2.map cvS266_S63,a0_3,a0_4):=by
  unfold laws_toSender.f
  repeat (first | (refine Ev.bind (toItemS_ev _ (by assumption)) ?_;try dsimp only))
  exact Ev.now _
def cvS190_S65 (x : S190) : S65:=⟨x.f0,x.f1,(List.map cvS266_S63) x.f2,x.f3,x.f4⟩
theorem toSenderS_ev (l : List S190) (h : FitL Fit190 l) : Ev (fun k=>laws_toSenderS.f k l) (l.map cvS190_S65):=by
  unfold laws_toSenderS.f
  have hl:=h.1
  refine Ev.pos (by omega) (Ev.pos (by omega) ?_)
  rw [Int.toNat_natCast]
  refine copy_ev (fun k out i=>laws_toSenderS.l0 k l out i) l cvS190_S65 z65 ?_ ?_
  · intro out
    refine Ev.step (fun _=>rfl) ?_
    simp only [laws_toSenderS.l0];exact Ev.neg (by omega) (Ev.now _)
  · intro i x out r hx ho hh
    have hi:=lt_of hx
    have hf:=h.2 x (List.mem_of_getElem? hx)
    refine Ev.step (fun _=>rfl) ?_
    simp only [laws_toSenderS.l0]
    rw [rd190 hx,w64 (x:=(i : Int) + 1) (by omega) (by omega),Int.toNat_natCast]
    refine Ev.pos (by omega) (Ev.pos (by omega) ?_)
    refine Ev.bind (toSender_ev x.f0 x.f1 x.f2 x.f3 x.f4 (by first | exact hf | exact hf.1 | exact hf.2 | exact hf.2.1 | exact hf.1.1)) ?_
    first
      | exact Ev.pos (by omega) hh
      | exact hh
theorem toEntry_ev (a0_0 : Int) (a0_1 : Int) (a0_2 : Int) (a0_3 : Int) (a0_4 : Int) (a0_5 : Int) : laws_toEntry.f a0_0 a0_1 a0_2 a0_3 a0_4 a0_5 = some (a0_0,a0_1,a0_2,a0_3,a0_4,a0_5):=rfl
theorem rd268 {l : List S268} {i : Nat} {x : S268} (h : l[i]? = some x) : rd_T268 l (i : Int) = x:=by
  unfold rd_T268;simpa using get_of l z268 h
def cvS268_S139 (x : S268) : S139:=⟨x.f0,x.f1,cvS266_S63 x.f2⟩
theorem toEntryS_ev (l : List S268) (h : FitL FitA l) : Ev (fun k=>laws_toEntryS.f k l) (l.map cvS268_S139):=by
  unfold laws_toEntryS.f
  have hl:=h.1
  refine Ev.pos (by omega) (Ev.pos (by omega) ?_)
  rw [Int.toNat_natCast]
  refine copy_ev (fun k out i=>laws_toEntryS.l0 k l out i) l cvS268_S139 z139 ?_ ?_
  · intro out
    refine Ev.step (fun _=>rfl) ?_
    simp only [laws_toEntryS.l0];exact Ev.neg (by omega) (Ev.now _)
  · intro i x out r hx ho hh
    have hi:=lt_of hx
    have hf:=h.2 x (List.mem_of_getElem? hx)
    refine Ev.step (fun _=>rfl) ?_
    simp only [laws_toEntryS.l0]
    rw [rd268 hx,w64 (x:=(i : Int) + 1) (by omega) (by omega),Int.toNat_natCast]
    refine Ev.pos (by omega) (Ev.pos (by omega) ?_)
    refine Ev.bindc (toEntry_ev x.f0 x.f1 x.f2.f0 x.f2.f1 x.f2.f2 x.f2.f3 ) ?_
    first
      | exact Ev.pos (by omega) hh
      | exact hh
theorem rdInt {l : List Int} {i : Nat} {x : Int} (h : l[i]? = some x) : rd l (i : Int) = x:=by
  unfold rd;simpa using get_of l 0 h
theorem toIntS_ev (l : List Int) (h : FitL FitA l) : Ev (fun k=>laws_toIntS.f k l) (l):=by
  unfold laws_toIntS.f
  have hl:=h.1
  refine Ev.eq (List.map_id' l) ?_
  refine Ev.pos (by omega) (Ev.pos (by omega) ?_)
  rw [Int.toNat_natCast]
  refine copy_ev (fun k out i=>laws_toIntS.l0 k l out i) l (fun x : Int=>x) (0 : Int) ?_ ?_
  · intro out
    refine Ev.step (fun _=>rfl) ?_
    simp only [laws_toIntS.l0];exact Ev.neg (by omega) (Ev.now _)
  · intro i x out r hx ho hh
    have hi:=lt_of hx
    have hf:=h.2 x (List.mem_of_getElem? hx)
    refine Ev.step (fun _=>rfl) ?_
    simp only [laws_toIntS.l0]
    rw [rdInt hx,w64 (x:=(i : Int) + 1) (by omega) (by omega),Int.toNat_natCast]
    refine Ev.pos (by omega) (Ev.pos (by omega) ?_)
    first
      | exact Ev.pos (by omega) hh
      | exact hh
theorem toEarly_ev (a0_0 : Int) (a0_1 : Int) (a0_2 : Int) (a0_3 : Int) (a0_4 : Int) (a0_5 : Int) : laws_toEarly.f a0_0 a0_1 a0_2 a0_3 a0_4 a0_5 = some (a0_0,a0_1,a0_2,a0_3,a0_4,a0_5):=rfl
theorem rd270 {l : List S270} {i : Nat} {x : S270} (h : l[i]? = some x) : rd_T270 l (i : Int) = x:=by
  unfold rd_T270;simpa using get_of l z270 h
def cvS270_S154 (x : S270) : S154:=⟨x.f0,x.f1,cvS266_S63 x.f2⟩
theorem toEarlyS_ev (l : List S270) (h : FitL FitA l) : Ev (fun k=>laws_toEarlyS.f k l) (l.map cvS270_S154):=by
  unfold laws_toEarlyS.f
  have hl:=h.1
  refine Ev.pos (by omega) (Ev.pos (by omega) ?_)
  rw [Int.toNat_natCast]
  refine copy_ev (fun k out i=>laws_toEarlyS.l0 k l out i) l cvS270_S154 z154 ?_ ?_
  · intro out
    refine Ev.step (fun _=>rfl) ?_
    simp only [laws_toEarlyS.l0];exact Ev.neg (by omega) (Ev.now _)
  · intro i x out r hx ho hh
    have hi:=lt_of hx
    have hf:=h.2 x (List.mem_of_getElem? hx)
    refine Ev.step (fun _=>rfl) ?_
    simp only [laws_toEarlyS.l0]
    rw [rd270 hx,w64 (x:=(i : Int) + 1) (by omega) (by omega),Int.toNat_natCast]
    refine Ev.pos (by omega) (Ev.pos (by omega) ?_)
    refine Ev.bindc (toEarly_ev x.f0 x.f1 x.f2.f0 x.f2.f1 x.f2.f2 x.f2.f3 ) ?_
    first
      | exact Ev.pos (by omega) hh
      | exact hh
theorem toKeeper_ev (l0_0 : List S268) (l0_1 : List Int) (l0_2 : List S270) (a0_3 : Int) (l0_4 : List Int) (hl0_0 : (FitL FitA) l0_0) (hl0_1 : (FitL FitA) l0_1) (hl0_2 : (FitL FitA) l0_2) (hl0_4 : (FitL FitA) l0_4) : Ev (fun k=>laws_toKeeper.f k l0_0 l0_1 l0_2 a0_3 l0_4) (l0_0.map cvS268_S139,l0_1,l0_2.map cvS270_S154,a0_3,l0_4):=by
  unfold laws_toKeeper.f
  repeat (first | (refine Ev.bind (toEarlyS_ev _ (by assumption)) ?_;try dsimp only) | (refine Ev.bind (toEntryS_ev _ (by assumption)) ?_;try dsimp only) | (refine Ev.bind (toIntS_ev _ (by assumption)) ?_;try dsimp only))
  exact Ev.now _
theorem toLetter_ev (a0_0 : Bool) (a0_1 : ByteArray) (a0_2 : Bool) (ha0_1 : FitS a0_1) : laws_toLetter.f a0_0 a0_1 a0_2 = some (a0_0,a0_1,a0_2):=rfl
def cvS194_S151 (x : S194) : S151:=⟨x.f0,x.f1,x.f2⟩
theorem toLetterS_ev (l : List S194) (h : FitL Fit194 l) : Ev (fun k=>laws_toLetterS.f k l) (l.map cvS194_S151):=by
  unfold laws_toLetterS.f
  have hl:=h.1
  refine Ev.pos (by omega) (Ev.pos (by omega) ?_)
  rw [Int.toNat_natCast]
  refine copy_ev (fun k out i=>laws_toLetterS.l0 k l out i) l cvS194_S151 z151 ?_ ?_
  · intro out
    refine Ev.step (fun _=>rfl) ?_
    simp only [laws_toLetterS.l0];exact Ev.neg (by omega) (Ev.now _)
  · intro i x out r hx ho hh
    have hi:=lt_of hx
    have hf:=h.2 x (List.mem_of_getElem? hx)
    refine Ev.step (fun _=>rfl) ?_
    simp only [laws_toLetterS.l0]
    rw [rd194 hx,w64 (x:=(i : Int) + 1) (by omega) (by omega),Int.toNat_natCast]
    refine Ev.pos (by omega) (Ev.pos (by omega) ?_)
    refine Ev.bindc (toLetter_ev x.f0 x.f1 x.f2 (by first | exact hf | exact hf.1 | exact hf.2 | exact hf.2.1 | exact hf.1.1)) ?_
    first
      | exact Ev.pos (by omega) hh
      | exact hh
theorem toSeen_ev (a0_0 : Int) (a0_1 : Int) (a0_2 : Int) (a0_3 : Bool) : laws_toSeen.f a0_0 a0_1 a0_2 a0_3 = some (a0_0,a0_1,a0_2,a0_3):=rfl
theorem rd210 {l : List S210} {i : Nat} {x : S210} (h : l[i]? = some x) : rd_T210 l (i : Int) = x:=by
  unfold rd_T210;simpa using get_of l z210 h
def cvS210_S59 (x : S210) : S59:=⟨x.f0,x.f1,x.f2,x.f3⟩
theorem toSeenS_ev (l : List S210) (h : FitL FitA l) : Ev (fun k=>laws_toSeenS.f k l) (l.map cvS210_S59):=by
  unfold laws_toSeenS.f
  have hl:=h.1
  refine Ev.pos (by omega) (Ev.pos (by omega) ?_)
  rw [Int.toNat_natCast]
  refine copy_ev (fun k out i=>laws_toSeenS.l0 k l out i) l cvS210_S59 z59 ?_ ?_
  · intro out
    refine Ev.step (fun _=>rfl) ?_
    simp only [laws_toSeenS.l0];exact Ev.neg (by omega) (Ev.now _)
  · intro i x out r hx ho hh
    have hi:=lt_of hx
    have hf:=h.2 x (List.mem_of_getElem? hx)
    refine Ev.step (fun _=>rfl) ?_
    simp only [laws_toSeenS.l0]
    rw [rd210 hx,w64 (x:=(i : Int) + 1) (by omega) (by omega),Int.toNat_natCast]
    refine Ev.pos (by omega) (Ev.pos (by omega) ?_)
    refine Ev.bindc (toSeen_ev x.f0 x.f1 x.f2 x.f3 ) ?_
    first
      | exact Ev.pos (by omega) hh
      | exact hh
theorem toWorld_ev (l0_0 : List (List (List S308))) (l0_1 : List S187) (l0_2 : List S190) (l0_3 : List S268) (l0_4 : List Int) (l0_5 : List S270) (a0_6 : Int) (l0_7 : List Int) (l0_8 : List S194) (a0_9 : Int) (l0_10 : List Int) (l0_11 : List S210) (hl0_0 : (FitL (FitL (FitL FitA))) l0_0) (hl0_1 : (FitL Fit187) l0_1) (hl0_2 : (FitL Fit190) l0_2) (hl0_3 : (FitL FitA) l0_3) (hl0_4 : (FitL FitA) l0_4) (hl0_5 : (FitL FitA) l0_5) (hl0_7 : (FitL FitA) l0_7) (hl0_8 : (FitL Fit194) l0_8) (hl0_10 : (FitL FitA) l0_10) (hl0_11 : (FitL FitA) l0_11) : Ev (fun k=>laws_toWorld.f k l0_0 l0_1 l0_2 l0_3 l0_4 l0_5 a0_6 l0_7 l0_8 a0_9 l0_10 l0_11) (l0_0.map (List.map (List.map cvS308_S234)),l0_1.map cvS187_S67,l0_2.map cvS190_S65,l0_3.map cvS268_S139,l0_4,l0_5.map cvS270_S154,a0_6,l0_7,l0_8.map cvS194_S151,a0_9,l0_10,l0_11.map cvS210_S59):=by
  unfold laws_toWorld.f
  repeat (first | (refine Ev.bind (toInsSSS_ev _ (by assumption)) ?_;try dsimp only) | (refine Ev.bind (toIntS_ev _ (by assumption)) ?_;try dsimp only) | (refine Ev.bind (toKeeper_ev _ _ _ _ _ (by assumption) (by assumption) (by assumption) (by assumption)) ?_;try dsimp only) | (refine Ev.bind (toLetterS_ev _ (by assumption)) ?_;try dsimp only) | (refine Ev.bind (toRingS_ev _ (by assumption)) ?_;try dsimp only) | (refine Ev.bind (toSeenS_ev _ (by assumption)) ?_;try dsimp only) | (refine Ev.bind (toSenderS_ev _ (by assumption)) ?_;try dsimp only))
  exact Ev.now _
theorem eqIns_ev (a0_0 : Int) (a0_1 : Int) (a0_2 : Int) (a0_3 : Int) : laws_eqIns.f a0_0 a0_1 a0_2 a0_3 a0_0 a0_1 a0_2 a0_3 = some true:=by simp [laws_eqIns.f]
theorem rd234 {l : List S234} {i : Nat} {x : S234} (h : l[i]? = some x) : rd_T234 l (i : Int) = x:=by
  unfold rd_T234;simpa using get_of l z234 h
theorem eqInsS_ev (l : List S234) (h : FitL FitA l) : Ev (fun k=>laws_eqInsS.f k l l) true:=by
  unfold laws_eqInsS.f
  have hl:=h.1
  refine Ev.pos rfl ?_
  refine same_ev (fun k i=>laws_eqInsS.l0 k l l i) l ?_ ?_
  · refine Ev.step (fun _=>rfl) ?_
    simp only [laws_eqInsS.l0];exact Ev.neg (by omega) (Ev.now _)
  · intro i x hx hh
    have hi:=lt_of hx
    have hf:=h.2 x (List.mem_of_getElem? hx)
    refine Ev.step (fun _=>rfl) ?_
    simp only [laws_eqInsS.l0]
    try rw [rd234 hx]
    rw [w64 (x:=(i : Int) + 1) (by omega) (by omega)]
    refine Ev.pos (by omega) (Ev.pos (by omega) (Ev.pos (by omega) ?_))
    refine Ev.bindc (eqIns_ev x.f0 x.f1 x.f2 x.f3 ) ?_
    first
      | exact Ev.pos rfl hh
      | exact Ev.pos (by simp) hh
      | exact Ev.neg (by simp) hh
theorem eqInsSS_ev (l : List (List S234)) (h : FitL (FitL FitA) l) : Ev (fun k=>laws_eqInsSS.f k l l) true:=by
  unfold laws_eqInsSS.f
  have hl:=h.1
  refine Ev.pos rfl ?_
  refine same_ev (fun k i=>laws_eqInsSS.l0 k l l i) l ?_ ?_
  · refine Ev.step (fun _=>rfl) ?_
    simp only [laws_eqInsSS.l0];exact Ev.neg (by omega) (Ev.now _)
  · intro i x hx hh
    have hi:=lt_of hx
    have hf:=h.2 x (List.mem_of_getElem? hx)
    refine Ev.step (fun _=>rfl) ?_
    simp only [laws_eqInsSS.l0]
    try rw [rdOfE hx]
    rw [w64 (x:=(i : Int) + 1) (by omega) (by omega)]
    refine Ev.pos (by omega) (Ev.pos (by omega) (Ev.pos (by omega) ?_))
    refine Ev.bind (eqInsS_ev x (by first | exact hf | exact hf.1 | exact hf.2 | exact hf.2.1 | exact hf.1.1)) ?_
    first
      | exact Ev.pos rfl hh
      | exact Ev.pos (by simp) hh
      | exact Ev.neg (by simp) hh
theorem eqInsSSS_ev (l : List (List (List S234))) (h : FitL (FitL (FitL FitA)) l) : Ev (fun k=>laws_eqInsSSS.f k l l) true:=by
  unfold laws_eqInsSSS.f
  have hl:=h.1
  refine Ev.pos rfl ?_
  refine same_ev (fun k i=>laws_eqInsSSS.l0 k l l i) l ?_ ?_
  · refine Ev.step (fun _=>rfl) ?_
    simp only [laws_eqInsSSS.l0];exact Ev.neg (by omega) (Ev.now _)
  · intro i x hx hh
    have hi:=lt_of hx
    have hf:=h.2 x (List.mem_of_getElem? hx)
    refine Ev.step (fun _=>rfl) ?_
    simp only [laws_eqInsSSS.l0]
    try rw [rdOfE hx]
    rw [w64 (x:=(i : Int) + 1) (by omega) (by omega)]
    refine Ev.pos (by omega) (Ev.pos (by omega) (Ev.pos (by omega) ?_))
    refine Ev.bind (eqInsSS_ev x (by first | exact hf | exact hf.1 | exact hf.2 | exact hf.2.1 | exact hf.1.1)) ?_
    first
      | exact Ev.pos rfl hh
      | exact Ev.pos (by simp) hh
      | exact Ev.neg (by simp) hh
theorem eqItem_ev (a0_0 : Int) (a0_1 : Int) (a0_2 : Int) (a0_3 : Int) : laws_eqItem.f a0_0 a0_1 a0_2 a0_3 a0_0 a0_1 a0_2 a0_3 = some true:=by simp [laws_eqItem.f]
theorem rd63 {l : List S63} {i : Nat} {x : S63} (h : l[i]? = some x) : rd_T63 l (i : Int) = x:=by
  unfold rd_T63;simpa using get_of l z63 h
theorem eqItemS_ev (l : List S63) (h : FitL FitA l) : Ev (fun k=>laws_eqItemS.f k l l) true:=by
  unfold laws_eqItemS.f
  have hl:=h.1
  refine Ev.pos rfl ?_
  refine same_ev (fun k i=>laws_eqItemS.l0 k l l i) l ?_ ?_
  · refine Ev.step (fun _=>rfl) ?_
    simp only [laws_eqItemS.l0];exact Ev.neg (by omega) (Ev.now _)
  · intro i x hx hh
    have hi:=lt_of hx
    have hf:=h.2 x (List.mem_of_getElem? hx)
    refine Ev.step (fun _=>rfl) ?_
    simp only [laws_eqItemS.l0]
    try rw [rd63 hx]
    rw [w64 (x:=(i : Int) + 1) (by omega) (by omega)]
    refine Ev.pos (by omega) (Ev.pos (by omega) (Ev.pos (by omega) ?_))
    refine Ev.bindc (eqItem_ev x.f0 x.f1 x.f2 x.f3 ) ?_
    first
      | exact Ev.pos rfl hh
      | exact Ev.pos (by simp) hh
      | exact Ev.neg (by simp) hh
theorem eqRing_ev (l0_0 : List S63) (a0_1 : Int) (a0_2 : Int) (a0_3 : Int) (hl0_0 : (FitL FitA) l0_0) : Ev (fun k=>laws_eqRing.f k l0_0 a0_1 a0_2 a0_3 l0_0 a0_1 a0_2 a0_3) true:=by
  unfold laws_eqRing.f
  repeat (first | refine Ev.pos rfl ?_ | refine Ev.neg (by simp) ?_ | refine Ev.pos (by simp) ?_ | (refine Ev.bind (eqItemS_ev _ (by assumption)) ?_;try dsimp only))
  exact Ev.now _
theorem rd67 {l : List S67} {i : Nat} {x : S67} (h : l[i]? = some x) : rd_T67 l (i : Int) = x:=by
  unfold rd_T67;simpa using get_of l z67 h
def Fit67 (x : S67) : Prop:=(FitL FitA) x.f0
theorem eqRingS_ev (l : List S67) (h : FitL Fit67 l) : Ev (fun k=>laws_eqRingS.f k l l) true:=by
  unfold laws_eqRingS.f
  have hl:=h.1
  refine Ev.pos rfl ?_
  refine same_ev (fun k i=>laws_eqRingS.l0 k l l i) l ?_ ?_
  · refine Ev.step (fun _=>rfl) ?_
    simp only [laws_eqRingS.l0];exact Ev.neg (by omega) (Ev.now _)
  · intro i x hx hh
    have hi:=lt_of hx
    have hf:=h.2 x (List.mem_of_getElem? hx)
    refine Ev.step (fun _=>rfl) ?_
    simp only [laws_eqRingS.l0]
    try rw [rd67 hx]
    rw [w64 (x:=(i : Int) + 1) (by omega) (by omega)]
    refine Ev.pos (by omega) (Ev.pos (by omega) (Ev.pos (by omega) ?_))
    refine Ev.bind (eqRing_ev x.f0 x.f1 x.f2 x.f3 (by first | exact hf | exact hf.1 | exact hf.2 | exact hf.2.1 | exact hf.1.1)) ?_
    first
      | exact Ev.pos rfl hh
      | exact Ev.pos (by simp) hh
      | exact Ev.neg (by simp) hh
theorem eqSender_ev (a0_0 : Int) (a0_1 : Int) (l0_2 : List S63) (a0_3 : Int) (a0_4 : Int) (hl0_2 : (FitL FitA) l0_2) : Ev (fun k=>laws_eqSender.f k a0_0 a0_1 l0_2 a0_3 a0_4 a0_0 a0_1 l0_2 a0_3 a0_4) true:=by
  unfold laws_eqSender.f
  repeat (first | refine Ev.pos rfl ?_ | refine Ev.neg (by simp) ?_ | refine Ev.pos (by simp) ?_ | (refine Ev.bind (eqItemS_ev _ (by assumption)) ?_;try dsimp only))
  exact Ev.now _
theorem rd65 {l : List S65} {i : Nat} {x : S65} (h : l[i]? = some x) : rd_T65 l (i : Int) = x:=by
  unfold rd_T65;simpa using get_of l z65 h
def Fit65 (x : S65) : Prop:=(FitL FitA) x.f2
theorem eqSenderS_ev (l : List S65) (h : FitL Fit65 l) : Ev (fun k=>laws_eqSenderS.f k l l) true:=by
  unfold laws_eqSenderS.f
  have hl:=h.1
  refine Ev.pos rfl ?_
  refine same_ev (fun k i=>laws_eqSenderS.l0 k l l i) l ?_ ?_
  · refine Ev.step (fun _=>rfl) ?_
    simp only [laws_eqSenderS.l0];exact Ev.neg (by omega) (Ev.now _)
  · intro i x hx hh
    have hi:=lt_of hx
    have hf:=h.2 x (List.mem_of_getElem? hx)
    refine Ev.step (fun _=>rfl) ?_
    simp only [laws_eqSenderS.l0]
    try rw [rd65 hx]
    rw [w64 (x:=(i : Int) + 1) (by omega) (by omega)]
    refine Ev.pos (by omega) (Ev.pos (by omega) (Ev.pos (by omega) ?_))
    refine Ev.bind (eqSender_ev x.f0 x.f1 x.f2 x.f3 x.f4 (by first | exact hf | exact hf.1 | exact hf.2 | exact hf.2.1 | exact hf.1.1)) ?_
    first
      | exact Ev.pos rfl hh
      | exact Ev.pos (by simp) hh
      | exact Ev.neg (by simp) hh
theorem eqEntry_ev (a0_0 : Int) (a0_1 : Int) (a0_2 : Int) (a0_3 : Int) (a0_4 : Int) (a0_5 : Int) : laws_eqEntry.f a0_0 a0_1 a0_2 a0_3 a0_4 a0_5 a0_0 a0_1 a0_2 a0_3 a0_4 a0_5 = some true:=by simp [laws_eqEntry.f,laws_eqItem.f]
theorem rd139 {l : List S139} {i : Nat} {x : S139} (h : l[i]? = some x) : rd_T139 l (i : Int) = x:=by
  unfold rd_T139;simpa using get_of l z139 h
theorem eqEntryS_ev (l : List S139) (h : FitL FitA l) : Ev (fun k=>laws_eqEntryS.f k l l) true:=by
  unfold laws_eqEntryS.f
  have hl:=h.1
  refine Ev.pos rfl ?_
  refine same_ev (fun k i=>laws_eqEntryS.l0 k l l i) l ?_ ?_
  · refine Ev.step (fun _=>rfl) ?_
    simp only [laws_eqEntryS.l0];exact Ev.neg (by omega) (Ev.now _)
  · intro i x hx hh
    have hi:=lt_of hx
    have hf:=h.2 x (List.mem_of_getElem? hx)
    refine Ev.step (fun _=>rfl) ?_
    simp only [laws_eqEntryS.l0]
    try rw [rd139 hx]
    rw [w64 (x:=(i : Int) + 1) (by omega) (by omega)]
    refine Ev.pos (by omega) (Ev.pos (by omega) (Ev.pos (by omega) ?_))
    refine Ev.bindc (eqEntry_ev x.f0 x.f1 x.f2.f0 x.f2.f1 x.f2.f2 x.f2.f3 ) ?_
    first
      | exact Ev.pos rfl hh
      | exact Ev.pos (by simp) hh
      | exact Ev.neg (by simp) hh
theorem eqIntS_ev (l : List Int) (h : FitL FitA l) : Ev (fun k=>laws_eqIntS.f k l l) true:=by
  unfold laws_eqIntS.f
  have hl:=h.1
  refine Ev.pos rfl ?_
  refine same_ev (fun k i=>laws_eqIntS.l0 k l l i) l ?_ ?_
  · refine Ev.step (fun _=>rfl) ?_
    simp only [laws_eqIntS.l0];exact Ev.neg (by omega) (Ev.now _)
  · intro i x hx hh
    have hi:=lt_of hx
    have hf:=h.2 x (List.mem_of_getElem? hx)
    refine Ev.step (fun _=>rfl) ?_
    simp only [laws_eqIntS.l0]
    try rw [rdInt hx]
    rw [w64 (x:=(i : Int) + 1) (by omega) (by omega)]
    refine Ev.pos (by omega) (Ev.pos (by omega) (Ev.pos (by omega) ?_))
    
    first
      | exact Ev.pos rfl hh
      | exact Ev.pos (by simp) hh
      | exact Ev.neg (by simp) hh
theorem eqEarly_ev (a0_0 : Int) (a0_1 : Int) (a0_2 : Int) (a0_3 : Int) (a0_4 : Int) (a0_5 : Int) : laws_eqEarly.f a0_0 a0_1 a0_2 a0_3 a0_4 a0_5 a0_0 a0_1 a0_2 a0_3 a0_4 a0_5 = some true:=by simp [laws_eqEarly.f,laws_eqItem.f]
theorem rd154 {l : List S154} {i : Nat} {x : S154} (h : l[i]? = some x) : rd_T154 l (i : Int) = x:=by
  unfold rd_T154;simpa using get_of l z154 h
theorem eqEarlyS_ev (l : List S154) (h : FitL FitA l) : Ev (fun k=>laws_eqEarlyS.f k l l) true:=by
  unfold laws_eqEarlyS.f
  have hl:=h.1
  refine Ev.pos rfl ?_
  refine same_ev (fun k i=>laws_eqEarlyS.l0 k l l i) l ?_ ?_
  · refine Ev.step (fun _=>rfl) ?_
    simp only [laws_eqEarlyS.l0];exact Ev.neg (by omega) (Ev.now _)
  · intro i x hx hh
    have hi:=lt_of hx
    have hf:=h.2 x (List.mem_of_getElem? hx)
    refine Ev.step (fun _=>rfl) ?_
    simp only [laws_eqEarlyS.l0]
    try rw [rd154 hx]
    rw [w64 (x:=(i : Int) + 1) (by omega) (by omega)]
    refine Ev.pos (by omega) (Ev.pos (by omega) (Ev.pos (by omega) ?_))
    refine Ev.bindc (eqEarly_ev x.f0 x.f1 x.f2.f0 x.f2.f1 x.f2.f2 x.f2.f3 ) ?_
    first
      | exact Ev.pos rfl hh
      | exact Ev.pos (by simp) hh
      | exact Ev.neg (by simp) hh
theorem eqKeeper_ev (l0_0 : List S139) (l0_1 : List Int) (l0_2 : List S154) (a0_3 : Int) (l0_4 : List Int) (hl0_0 : (FitL FitA) l0_0) (hl0_1 : (FitL FitA) l0_1) (hl0_2 : (FitL FitA) l0_2) (hl0_4 : (FitL FitA) l0_4) : Ev (fun k=>laws_eqKeeper.f k l0_0 l0_1 l0_2 a0_3 l0_4 l0_0 l0_1 l0_2 a0_3 l0_4) true:=by
  unfold laws_eqKeeper.f
  repeat (first | refine Ev.pos rfl ?_ | refine Ev.neg (by simp) ?_ | refine Ev.pos (by simp) ?_ | (refine Ev.bind (eqEarlyS_ev _ (by assumption)) ?_;try dsimp only) | (refine Ev.bind (eqEntryS_ev _ (by assumption)) ?_;try dsimp only) | (refine Ev.bind (eqIntS_ev _ (by assumption)) ?_;try dsimp only))
  exact Ev.now _
theorem eqLetter_ev (a0_0 : Bool) (a0_1 : ByteArray) (a0_2 : Bool) (ha0_1 : FitS a0_1) : laws_eqLetter.f a0_0 a0_1 a0_2 a0_0 a0_1 a0_2 = some true:=by simp [laws_eqLetter.f]
theorem rd151 {l : List S151} {i : Nat} {x : S151} (h : l[i]? = some x) : rd_T151 l (i : Int) = x:=by
  unfold rd_T151;simpa using get_of l z151 h
def Fit151 (x : S151) : Prop:=FitS x.f1
theorem eqLetterS_ev (l : List S151) (h : FitL Fit151 l) : Ev (fun k=>laws_eqLetterS.f k l l) true:=by
  unfold laws_eqLetterS.f
  have hl:=h.1
  refine Ev.pos rfl ?_
  refine same_ev (fun k i=>laws_eqLetterS.l0 k l l i) l ?_ ?_
  · refine Ev.step (fun _=>rfl) ?_
    simp only [laws_eqLetterS.l0];exact Ev.neg (by omega) (Ev.now _)
  · intro i x hx hh
    have hi:=lt_of hx
    have hf:=h.2 x (List.mem_of_getElem? hx)
    refine Ev.step (fun _=>rfl) ?_
    simp only [laws_eqLetterS.l0]
    try rw [rd151 hx]
    rw [w64 (x:=(i : Int) + 1) (by omega) (by omega)]
    refine Ev.pos (by omega) (Ev.pos (by omega) (Ev.pos (by omega) ?_))
    refine Ev.bindc (eqLetter_ev x.f0 x.f1 x.f2 (by first | exact hf | exact hf.1 | exact hf.2 | exact hf.2.1 | exact hf.1.1)) ?_
    first
      | exact Ev.pos rfl hh
      | exact Ev.pos (by simp) hh
      | exact Ev.neg (by simp) hh
theorem eqSeen_ev (a0_0 : Int) (a0_1 : Int) (a0_2 : Int) (a0_3 : Bool) : laws_eqSeen.f a0_0 a0_1 a0_2 a0_3 a0_0 a0_1 a0_2 a0_3 = some true:=by simp [laws_eqSeen.f]
theorem rd59 {l : List S59} {i : Nat} {x : S59} (h : l[i]? = some x) : rd_T59 l (i : Int) = x:=by
  unfold rd_T59;simpa using get_of l z59 h
theorem eqSeenS_ev (l : List S59) (h : FitL FitA l) : Ev (fun k=>laws_eqSeenS.f k l l) true:=by
  unfold laws_eqSeenS.f
  have hl:=h.1
  refine Ev.pos rfl ?_
  refine same_ev (fun k i=>laws_eqSeenS.l0 k l l i) l ?_ ?_
  · refine Ev.step (fun _=>rfl) ?_
    simp only [laws_eqSeenS.l0];exact Ev.neg (by omega) (Ev.now _)
  · intro i x hx hh
    have hi:=lt_of hx
    have hf:=h.2 x (List.mem_of_getElem? hx)
    refine Ev.step (fun _=>rfl) ?_
    simp only [laws_eqSeenS.l0]
    try rw [rd59 hx]
    rw [w64 (x:=(i : Int) + 1) (by omega) (by omega)]
    refine Ev.pos (by omega) (Ev.pos (by omega) (Ev.pos (by omega) ?_))
    refine Ev.bindc (eqSeen_ev x.f0 x.f1 x.f2 x.f3 ) ?_
    first
      | exact Ev.pos rfl hh
      | exact Ev.pos (by simp) hh
      | exact Ev.neg (by simp) hh
theorem eqWorld_ev (l0_0 : List (List (List S234))) (l0_1 : List S67) (l0_2 : List S65) (l0_3 : List S139) (l0_4 : List Int) (l0_5 : List S154) (a0_6 : Int) (l0_7 : List Int) (l0_8 : List S151) (a0_9 : Int) (l0_10 : List Int) (l0_11 : List S59) (hl0_0 : (FitL (FitL (FitL FitA))) l0_0) (hl0_1 : (FitL Fit67) l0_1) (hl0_2 : (FitL Fit65) l0_2) (hl0_3 : (FitL FitA) l0_3) (hl0_4 : (FitL FitA) l0_4) (hl0_5 : (FitL FitA) l0_5) (hl0_7 : (FitL FitA) l0_7) (hl0_8 : (FitL Fit151) l0_8) (hl0_10 : (FitL FitA) l0_10) (hl0_11 : (FitL FitA) l0_11) : Ev (fun k=>laws_eqWorld.f k l0_0 l0_1 l0_2 l0_3 l0_4 l0_5 a0_6 l0_7 l0_8 a0_9 l0_10 l0_11 l0_0 l0_1 l0_2 l0_3 l0_4 l0_5 a0_6 l0_7 l0_8 a0_9 l0_10 l0_11) true:=by
  unfold laws_eqWorld.f
  repeat (first | refine Ev.pos rfl ?_ | refine Ev.neg (by simp) ?_ | refine Ev.pos (by simp) ?_ | (refine Ev.bind (eqInsSSS_ev _ (by assumption)) ?_;try dsimp only) | (refine Ev.bind (eqIntS_ev _ (by assumption)) ?_;try dsimp only) | (refine Ev.bind (eqKeeper_ev _ _ _ _ _ (by assumption) (by assumption) (by assumption) (by assumption)) ?_;try dsimp only) | (refine Ev.bind (eqLetterS_ev _ (by assumption)) ?_;try dsimp only) | (refine Ev.bind (eqRingS_ev _ (by assumption)) ?_;try dsimp only) | (refine Ev.bind (eqSeenS_ev _ (by assumption)) ?_;try dsimp only) | (refine Ev.bind (eqSenderS_ev _ (by assumption)) ?_;try dsimp only))
  exact Ev.now _
theorem mc_le {α : Type} {ct : α→Nat} {c : Nat} {p : α→Prop} {l : List α} (h : FitL p l) (hc : ∀ x,p x→ct x ≤ c) : mcount ct l ≤ 1048576 * c:=by
  have key : ∀ l : List α,(∀ x ∈ l,p x)→mcount ct l ≤ l.length * c:=by
    intro l
    induction l with
    | nil=>intro _;simp [mcount]
    | cons x l ih =>
      intro h
      have h1:=hc x (h x List.mem_cons_self)
      have h2:=ih (fun y hy=>h y (List.mem_cons_of_mem _ hy))
      rw [List.length_cons,Nat.succ_mul]
      show ct x + mcount ct l ≤ _
      omega
  exact Nat.le_trans (key l h.2) (Nat.mul_le_mul_right c h.1)
theorem marked_evF {α : Type} (L : Nat→List α→Int→Int→Option (Int × List α)) (me : α→Int→α) (ct : α→Nat) (B : Int) (xs : List α) (a : Int) (ha : 0 ≤ a) (hB : a + mcount ct xs ≤ B)
    (stop : ∀ ys a,ys.length = xs.length→Ev (fun k=>L k ys a (xs.length : Int)) (a,ys))
    (step : ∀ (i : Nat) x ys a r,ys.length = xs.length→ys[i]? = some x→x ∈ xs→0 ≤ a→a + ct x ≤ B→Ev (fun k=>L k (ys.set i (me x a)) (a + ct x) ((i : Int) + 1)) r→Ev (fun k=>L k ys a (i : Int)) r) :
    Ev (fun k=>L k xs a 0) (a + mcount ct xs,marks me ct xs a):=by
  have key : ∀ (post pre : List α) (a : Int),(pre ++ post).length = xs.length→(∀ x ∈ post,x ∈ xs)→0 ≤ a→a + mcount ct post ≤ B→Ev (fun k=>L k (pre ++ post) a (pre.length : Int)) (a + mcount ct post,pre ++ marks me ct post a):=by
    intro post
    induction post with
    | nil =>
      intro pre a hn hm ha hB
      have:=stop (pre ++ []) a hn
      rw [show (pre.length : Int) = (xs.length : Int) by rw [← hn];simp]
      simpa [mcount,marks] using this
    | cons x post ih =>
      intro pre a hn hmm ha hB
      have hm : (mcount ct (x :: post) : Int) = ct x + mcount ct post:=by simp [mcount]
      refine step pre.length x (pre ++ x :: post) a _ hn (by simp) (hmm x List.mem_cons_self) ha (by omega) ?_
      have:=ih (pre ++ [me x a]) (a + ct x) (by simpa using hn) (fun y hy=>hmm y (List.mem_cons_of_mem _ hy)) (by omega) (by omega)
      simp only [List.length_append,List.length_cons,List.length_nil,List.append_assoc,List.cons_append,List.nil_append,Int.natCast_add,Int.natCast_one,Nat.zero_add] at this
      have h2 : (a + mcount ct (x :: post),pre ++ marks me ct (x :: post) a) = (a + ↑(ct x) + ↑(mcount ct post),pre ++ me x a :: marks me ct post (a + ↑(ct x))):=by
        simp [hm,marks];omega
      rw [h2]
      simpa using this
  have:=key xs [] a (by simp) (fun _ h=>h) ha hB
  simpa using this
theorem held_evF {α : Type} (L : Nat→Int→Int→Option Int) (me : α→Int→α) (ct : α→Nat) (B : Int) (xs : List α) (a0 : Int) (ha : 0 ≤ a0) (hB : a0 + mcount ct xs ≤ B)
    (stop : ∀ a,Ev (fun k=>L k a (xs.length : Int)) a)
    (step : ∀ (i : Nat) x a r,xs[i]? = some x→(marks me ct xs a0)[i]? = some (me x a)→x ∈ xs→0 ≤ a→a + ct x ≤ B→Ev (fun k=>L k (a + ct x) ((i : Int) + 1)) r→Ev (fun k=>L k a (i : Int)) r) :
    Ev (fun k=>L k a0 0) (a0 + mcount ct xs) :=
  held_ev L me ct B xs a0 ha hB stop (fun i x a r hx hm h0 h1 h=>step i x a r hx hm (List.mem_of_getElem? hx) h0 h1 h)
theorem markText_l0 : ∀ (n : Nat) (a : Int) (s : ByteArray),0 ≤ a→a < 10 ^ n→a < 9223372036854775808→s.size + n ≤ 1000→∃ r,∀ k,n + 1 ≤ k→laws_markText.l0 k a s = some r
  | 0,a,s,h0,h1,h3,h2=>by
    refine ⟨(⟨#[109]⟩ : ByteArray) ++ s,fun k hk=>?_⟩
    obtain ⟨k,rfl⟩ : ∃ j,k = j + 1:=⟨k - 1,by omega⟩
    have : a = 0:=by simp at h1;omega
    subst this
    simp only [laws_markText.l0]
    rw [if_neg (by omega),if_pos (by show 1 + s.size ≤ _;omega)]
  | n + 1,a,s,h0,h1,h3,h2=>by
    by_cases ha : a > 0
    · have hd : a.tdiv 10 < 10 ^ n:=by rw [Int.tdiv_eq_ediv_of_nonneg h0];rw [Int.pow_succ] at h1;omega
      have hd0 : 0 ≤ a.tdiv 10:=Int.tdiv_nonneg h0 (by omega)
      have hsz : (strOfNums ([IntKind.u8.wrap (wrap64 (48 + (a.tmod 10)))] : List Int)).size = 1:=rfl
      have hle : a.tdiv 10 ≤ a:=by rw [Int.tdiv_eq_ediv_of_nonneg h0];omega
      obtain ⟨r,hr⟩:=markText_l0 n (a.tdiv 10) (strOfNums ([IntKind.u8.wrap (wrap64 (48 + (a.tmod 10)))] : List Int) ++ s) hd0 hd (by omega) (by rw [ByteArray.size_append,hsz];omega)
      refine ⟨r,fun k hk=>?_⟩
      obtain ⟨k,rfl⟩ : ∃ j,k = j + 1:=⟨k - 1,by omega⟩
      simp only [laws_markText.l0]
      rw [if_pos ha,if_pos (by rw [hsz];omega),w64 (x:=a.tdiv 10) (by omega) (by omega)]
      exact hr k (by omega)
    · refine ⟨(⟨#[109]⟩ : ByteArray) ++ s,fun k hk=>?_⟩
      obtain ⟨k,rfl⟩ : ∃ j,k = j + 1:=⟨k - 1,by omega⟩
      simp only [laws_markText.l0]
      rw [if_neg ha,if_pos (by show 1 + s.size ≤ _;omega)]
def mtx (a : Int) : ByteArray:=(laws_markText.f 70 a).getD ByteArray.empty
theorem markText_ev (a : Int) (h0 : 0 ≤ a) (h1 : a < 9223372036854775808) : Ev (fun k=>laws_markText.f k a) (mtx a):=by
  unfold mtx
  simp only [laws_markText.f]
  by_cases ha : a ≤ 0
  · simp only [if_pos ha];exact Ev.now _
  · simp only [if_neg ha]
    obtain ⟨r,hr⟩:=markText_l0 20 a ByteArray.empty h0 (by omega) h1 (by simp)
    rw [hr 70 (by omega)]
    exact ⟨21,fun k hk=>hr k hk⟩
def mkS234 (x : S234) (a : Int) : S234:=⟨a,a + 1,a + 1 + 1,a + 1 + 1 + 1⟩
def ctS234 (x : S234) : Nat:=0 + 1 + 1 + 1 + 1
theorem ctS234_le (x : S234) (h : FitA x) : ctS234 x ≤ 4:=by
  skip
  simp only [ctS234];omega
theorem markInsS_ev (l : List S234) (a : Int) (h : FitL FitA l) (ha : 0 ≤ a) (hB : a + mcount ctS234 l ≤ 9223372036854000000) : Ev (fun k=>laws_markInsS.f k l a) (a + mcount ctS234 l,marks mkS234 ctS234 l a):=by
  unfold laws_markInsS.f
  have hl:=h.1
  refine marked_evF (fun k xs a i=>laws_markInsS.l0 k xs a i) mkS234 ctS234 9223372036854000000 l a ha hB ?_ ?_
  · intro ys a hy
    refine Ev.step (f:=fun _=>some (a,ys)) (fun k=>?_) (Ev.now _)
    simp only [laws_markInsS.l0];rw [if_neg (by omega)]
  · intro i x ys a r hy hx hm h0 hB hh
    have hi:=lt_of hx
    have hf:=h.2 x hm
    refine Ev.step (fun _=>rfl) ?_
    simp only [laws_markInsS.l0]
    (try simp only [rd234 hx])
    have hct : ((ctS234 x : Nat) : Int) = 0 + 1 + 1 + 1 + 1:=by simp only [ctS234];omega
    rw [hct] at hB
    refine Ev.pos (by omega) (Ev.pos (by omega) ?_)
    (try simp only [Int.toNat_natCast])
    (try simp (disch:=omega) only [Go.Proofs.YtkkglhhkpihmgaaGreatL.w64])
    rw [hct] at hh
    first
      | exact hh
      | (refine Ev.congr (fun k=>?_) hh;congr 1 <;> omega)
def mkLS234 (x : List S234) (a : Int) : List S234:=marks mkS234 ctS234 x a
def ctLS234 (x : List S234) : Nat:=mcount ctS234 x
theorem ctLS234_le (x : List S234) (h : (FitL FitA) x) : ctLS234 x ≤ 4194304:=mc_le (by exact h) (fun y hy=>ctS234_le y hy)
theorem markInsSS_ev (l : List (List S234)) (a : Int) (h : FitL (FitL FitA) l) (ha : 0 ≤ a) (hB : a + mcount ctLS234 l ≤ 9223372036854000000) : Ev (fun k=>laws_markInsSS.f k l a) (a + mcount ctLS234 l,marks mkLS234 ctLS234 l a):=by
  unfold laws_markInsSS.f
  have hl:=h.1
  refine marked_evF (fun k xs a i=>laws_markInsSS.l0 k xs a i) mkLS234 ctLS234 9223372036854000000 l a ha hB ?_ ?_
  · intro ys a hy
    refine Ev.step (f:=fun _=>some (a,ys)) (fun k=>?_) (Ev.now _)
    simp only [laws_markInsSS.l0];rw [if_neg (by omega)]
  · intro i x ys a r hy hx hm h0 hB hh
    have hi:=lt_of hx
    have hf:=h.2 x hm
    refine Ev.step (fun _=>rfl) ?_
    simp only [laws_markInsSS.l0]
    (try simp only [rdOfE hx])
    have hct : ((ctLS234 x : Nat) : Int) = (mcount ctS234 x : Int):=rfl
    rw [hct] at hB
    refine Ev.pos (by omega) (Ev.pos (by omega) ?_)
    (try simp only [Int.toNat_natCast])
    (try simp (disch:=omega) only [Go.Proofs.YtkkglhhkpihmgaaGreatL.w64])
    refine Ev.bind (markInsS_ev x (a) hf (by omega) (by omega)) ?_;try dsimp only
    (try simp (disch:=omega) only [Go.Proofs.YtkkglhhkpihmgaaGreatL.w64])
    rw [hct] at hh
    first
      | exact hh
      | (refine Ev.congr (fun k=>?_) hh;congr 1 <;> omega)
def mkLLS234 (x : List (List S234)) (a : Int) : List (List S234):=marks mkLS234 ctLS234 x a
def ctLLS234 (x : List (List S234)) : Nat:=mcount ctLS234 x
theorem ctLLS234_le (x : List (List S234)) (h : (FitL (FitL FitA)) x) : ctLLS234 x ≤ 4398046511104:=mc_le (by exact h) (fun y hy=>ctLS234_le y hy)
theorem markInsSSS_ev (l : List (List (List S234))) (a : Int) (h : FitL (FitL (FitL FitA)) l) (ha : 0 ≤ a) (hB : a + mcount ctLLS234 l ≤ 9223372036854000000) : Ev (fun k=>laws_markInsSSS.f k l a) (a + mcount ctLLS234 l,marks mkLLS234 ctLLS234 l a):=by
  unfold laws_markInsSSS.f
  have hl:=h.1
  refine marked_evF (fun k xs a i=>laws_markInsSSS.l0 k xs a i) mkLLS234 ctLLS234 9223372036854000000 l a ha hB ?_ ?_
  · intro ys a hy
    refine Ev.step (f:=fun _=>some (a,ys)) (fun k=>?_) (Ev.now _)
    simp only [laws_markInsSSS.l0];rw [if_neg (by omega)]
  · intro i x ys a r hy hx hm h0 hB hh
    have hi:=lt_of hx
    have hf:=h.2 x hm
    refine Ev.step (fun _=>rfl) ?_
    simp only [laws_markInsSSS.l0]
    (try simp only [rdOfE hx])
    have hct : ((ctLLS234 x : Nat) : Int) = (mcount ctLS234 x : Int):=rfl
    rw [hct] at hB
    refine Ev.pos (by omega) (Ev.pos (by omega) ?_)
    (try simp only [Int.toNat_natCast])
    (try simp (disch:=omega) only [Go.Proofs.YtkkglhhkpihmgaaGreatL.w64])
    refine Ev.bind (markInsSS_ev x (a) hf (by omega) (by omega)) ?_;try dsimp only
    (try simp (disch:=omega) only [Go.Proofs.YtkkglhhkpihmgaaGreatL.w64])
    rw [hct] at hh
    first
      | exact hh
      | (refine Ev.congr (fun k=>?_) hh;congr 1 <;> omega)
def mkS63 (x : S63) (a : Int) : S63:=⟨a,a + 1,a + 1 + 1,a + 1 + 1 + 1⟩
def ctS63 (x : S63) : Nat:=0 + 1 + 1 + 1 + 1
theorem ctS63_le (x : S63) (h : FitA x) : ctS63 x ≤ 4:=by
  skip
  simp only [ctS63];omega
theorem markItemS_ev (l : List S63) (a : Int) (h : FitL FitA l) (ha : 0 ≤ a) (hB : a + mcount ctS63 l ≤ 9223372036854000000) : Ev (fun k=>laws_markItemS.f k l a) (a + mcount ctS63 l,marks mkS63 ctS63 l a):=by
  unfold laws_markItemS.f
  have hl:=h.1
  refine marked_evF (fun k xs a i=>laws_markItemS.l0 k xs a i) mkS63 ctS63 9223372036854000000 l a ha hB ?_ ?_
  · intro ys a hy
    refine Ev.step (f:=fun _=>some (a,ys)) (fun k=>?_) (Ev.now _)
    simp only [laws_markItemS.l0];rw [if_neg (by omega)]
  · intro i x ys a r hy hx hm h0 hB hh
    have hi:=lt_of hx
    have hf:=h.2 x hm
    refine Ev.step (fun _=>rfl) ?_
    simp only [laws_markItemS.l0]
    (try simp only [rd63 hx])
    have hct : ((ctS63 x : Nat) : Int) = 0 + 1 + 1 + 1 + 1:=by simp only [ctS63];omega
    rw [hct] at hB
    refine Ev.pos (by omega) (Ev.pos (by omega) ?_)
    (try simp only [Int.toNat_natCast])
    (try simp (disch:=omega) only [Go.Proofs.YtkkglhhkpihmgaaGreatL.w64])
    rw [hct] at hh
    first
      | exact hh
      | (refine Ev.congr (fun k=>?_) hh;congr 1 <;> omega)
def ctLS63 (x : List S63) : Nat:=mcount ctS63 x
theorem ctLS63_le (x : List S63) (h : (FitL FitA) x) : ctLS63 x ≤ 4194304:=mc_le (by exact h) (fun y hy=>ctS63_le y hy)
def mkS67 (x : S67) (a : Int) : S67:=⟨marks mkS63 ctS63 x.f0 (a),a + (mcount ctS63 x.f0 : Int),a + (mcount ctS63 x.f0 : Int) + 1,a + (mcount ctS63 x.f0 : Int) + 1 + 1⟩
def ctS67 (x : S67) : Nat:=0 + mcount ctS63 x.f0 + 1 + 1 + 1
theorem ctS67_le (x : S67) (h : Fit67 x) : ctS67 x ≤ 4194307:=by
  have q0 : mcount ctS63 x.f0 ≤ 4194304:=ctLS63_le x.f0 (by first | exact h | exact h)
  simp only [ctS67];omega
theorem markRingS_ev (l : List S67) (a : Int) (h : FitL Fit67 l) (ha : 0 ≤ a) (hB : a + mcount ctS67 l ≤ 9223372036854000000) : Ev (fun k=>laws_markRingS.f k l a) (a + mcount ctS67 l,marks mkS67 ctS67 l a):=by
  unfold laws_markRingS.f
  have hl:=h.1
  refine marked_evF (fun k xs a i=>laws_markRingS.l0 k xs a i) mkS67 ctS67 9223372036854000000 l a ha hB ?_ ?_
  · intro ys a hy
    refine Ev.step (f:=fun _=>some (a,ys)) (fun k=>?_) (Ev.now _)
    simp only [laws_markRingS.l0];rw [if_neg (by omega)]
  · intro i x ys a r hy hx hm h0 hB hh
    have hi:=lt_of hx
    have hf:=h.2 x hm
    refine Ev.step (fun _=>rfl) ?_
    simp only [laws_markRingS.l0]
    (try simp only [rd67 hx])
    have hct : ((ctS67 x : Nat) : Int) = 0 + (mcount ctS63 x.f0 : Int) + 1 + 1 + 1:=by simp only [ctS67];omega
    rw [hct] at hB
    refine Ev.pos (by omega) (Ev.pos (by omega) ?_)
    (try simp only [Int.toNat_natCast])
    (try simp (disch:=omega) only [Go.Proofs.YtkkglhhkpihmgaaGreatL.w64])
    refine Ev.bind (markItemS_ev x.f0 (a) hf (by omega) (by omega)) ?_;try dsimp only
    (try simp (disch:=omega) only [Go.Proofs.YtkkglhhkpihmgaaGreatL.w64])
    rw [hct] at hh
    first
      | exact hh
      | (refine Ev.congr (fun k=>?_) hh;congr 1 <;> omega)
def mkS65 (x : S65) (a : Int) : S65:=⟨a,a + 1,marks mkS63 ctS63 x.f2 (a + 1 + 1),a + 1 + 1 + (mcount ctS63 x.f2 : Int),a + 1 + 1 + (mcount ctS63 x.f2 : Int) + 1⟩
def ctS65 (x : S65) : Nat:=0 + 1 + 1 + mcount ctS63 x.f2 + 1 + 1
theorem ctS65_le (x : S65) (h : Fit65 x) : ctS65 x ≤ 4194308:=by
  have q0 : mcount ctS63 x.f2 ≤ 4194304:=ctLS63_le x.f2 (by first | exact h | exact h)
  simp only [ctS65];omega
theorem markSenderS_ev (l : List S65) (a : Int) (h : FitL Fit65 l) (ha : 0 ≤ a) (hB : a + mcount ctS65 l ≤ 9223372036854000000) : Ev (fun k=>laws_markSenderS.f k l a) (a + mcount ctS65 l,marks mkS65 ctS65 l a):=by
  unfold laws_markSenderS.f
  have hl:=h.1
  refine marked_evF (fun k xs a i=>laws_markSenderS.l0 k xs a i) mkS65 ctS65 9223372036854000000 l a ha hB ?_ ?_
  · intro ys a hy
    refine Ev.step (f:=fun _=>some (a,ys)) (fun k=>?_) (Ev.now _)
    simp only [laws_markSenderS.l0];rw [if_neg (by omega)]
  · intro i x ys a r hy hx hm h0 hB hh
    have hi:=lt_of hx
    have hf:=h.2 x hm
    refine Ev.step (fun _=>rfl) ?_
    simp only [laws_markSenderS.l0]
    (try simp only [rd65 hx])
    have hct : ((ctS65 x : Nat) : Int) = 0 + 1 + 1 + (mcount ctS63 x.f2 : Int) + 1 + 1:=by simp only [ctS65];omega
    rw [hct] at hB
    refine Ev.pos (by omega) (Ev.pos (by omega) ?_)
    (try simp only [Int.toNat_natCast])
    (try simp (disch:=omega) only [Go.Proofs.YtkkglhhkpihmgaaGreatL.w64])
    refine Ev.bind (markItemS_ev x.f2 (a + 1 + 1) hf (by omega) (by omega)) ?_;try dsimp only
    (try simp (disch:=omega) only [Go.Proofs.YtkkglhhkpihmgaaGreatL.w64])
    rw [hct] at hh
    first
      | exact hh
      | (refine Ev.congr (fun k=>?_) hh;congr 1 <;> omega)
def mkS139 (x : S139) (a : Int) : S139:=⟨a,a + 1,⟨a + 1 + 1,a + 1 + 1 + 1,a + 1 + 1 + 1 + 1,a + 1 + 1 + 1 + 1 + 1⟩⟩
def ctS139 (x : S139) : Nat:=0 + 1 + 1 + 1 + 1 + 1 + 1
theorem ctS139_le (x : S139) (h : FitA x) : ctS139 x ≤ 6:=by
  skip
  simp only [ctS139];omega
theorem markEntryS_ev (l : List S139) (a : Int) (h : FitL FitA l) (ha : 0 ≤ a) (hB : a + mcount ctS139 l ≤ 9223372036854000000) : Ev (fun k=>laws_markEntryS.f k l a) (a + mcount ctS139 l,marks mkS139 ctS139 l a):=by
  unfold laws_markEntryS.f
  have hl:=h.1
  refine marked_evF (fun k xs a i=>laws_markEntryS.l0 k xs a i) mkS139 ctS139 9223372036854000000 l a ha hB ?_ ?_
  · intro ys a hy
    refine Ev.step (f:=fun _=>some (a,ys)) (fun k=>?_) (Ev.now _)
    simp only [laws_markEntryS.l0];rw [if_neg (by omega)]
  · intro i x ys a r hy hx hm h0 hB hh
    have hi:=lt_of hx
    have hf:=h.2 x hm
    refine Ev.step (fun _=>rfl) ?_
    simp only [laws_markEntryS.l0]
    (try simp only [rd139 hx])
    have hct : ((ctS139 x : Nat) : Int) = 0 + 1 + 1 + 1 + 1 + 1 + 1:=by simp only [ctS139];omega
    rw [hct] at hB
    refine Ev.pos (by omega) (Ev.pos (by omega) ?_)
    (try simp only [Int.toNat_natCast])
    (try simp (disch:=omega) only [Go.Proofs.YtkkglhhkpihmgaaGreatL.w64])
    rw [hct] at hh
    first
      | exact hh
      | (refine Ev.congr (fun k=>?_) hh;congr 1 <;> omega)
def mkInt (_ : Int) (a : Int) : Int:=a
def ctInt (_ : Int) : Nat:=1
theorem ctInt_le (x : Int) (_ : FitA x) : ctInt x ≤ 1:=Nat.le_refl _
theorem markIntS_ev (l : List Int) (a : Int) (h : FitL FitA l) (ha : 0 ≤ a) (hB : a + mcount ctInt l ≤ 9223372036854000000) : Ev (fun k=>laws_markIntS.f k l a) (a + mcount ctInt l,marks mkInt ctInt l a):=by
  unfold laws_markIntS.f
  have hl:=h.1
  refine marked_evF (fun k xs a i=>laws_markIntS.l0 k xs a i) mkInt ctInt 9223372036854000000 l a ha hB ?_ ?_
  · intro ys a hy
    refine Ev.step (f:=fun _=>some (a,ys)) (fun k=>?_) (Ev.now _)
    simp only [laws_markIntS.l0];rw [if_neg (by omega)]
  · intro i x ys a r hy hx hm h0 hB hh
    have hi:=lt_of hx
    have hf:=h.2 x hm
    refine Ev.step (fun _=>rfl) ?_
    simp only [laws_markIntS.l0]
    (try simp only [rdInt hx])
    have hct : ((ctInt x : Nat) : Int) = 1:=by simp only [ctInt];omega
    rw [hct] at hB
    refine Ev.pos (by omega) (Ev.pos (by omega) ?_)
    (try simp only [Int.toNat_natCast])
    (try simp (disch:=omega) only [Go.Proofs.YtkkglhhkpihmgaaGreatL.w64])
    rw [hct] at hh
    first
      | exact hh
      | (refine Ev.congr (fun k=>?_) hh;congr 1 <;> omega)
def mkS154 (x : S154) (a : Int) : S154:=⟨a,a + 1,⟨a + 1 + 1,a + 1 + 1 + 1,a + 1 + 1 + 1 + 1,a + 1 + 1 + 1 + 1 + 1⟩⟩
def ctS154 (x : S154) : Nat:=0 + 1 + 1 + 1 + 1 + 1 + 1
theorem ctS154_le (x : S154) (h : FitA x) : ctS154 x ≤ 6:=by
  skip
  simp only [ctS154];omega
theorem markEarlyS_ev (l : List S154) (a : Int) (h : FitL FitA l) (ha : 0 ≤ a) (hB : a + mcount ctS154 l ≤ 9223372036854000000) : Ev (fun k=>laws_markEarlyS.f k l a) (a + mcount ctS154 l,marks mkS154 ctS154 l a):=by
  unfold laws_markEarlyS.f
  have hl:=h.1
  refine marked_evF (fun k xs a i=>laws_markEarlyS.l0 k xs a i) mkS154 ctS154 9223372036854000000 l a ha hB ?_ ?_
  · intro ys a hy
    refine Ev.step (f:=fun _=>some (a,ys)) (fun k=>?_) (Ev.now _)
    simp only [laws_markEarlyS.l0];rw [if_neg (by omega)]
  · intro i x ys a r hy hx hm h0 hB hh
    have hi:=lt_of hx
    have hf:=h.2 x hm
    refine Ev.step (fun _=>rfl) ?_
    simp only [laws_markEarlyS.l0]
    (try simp only [rd154 hx])
    have hct : ((ctS154 x : Nat) : Int) = 0 + 1 + 1 + 1 + 1 + 1 + 1:=by simp only [ctS154];omega
    rw [hct] at hB
    refine Ev.pos (by omega) (Ev.pos (by omega) ?_)
    (try simp only [Int.toNat_natCast])
    (try simp (disch:=omega) only [Go.Proofs.YtkkglhhkpihmgaaGreatL.w64])
    rw [hct] at hh
    first
      | exact hh
      | (refine Ev.congr (fun k=>?_) hh;congr 1 <;> omega)
theorem markKeeper_ev (l0_0 : List S139) (l0_1 : List Int) (l0_2 : List S154) (a0_3 : Int) (l0_4 : List Int) (a1 : Int) (hl0_0 : (FitL FitA) l0_0) (hl0_1 : (FitL FitA) l0_1) (hl0_2 : (FitL FitA) l0_2) (hl0_4 : (FitL FitA) l0_4) (h0 : 0 ≤ a1) (hB : a1 + (mcount ctS139 l0_0 : Int) + (mcount ctInt l0_1 : Int) + (mcount ctS154 l0_2 : Int) + (mcount ctInt l0_4 : Int) ≤ 9223372036854000000) : Ev (fun k=>laws_markKeeper.f k l0_0 l0_1 l0_2 a0_3 l0_4 a1) ((a1 + (mcount ctS139 l0_0 : Int) + (mcount ctInt l0_1 : Int) + (mcount ctS154 l0_2 : Int) + (mcount ctInt l0_4 : Int),marks mkS139 ctS139 l0_0 (a1),marks mkInt ctInt l0_1 (a1 + (mcount ctS139 l0_0 : Int)),marks mkS154 ctS154 l0_2 (a1 + (mcount ctS139 l0_0 : Int) + (mcount ctInt l0_1 : Int)),marks mkInt ctInt l0_4 (a1 + (mcount ctS139 l0_0 : Int) + (mcount ctInt l0_1 : Int) + (mcount ctS154 l0_2 : Int)))):=by
  unfold laws_markKeeper.f
  refine Ev.bind (markEntryS_ev l0_0 (a1) hl0_0 (by omega) (by omega)) ?_;try dsimp only
  refine Ev.bind (markIntS_ev l0_1 (a1 + (mcount ctS139 l0_0 : Int)) hl0_1 (by omega) (by omega)) ?_;try dsimp only
  refine Ev.bind (markEarlyS_ev l0_2 (a1 + (mcount ctS139 l0_0 : Int) + (mcount ctInt l0_1 : Int)) hl0_2 (by omega) (by omega)) ?_;try dsimp only
  refine Ev.bind (markIntS_ev l0_4 (a1 + (mcount ctS139 l0_0 : Int) + (mcount ctInt l0_1 : Int) + (mcount ctS154 l0_2 : Int)) hl0_4 (by omega) (by omega)) ?_;try dsimp only
  exact Ev.now _
def mkS151 (x : S151) (a : Int) : S151:=⟨((a).tmod 3 == 0),mtx (a + 1),((a + 1 + 1).tmod 3 == 0)⟩
def ctS151 (x : S151) : Nat:=0 + 1 + 1 + 1
theorem ctS151_le (x : S151) (h : Fit151 x) : ctS151 x ≤ 3:=by
  skip
  simp only [ctS151];omega
theorem markLetterS_ev (l : List S151) (a : Int) (h : FitL Fit151 l) (ha : 0 ≤ a) (hB : a + mcount ctS151 l ≤ 9223372036854000000) : Ev (fun k=>laws_markLetterS.f k l a) (a + mcount ctS151 l,marks mkS151 ctS151 l a):=by
  unfold laws_markLetterS.f
  have hl:=h.1
  refine marked_evF (fun k xs a i=>laws_markLetterS.l0 k xs a i) mkS151 ctS151 9223372036854000000 l a ha hB ?_ ?_
  · intro ys a hy
    refine Ev.step (f:=fun _=>some (a,ys)) (fun k=>?_) (Ev.now _)
    simp only [laws_markLetterS.l0];rw [if_neg (by omega)]
  · intro i x ys a r hy hx hm h0 hB hh
    have hi:=lt_of hx
    have hf:=h.2 x hm
    refine Ev.step (fun _=>rfl) ?_
    simp only [laws_markLetterS.l0]
    (try simp only [rd151 hx])
    have hct : ((ctS151 x : Nat) : Int) = 0 + 1 + 1 + 1:=by simp only [ctS151];omega
    rw [hct] at hB
    refine Ev.pos (by omega) (Ev.pos (by omega) ?_)
    (try simp only [Int.toNat_natCast])
    (try simp (disch:=omega) only [Go.Proofs.YtkkglhhkpihmgaaGreatL.w64])
    refine Ev.bind (markText_ev (a + 1) (by omega) (by omega)) ?_;try dsimp only
    (try simp (disch:=omega) only [Go.Proofs.YtkkglhhkpihmgaaGreatL.w64])
    rw [hct] at hh
    first
      | exact hh
      | (refine Ev.congr (fun k=>?_) hh;congr 1 <;> omega)
def mkS59 (x : S59) (a : Int) : S59:=⟨a,a + 1,a + 1 + 1,((a + 1 + 1 + 1).tmod 3 == 0)⟩
def ctS59 (x : S59) : Nat:=0 + 1 + 1 + 1 + 1
theorem ctS59_le (x : S59) (h : FitA x) : ctS59 x ≤ 4:=by
  skip
  simp only [ctS59];omega
theorem markSeenS_ev (l : List S59) (a : Int) (h : FitL FitA l) (ha : 0 ≤ a) (hB : a + mcount ctS59 l ≤ 9223372036854000000) : Ev (fun k=>laws_markSeenS.f k l a) (a + mcount ctS59 l,marks mkS59 ctS59 l a):=by
  unfold laws_markSeenS.f
  have hl:=h.1
  refine marked_evF (fun k xs a i=>laws_markSeenS.l0 k xs a i) mkS59 ctS59 9223372036854000000 l a ha hB ?_ ?_
  · intro ys a hy
    refine Ev.step (f:=fun _=>some (a,ys)) (fun k=>?_) (Ev.now _)
    simp only [laws_markSeenS.l0];rw [if_neg (by omega)]
  · intro i x ys a r hy hx hm h0 hB hh
    have hi:=lt_of hx
    have hf:=h.2 x hm
    refine Ev.step (fun _=>rfl) ?_
    simp only [laws_markSeenS.l0]
    (try simp only [rd59 hx])
    have hct : ((ctS59 x : Nat) : Int) = 0 + 1 + 1 + 1 + 1:=by simp only [ctS59];omega
    rw [hct] at hB
    refine Ev.pos (by omega) (Ev.pos (by omega) ?_)
    (try simp only [Int.toNat_natCast])
    (try simp (disch:=omega) only [Go.Proofs.YtkkglhhkpihmgaaGreatL.w64])
    rw [hct] at hh
    first
      | exact hh
      | (refine Ev.congr (fun k=>?_) hh;congr 1 <;> omega)
theorem markWorld_ev (l0_0 : List (List (List S234))) (l0_1 : List S67) (l0_2 : List S65) (l0_3 : List S139) (l0_4 : List Int) (l0_5 : List S154) (a0_6 : Int) (l0_7 : List Int) (l0_8 : List S151) (a0_9 : Int) (l0_10 : List Int) (l0_11 : List S59) (a1 : Int) (hl0_0 : (FitL (FitL (FitL FitA))) l0_0) (hl0_1 : (FitL Fit67) l0_1) (hl0_2 : (FitL Fit65) l0_2) (hl0_3 : (FitL FitA) l0_3) (hl0_4 : (FitL FitA) l0_4) (hl0_5 : (FitL FitA) l0_5) (hl0_7 : (FitL FitA) l0_7) (hl0_8 : (FitL Fit151) l0_8) (hl0_10 : (FitL FitA) l0_10) (hl0_11 : (FitL FitA) l0_11) (h0 : 0 ≤ a1) (hB : a1 + (mcount ctLLS234 l0_0 : Int) + (mcount ctS67 l0_1 : Int) + (mcount ctS65 l0_2 : Int) + (mcount ctS139 l0_3 : Int) + (mcount ctInt l0_4 : Int) + (mcount ctS154 l0_5 : Int) + (mcount ctInt l0_7 : Int) + (mcount ctS151 l0_8 : Int) + (mcount ctInt l0_10 : Int) + (mcount ctS59 l0_11 : Int) ≤ 9223372036854000000) : Ev (fun k=>laws_markWorld.f k l0_0 l0_1 l0_2 l0_3 l0_4 l0_5 a0_6 l0_7 l0_8 a0_9 l0_10 l0_11 a1) ((a1 + (mcount ctLLS234 l0_0 : Int) + (mcount ctS67 l0_1 : Int) + (mcount ctS65 l0_2 : Int) + (mcount ctS139 l0_3 : Int) + (mcount ctInt l0_4 : Int) + (mcount ctS154 l0_5 : Int) + (mcount ctInt l0_7 : Int) + (mcount ctS151 l0_8 : Int) + (mcount ctInt l0_10 : Int) + (mcount ctS59 l0_11 : Int),marks mkLLS234 ctLLS234 l0_0 (a1),marks mkS67 ctS67 l0_1 (a1 + (mcount ctLLS234 l0_0 : Int)),marks mkS65 ctS65 l0_2 (a1 + (mcount ctLLS234 l0_0 : Int) + (mcount ctS67 l0_1 : Int)),marks mkS139 ctS139 l0_3 (a1 + (mcount ctLLS234 l0_0 : Int) + (mcount ctS67 l0_1 : Int) + (mcount ctS65 l0_2 : Int)),marks mkInt ctInt l0_4 (a1 + (mcount ctLLS234 l0_0 : Int) + (mcount ctS67 l0_1 : Int) + (mcount ctS65 l0_2 : Int) + (mcount ctS139 l0_3 : Int)),marks mkS154 ctS154 l0_5 (a1 + (mcount ctLLS234 l0_0 : Int) + (mcount ctS67 l0_1 : Int) + (mcount ctS65 l0_2 : Int) + (mcount ctS139 l0_3 : Int) + (mcount ctInt l0_4 : Int)),marks mkInt ctInt l0_7 (a1 + (mcount ctLLS234 l0_0 : Int) + (mcount ctS67 l0_1 : Int) + (mcount ctS65 l0_2 : Int) + (mcount ctS139 l0_3 : Int) + (mcount ctInt l0_4 : Int) + (mcount ctS154 l0_5 : Int)),marks mkS151 ctS151 l0_8 (a1 + (mcount ctLLS234 l0_0 : Int) + (mcount ctS67 l0_1 : Int) + (mcount ctS65 l0_2 : Int) + (mcount ctS139 l0_3 : Int) + (mcount ctInt l0_4 : Int) + (mcount ctS154 l0_5 : Int) + (mcount ctInt l0_7 : Int)),marks mkInt ctInt l0_10 (a1 + (mcount ctLLS234 l0_0 : Int) + (mcount ctS67 l0_1 : Int) + (mcount ctS65 l0_2 : Int) + (mcount ctS139 l0_3 : Int) + (mcount ctInt l0_4 : Int) + (mcount ctS154 l0_5 : Int) + (mcount ctInt l0_7 : Int) + (mcount ctS151 l0_8 : Int)),marks mkS59 ctS59 l0_11 (a1 + (mcount ctLLS234 l0_0 : Int) + (mcount ctS67 l0_1 : Int) + (mcount ctS65 l0_2 : Int) + (mcount ctS139 l0_3 : Int) + (mcount ctInt l0_4 : Int) + (mcount ctS154 l0_5 : Int) + (mcount ctInt l0_7 : Int) + (mcount ctS151 l0_8 : Int) + (mcount ctInt l0_10 : Int)))):=by
  unfold laws_markWorld.f
  refine Ev.bind (markInsSSS_ev l0_0 (a1) hl0_0 (by omega) (by omega)) ?_;try dsimp only
  refine Ev.bind (markRingS_ev l0_1 (a1 + (mcount ctLLS234 l0_0 : Int)) hl0_1 (by omega) (by omega)) ?_;try dsimp only
  refine Ev.bind (markSenderS_ev l0_2 (a1 + (mcount ctLLS234 l0_0 : Int) + (mcount ctS67 l0_1 : Int)) hl0_2 (by omega) (by omega)) ?_;try dsimp only
  refine Ev.bind (markKeeper_ev l0_3 l0_4 l0_5 _ l0_7 (a1 + (mcount ctLLS234 l0_0 : Int) + (mcount ctS67 l0_1 : Int) + (mcount ctS65 l0_2 : Int)) hl0_3 hl0_4 hl0_5 hl0_7 (by omega) (by omega)) ?_;try dsimp only
  refine Ev.bind (markLetterS_ev l0_8 (a1 + (mcount ctLLS234 l0_0 : Int) + (mcount ctS67 l0_1 : Int) + (mcount ctS65 l0_2 : Int) + (mcount ctS139 l0_3 : Int) + (mcount ctInt l0_4 : Int) + (mcount ctS154 l0_5 : Int) + (mcount ctInt l0_7 : Int)) hl0_8 (by omega) (by omega)) ?_;try dsimp only
  refine Ev.bind (markIntS_ev l0_10 (a1 + (mcount ctLLS234 l0_0 : Int) + (mcount ctS67 l0_1 : Int) + (mcount ctS65 l0_2 : Int) + (mcount ctS139 l0_3 : Int) + (mcount ctInt l0_4 : Int) + (mcount ctS154 l0_5 : Int) + (mcount ctInt l0_7 : Int) + (mcount ctS151 l0_8 : Int)) hl0_10 (by omega) (by omega)) ?_;try dsimp only
  refine Ev.bind (markSeenS_ev l0_11 (a1 + (mcount ctLLS234 l0_0 : Int) + (mcount ctS67 l0_1 : Int) + (mcount ctS65 l0_2 : Int) + (mcount ctS139 l0_3 : Int) + (mcount ctInt l0_4 : Int) + (mcount ctS154 l0_5 : Int) + (mcount ctInt l0_7 : Int) + (mcount ctS151 l0_8 : Int) + (mcount ctInt l0_10 : Int)) hl0_11 (by omega) (by omega)) ?_;try dsimp only
  exact Ev.now _
theorem heldInsS_ev (l : List S234) (a : Int) (h : FitL FitA l) (ha : 0 ≤ a) (hB : a + mcount ctS234 l ≤ 9223372036854000000) : Ev (fun k=>laws_heldInsS.f k (marks mkS234 ctS234 l a) a) (a + mcount ctS234 l):=by
  unfold laws_heldInsS.f
  have hl:=h.1
  refine held_evF (fun k b i=>laws_heldInsS.l0 k (marks mkS234 ctS234 l a) b i) mkS234 ctS234 9223372036854000000 l a ha hB ?_ ?_
  · intro b
    refine Ev.step (f:=fun _=>some b) (fun k=>?_) (Ev.now _)
    simp only [laws_heldInsS.l0];rw [if_neg (by rw [marks_length];omega)]
  · intro i x b r hx hm hmm h0 hB hh
    have hi:=lt_of hx
    have hf:=h.2 x hmm
    refine Ev.step (fun _=>rfl) ?_
    simp only [laws_heldInsS.l0]
    (try simp only [rd234 hm])
    have hct : ((ctS234 x : Nat) : Int) = 0 + 1 + 1 + 1 + 1:=by simp only [ctS234];omega
    rw [hct] at hB
    refine Ev.pos (by rw [marks_length];omega) (Ev.pos (by omega) ?_)
    (try simp (disch:=omega) only [Go.Proofs.YtkkglhhkpihmgaaGreatL.w64])
    repeat (first | refine Ev.pos rfl ?_ | refine Ev.pos (by simp [mkS234]) ?_ | refine Ev.neg (by omega) ?_)
    rw [hct] at hh
    first
      | exact hh
      | (refine Ev.congr (fun k=>?_) hh;congr 1 <;> omega)
theorem heldInsSS_ev (l : List (List S234)) (a : Int) (h : FitL (FitL FitA) l) (ha : 0 ≤ a) (hB : a + mcount ctLS234 l ≤ 9223372036854000000) : Ev (fun k=>laws_heldInsSS.f k (marks mkLS234 ctLS234 l a) a) (a + mcount ctLS234 l):=by
  unfold laws_heldInsSS.f
  have hl:=h.1
  refine held_evF (fun k b i=>laws_heldInsSS.l0 k (marks mkLS234 ctLS234 l a) b i) mkLS234 ctLS234 9223372036854000000 l a ha hB ?_ ?_
  · intro b
    refine Ev.step (f:=fun _=>some b) (fun k=>?_) (Ev.now _)
    simp only [laws_heldInsSS.l0];rw [if_neg (by rw [marks_length];omega)]
  · intro i x b r hx hm hmm h0 hB hh
    have hi:=lt_of hx
    have hf:=h.2 x hmm
    refine Ev.step (fun _=>rfl) ?_
    simp only [laws_heldInsSS.l0]
    (try simp only [rdOfE hm])
    have hct : ((ctLS234 x : Nat) : Int) = (mcount ctS234 x : Int):=rfl
    rw [hct] at hB
    refine Ev.pos (by rw [marks_length];omega) (Ev.pos (by omega) ?_)
    (try simp (disch:=omega) only [Go.Proofs.YtkkglhhkpihmgaaGreatL.w64])
    repeat (first | refine Ev.pos rfl ?_ | refine Ev.neg (by omega) ?_)
    refine Ev.bind (heldInsS_ev x (b) hf (by omega) (by omega)) ?_;try dsimp only
    (try simp (disch:=omega) only [Go.Proofs.YtkkglhhkpihmgaaGreatL.w64])
    repeat (first | refine Ev.pos rfl ?_ | refine Ev.pos (by simp [mkLS234]) ?_ | refine Ev.neg (by omega) ?_)
    rw [hct] at hh
    first
      | exact hh
      | (refine Ev.congr (fun k=>?_) hh;congr 1 <;> omega)
theorem heldInsSSS_ev (l : List (List (List S234))) (a : Int) (h : FitL (FitL (FitL FitA)) l) (ha : 0 ≤ a) (hB : a + mcount ctLLS234 l ≤ 9223372036854000000) : Ev (fun k=>laws_heldInsSSS.f k (marks mkLLS234 ctLLS234 l a) a) (a + mcount ctLLS234 l):=by
  unfold laws_heldInsSSS.f
  have hl:=h.1
  refine held_evF (fun k b i=>laws_heldInsSSS.l0 k (marks mkLLS234 ctLLS234 l a) b i) mkLLS234 ctLLS234 9223372036854000000 l a ha hB ?_ ?_
  · intro b
    refine Ev.step (f:=fun _=>some b) (fun k=>?_) (Ev.now _)
    simp only [laws_heldInsSSS.l0];rw [if_neg (by rw [marks_length];omega)]
  · intro i x b r hx hm hmm h0 hB hh
    have hi:=lt_of hx
    have hf:=h.2 x hmm
    refine Ev.step (fun _=>rfl) ?_
    simp only [laws_heldInsSSS.l0]
    (try simp only [rdOfE hm])
    have hct : ((ctLLS234 x : Nat) : Int) = (mcount ctLS234 x : Int):=rfl
    rw [hct] at hB
    refine Ev.pos (by rw [marks_length];omega) (Ev.pos (by omega) ?_)
    (try simp (disch:=omega) only [Go.Proofs.YtkkglhhkpihmgaaGreatL.w64])
    repeat (first | refine Ev.pos rfl ?_ | refine Ev.neg (by omega) ?_)
    refine Ev.bind (heldInsSS_ev x (b) hf (by omega) (by omega)) ?_;try dsimp only
    (try simp (disch:=omega) only [Go.Proofs.YtkkglhhkpihmgaaGreatL.w64])
    repeat (first | refine Ev.pos rfl ?_ | refine Ev.pos (by simp [mkLLS234]) ?_ | refine Ev.neg (by omega) ?_)
    rw [hct] at hh
    first
      | exact hh
      | (refine Ev.congr (fun k=>?_) hh;congr 1 <;> omega)
theorem heldItemS_ev (l : List S63) (a : Int) (h : FitL FitA l) (ha : 0 ≤ a) (hB : a + mcount ctS63 l ≤ 9223372036854000000) : Ev (fun k=>laws_heldItemS.f k (marks mkS63 ctS63 l a) a) (a + mcount ctS63 l):=by
  unfold laws_heldItemS.f
  have hl:=h.1
  refine held_evF (fun k b i=>laws_heldItemS.l0 k (marks mkS63 ctS63 l a) b i) mkS63 ctS63 9223372036854000000 l a ha hB ?_ ?_
  · intro b
    refine Ev.step (f:=fun _=>some b) (fun k=>?_) (Ev.now _)
    simp only [laws_heldItemS.l0];rw [if_neg (by rw [marks_length];omega)]
  · intro i x b r hx hm hmm h0 hB hh
    have hi:=lt_of hx
    have hf:=h.2 x hmm
    refine Ev.step (fun _=>rfl) ?_
    simp only [laws_heldItemS.l0]
    (try simp only [rd63 hm])
    have hct : ((ctS63 x : Nat) : Int) = 0 + 1 + 1 + 1 + 1:=by simp only [ctS63];omega
    rw [hct] at hB
    refine Ev.pos (by rw [marks_length];omega) (Ev.pos (by omega) ?_)
    (try simp (disch:=omega) only [Go.Proofs.YtkkglhhkpihmgaaGreatL.w64])
    repeat (first | refine Ev.pos rfl ?_ | refine Ev.pos (by simp [mkS63]) ?_ | refine Ev.neg (by omega) ?_)
    rw [hct] at hh
    first
      | exact hh
      | (refine Ev.congr (fun k=>?_) hh;congr 1 <;> omega)
theorem heldRingS_ev (l : List S67) (a : Int) (h : FitL Fit67 l) (ha : 0 ≤ a) (hB : a + mcount ctS67 l ≤ 9223372036854000000) : Ev (fun k=>laws_heldRingS.f k (marks mkS67 ctS67 l a) a) (a + mcount ctS67 l):=by
  unfold laws_heldRingS.f
  have hl:=h.1
  refine held_evF (fun k b i=>laws_heldRingS.l0 k (marks mkS67 ctS67 l a) b i) mkS67 ctS67 9223372036854000000 l a ha hB ?_ ?_
  · intro b
    refine Ev.step (f:=fun _=>some b) (fun k=>?_) (Ev.now _)
    simp only [laws_heldRingS.l0];rw [if_neg (by rw [marks_length];omega)]
  · intro i x b r hx hm hmm h0 hB hh
    have hi:=lt_of hx
    have hf:=h.2 x hmm
    refine Ev.step (fun _=>rfl) ?_
    simp only [laws_heldRingS.l0]
    (try simp only [rd67 hm])
    have hct : ((ctS67 x : Nat) : Int) = 0 + (mcount ctS63 x.f0 : Int) + 1 + 1 + 1:=by simp only [ctS67];omega
    rw [hct] at hB
    refine Ev.pos (by rw [marks_length];omega) (Ev.pos (by omega) ?_)
    (try simp (disch:=omega) only [Go.Proofs.YtkkglhhkpihmgaaGreatL.w64])
    repeat (first | refine Ev.pos rfl ?_ | refine Ev.neg (by omega) ?_)
    refine Ev.bind (heldItemS_ev x.f0 (b) hf (by omega) (by omega)) ?_;try dsimp only
    (try simp (disch:=omega) only [Go.Proofs.YtkkglhhkpihmgaaGreatL.w64])
    repeat (first | refine Ev.pos rfl ?_ | refine Ev.pos (by simp [mkS67]) ?_ | refine Ev.neg (by omega) ?_)
    rw [hct] at hh
    first
      | exact hh
      | (refine Ev.congr (fun k=>?_) hh;congr 1 <;> omega)
theorem heldSenderS_ev (l : List S65) (a : Int) (h : FitL Fit65 l) (ha : 0 ≤ a) (hB : a + mcount ctS65 l ≤ 9223372036854000000) : Ev (fun k=>laws_heldSenderS.f k (marks mkS65 ctS65 l a) a) (a + mcount ctS65 l):=by
  unfold laws_heldSenderS.f
  have hl:=h.1
  refine held_evF (fun k b i=>laws_heldSenderS.l0 k (marks mkS65 ctS65 l a) b i) mkS65 ctS65 9223372036854000000 l a ha hB ?_ ?_
  · intro b
    refine Ev.step (f:=fun _=>some b) (fun k=>?_) (Ev.now _)
    simp only [laws_heldSenderS.l0];rw [if_neg (by rw [marks_length];omega)]
  · intro i x b r hx hm hmm h0 hB hh
    have hi:=lt_of hx
    have hf:=h.2 x hmm
    refine Ev.step (fun _=>rfl) ?_
    simp only [laws_heldSenderS.l0]
    (try simp only [rd65 hm])
    have hct : ((ctS65 x : Nat) : Int) = 0 + 1 + 1 + (mcount ctS63 x.f2 : Int) + 1 + 1:=by simp only [ctS65];omega
    rw [hct] at hB
    refine Ev.pos (by rw [marks_length];omega) (Ev.pos (by omega) ?_)
    (try simp (disch:=omega) only [Go.Proofs.YtkkglhhkpihmgaaGreatL.w64])
    repeat (first | refine Ev.pos rfl ?_ | refine Ev.neg (by omega) ?_)
    refine Ev.bind (heldItemS_ev x.f2 (b + 1 + 1) hf (by omega) (by omega)) ?_;try dsimp only
    (try simp (disch:=omega) only [Go.Proofs.YtkkglhhkpihmgaaGreatL.w64])
    repeat (first | refine Ev.pos rfl ?_ | refine Ev.pos (by simp [mkS65]) ?_ | refine Ev.neg (by omega) ?_)
    rw [hct] at hh
    first
      | exact hh
      | (refine Ev.congr (fun k=>?_) hh;congr 1 <;> omega)
theorem heldEntryS_ev (l : List S139) (a : Int) (h : FitL FitA l) (ha : 0 ≤ a) (hB : a + mcount ctS139 l ≤ 9223372036854000000) : Ev (fun k=>laws_heldEntryS.f k (marks mkS139 ctS139 l a) a) (a + mcount ctS139 l):=by
  unfold laws_heldEntryS.f
  have hl:=h.1
  refine held_evF (fun k b i=>laws_heldEntryS.l0 k (marks mkS139 ctS139 l a) b i) mkS139 ctS139 9223372036854000000 l a ha hB ?_ ?_
  · intro b
    refine Ev.step (f:=fun _=>some b) (fun k=>?_) (Ev.now _)
    simp only [laws_heldEntryS.l0];rw [if_neg (by rw [marks_length];omega)]
  · intro i x b r hx hm hmm h0 hB hh
    have hi:=lt_of hx
    have hf:=h.2 x hmm
    refine Ev.step (fun _=>rfl) ?_
    simp only [laws_heldEntryS.l0]
    (try simp only [rd139 hm])
    have hct : ((ctS139 x : Nat) : Int) = 0 + 1 + 1 + 1 + 1 + 1 + 1:=by simp only [ctS139];omega
    rw [hct] at hB
    refine Ev.pos (by rw [marks_length];omega) (Ev.pos (by omega) ?_)
    (try simp (disch:=omega) only [Go.Proofs.YtkkglhhkpihmgaaGreatL.w64])
    repeat (first | refine Ev.pos rfl ?_ | refine Ev.pos (by simp [mkS139]) ?_ | refine Ev.neg (by omega) ?_)
    rw [hct] at hh
    first
      | exact hh
      | (refine Ev.congr (fun k=>?_) hh;congr 1 <;> omega)
theorem heldIntS_ev (l : List Int) (a : Int) (h : FitL FitA l) (ha : 0 ≤ a) (hB : a + mcount ctInt l ≤ 9223372036854000000) : Ev (fun k=>laws_heldIntS.f k (marks mkInt ctInt l a) a) (a + mcount ctInt l):=by
  unfold laws_heldIntS.f
  have hl:=h.1
  refine held_evF (fun k b i=>laws_heldIntS.l0 k (marks mkInt ctInt l a) b i) mkInt ctInt 9223372036854000000 l a ha hB ?_ ?_
  · intro b
    refine Ev.step (f:=fun _=>some b) (fun k=>?_) (Ev.now _)
    simp only [laws_heldIntS.l0];rw [if_neg (by rw [marks_length];omega)]
  · intro i x b r hx hm hmm h0 hB hh
    have hi:=lt_of hx
    have hf:=h.2 x hmm
    refine Ev.step (fun _=>rfl) ?_
    simp only [laws_heldIntS.l0]
    (try simp only [rdInt hm])
    have hct : ((ctInt x : Nat) : Int) = 1:=by simp only [ctInt];omega
    rw [hct] at hB
    refine Ev.pos (by rw [marks_length];omega) (Ev.pos (by omega) ?_)
    (try simp (disch:=omega) only [Go.Proofs.YtkkglhhkpihmgaaGreatL.w64])
    repeat (first | refine Ev.pos rfl ?_ | refine Ev.pos (by simp [mkInt]) ?_ | refine Ev.neg (by omega) ?_)
    rw [hct] at hh
    first
      | exact hh
      | (refine Ev.congr (fun k=>?_) hh;congr 1 <;> omega)
theorem heldEarlyS_ev (l : List S154) (a : Int) (h : FitL FitA l) (ha : 0 ≤ a) (hB : a + mcount ctS154 l ≤ 9223372036854000000) : Ev (fun k=>laws_heldEarlyS.f k (marks mkS154 ctS154 l a) a) (a + mcount ctS154 l):=by
  unfold laws_heldEarlyS.f
  have hl:=h.1
  refine held_evF (fun k b i=>laws_heldEarlyS.l0 k (marks mkS154 ctS154 l a) b i) mkS154 ctS154 9223372036854000000 l a ha hB ?_ ?_
  · intro b
    refine Ev.step (f:=fun _=>some b) (fun k=>?_) (Ev.now _)
    simp only [laws_heldEarlyS.l0];rw [if_neg (by rw [marks_length];omega)]
  · intro i x b r hx hm hmm h0 hB hh
    have hi:=lt_of hx
    have hf:=h.2 x hmm
    refine Ev.step (fun _=>rfl) ?_
    simp only [laws_heldEarlyS.l0]
    (try simp only [rd154 hm])
    have hct : ((ctS154 x : Nat) : Int) = 0 + 1 + 1 + 1 + 1 + 1 + 1:=by simp only [ctS154];omega
    rw [hct] at hB
    refine Ev.pos (by rw [marks_length];omega) (Ev.pos (by omega) ?_)
    (try simp (disch:=omega) only [Go.Proofs.YtkkglhhkpihmgaaGreatL.w64])
    repeat (first | refine Ev.pos rfl ?_ | refine Ev.pos (by simp [mkS154]) ?_ | refine Ev.neg (by omega) ?_)
    rw [hct] at hh
    first
      | exact hh
      | (refine Ev.congr (fun k=>?_) hh;congr 1 <;> omega)
theorem heldKeeper_ev (l0_0 : List S139) (l0_1 : List Int) (l0_2 : List S154) (a0_3 : Int) (l0_4 : List Int) (a1 : Int) (hl0_0 : (FitL FitA) l0_0) (hl0_1 : (FitL FitA) l0_1) (hl0_2 : (FitL FitA) l0_2) (hl0_4 : (FitL FitA) l0_4) (h0 : 0 ≤ a1) (hB : a1 + (mcount ctS139 l0_0 : Int) + (mcount ctInt l0_1 : Int) + (mcount ctS154 l0_2 : Int) + (mcount ctInt l0_4 : Int) ≤ 9223372036854000000) : Ev (fun k=>laws_heldKeeper.f k (marks mkS139 ctS139 l0_0 (a1)) (marks mkInt ctInt l0_1 (a1 + (mcount ctS139 l0_0 : Int))) (marks mkS154 ctS154 l0_2 (a1 + (mcount ctS139 l0_0 : Int) + (mcount ctInt l0_1 : Int))) a0_3 (marks mkInt ctInt l0_4 (a1 + (mcount ctS139 l0_0 : Int) + (mcount ctInt l0_1 : Int) + (mcount ctS154 l0_2 : Int))) a1) (a1 + (mcount ctS139 l0_0 : Int) + (mcount ctInt l0_1 : Int) + (mcount ctS154 l0_2 : Int) + (mcount ctInt l0_4 : Int)):=by
  unfold laws_heldKeeper.f
  refine Ev.bind (heldEntryS_ev l0_0 (a1) hl0_0 (by omega) (by omega)) ?_;try dsimp only
  refine Ev.neg (by omega) ?_
  refine Ev.bind (heldIntS_ev l0_1 (a1 + (mcount ctS139 l0_0 : Int)) hl0_1 (by omega) (by omega)) ?_;try dsimp only
  refine Ev.neg (by omega) ?_
  refine Ev.bind (heldEarlyS_ev l0_2 (a1 + (mcount ctS139 l0_0 : Int) + (mcount ctInt l0_1 : Int)) hl0_2 (by omega) (by omega)) ?_;try dsimp only
  refine Ev.neg (by omega) ?_
  refine Ev.bind (heldIntS_ev l0_4 (a1 + (mcount ctS139 l0_0 : Int) + (mcount ctInt l0_1 : Int) + (mcount ctS154 l0_2 : Int)) hl0_4 (by omega) (by omega)) ?_;try dsimp only
  refine Ev.neg (by omega) ?_
  exact Ev.now _
theorem heldLetterS_ev (l : List S151) (a : Int) (h : FitL Fit151 l) (ha : 0 ≤ a) (hB : a + mcount ctS151 l ≤ 9223372036854000000) : Ev (fun k=>laws_heldLetterS.f k (marks mkS151 ctS151 l a) a) (a + mcount ctS151 l):=by
  unfold laws_heldLetterS.f
  have hl:=h.1
  refine held_evF (fun k b i=>laws_heldLetterS.l0 k (marks mkS151 ctS151 l a) b i) mkS151 ctS151 9223372036854000000 l a ha hB ?_ ?_
  · intro b
    refine Ev.step (f:=fun _=>some b) (fun k=>?_) (Ev.now _)
    simp only [laws_heldLetterS.l0];rw [if_neg (by rw [marks_length];omega)]
  · intro i x b r hx hm hmm h0 hB hh
    have hi:=lt_of hx
    have hf:=h.2 x hmm
    refine Ev.step (fun _=>rfl) ?_
    simp only [laws_heldLetterS.l0]
    (try simp only [rd151 hm])
    have hct : ((ctS151 x : Nat) : Int) = 0 + 1 + 1 + 1:=by simp only [ctS151];omega
    rw [hct] at hB
    refine Ev.pos (by rw [marks_length];omega) (Ev.pos (by omega) ?_)
    (try simp (disch:=omega) only [Go.Proofs.YtkkglhhkpihmgaaGreatL.w64])
    repeat (first | refine Ev.pos rfl ?_ | refine Ev.neg (by omega) ?_)
    refine Ev.bind (markText_ev (b + 1) (by omega) (by omega)) ?_;try dsimp only
    (try simp (disch:=omega) only [Go.Proofs.YtkkglhhkpihmgaaGreatL.w64])
    repeat (first | refine Ev.pos rfl ?_ | refine Ev.pos (by simp [mkS151]) ?_ | refine Ev.neg (by omega) ?_)
    rw [hct] at hh
    first
      | exact hh
      | (refine Ev.congr (fun k=>?_) hh;congr 1 <;> omega)
theorem heldSeenS_ev (l : List S59) (a : Int) (h : FitL FitA l) (ha : 0 ≤ a) (hB : a + mcount ctS59 l ≤ 9223372036854000000) : Ev (fun k=>laws_heldSeenS.f k (marks mkS59 ctS59 l a) a) (a + mcount ctS59 l):=by
  unfold laws_heldSeenS.f
  have hl:=h.1
  refine held_evF (fun k b i=>laws_heldSeenS.l0 k (marks mkS59 ctS59 l a) b i) mkS59 ctS59 9223372036854000000 l a ha hB ?_ ?_
  · intro b
    refine Ev.step (f:=fun _=>some b) (fun k=>?_) (Ev.now _)
    simp only [laws_heldSeenS.l0];rw [if_neg (by rw [marks_length];omega)]
  · intro i x b r hx hm hmm h0 hB hh
    have hi:=lt_of hx
    have hf:=h.2 x hmm
    refine Ev.step (fun _=>rfl) ?_
    simp only [laws_heldSeenS.l0]
    (try simp only [rd59 hm])
    have hct : ((ctS59 x : Nat) : Int) = 0 + 1 + 1 + 1 + 1:=by simp only [ctS59];omega
    rw [hct] at hB
    refine Ev.pos (by rw [marks_length];omega) (Ev.pos (by omega) ?_)
    (try simp (disch:=omega) only [Go.Proofs.YtkkglhhkpihmgaaGreatL.w64])
    repeat (first | refine Ev.pos rfl ?_ | refine Ev.pos (by simp [mkS59]) ?_ | refine Ev.neg (by omega) ?_)
    rw [hct] at hh
    first
      | exact hh
      | (refine Ev.congr (fun k=>?_) hh;congr 1 <;> omega)
theorem heldWorld_ev (l0_0 : List (List (List S234))) (l0_1 : List S67) (l0_2 : List S65) (l0_3 : List S139) (l0_4 : List Int) (l0_5 : List S154) (a0_6 : Int) (l0_7 : List Int) (l0_8 : List S151) (a0_9 : Int) (l0_10 : List Int) (l0_11 : List S59) (a1 : Int) (hl0_0 : (FitL (FitL (FitL FitA))) l0_0) (hl0_1 : (FitL Fit67) l0_1) (hl0_2 : (FitL Fit65) l0_2) (hl0_3 : (FitL FitA) l0_3) (hl0_4 : (FitL FitA) l0_4) (hl0_5 : (FitL FitA) l0_5) (hl0_7 : (FitL FitA) l0_7) (hl0_8 : (FitL Fit151) l0_8) (hl0_10 : (FitL FitA) l0_10) (hl0_11 : (FitL FitA) l0_11) (h0 : 0 ≤ a1) (hB : a1 + (mcount ctLLS234 l0_0 : Int) + (mcount ctS67 l0_1 : Int) + (mcount ctS65 l0_2 : Int) + (mcount ctS139 l0_3 : Int) + (mcount ctInt l0_4 : Int) + (mcount ctS154 l0_5 : Int) + (mcount ctInt l0_7 : Int) + (mcount ctS151 l0_8 : Int) + (mcount ctInt l0_10 : Int) + (mcount ctS59 l0_11 : Int) ≤ 9223372036854000000) : Ev (fun k=>laws_heldWorld.f k (marks mkLLS234 ctLLS234 l0_0 (a1)) (marks mkS67 ctS67 l0_1 (a1 + (mcount ctLLS234 l0_0 : Int))) (marks mkS65 ctS65 l0_2 (a1 + (mcount ctLLS234 l0_0 : Int) + (mcount ctS67 l0_1 : Int))) (marks mkS139 ctS139 l0_3 (a1 + (mcount ctLLS234 l0_0 : Int) + (mcount ctS67 l0_1 : Int) + (mcount ctS65 l0_2 : Int))) (marks mkInt ctInt l0_4 (a1 + (mcount ctLLS234 l0_0 : Int) + (mcount ctS67 l0_1 : Int) + (mcount ctS65 l0_2 : Int) + (mcount ctS139 l0_3 : Int))) (marks mkS154 ctS154 l0_5 (a1 + (mcount ctLLS234 l0_0 : Int) + (mcount ctS67 l0_1 : Int) + (mcount ctS65 l0_2 : Int) + (mcount ctS139 l0_3 : Int) + (mcount ctInt l0_4 : Int))) a0_6 (marks mkInt ctInt l0_7 (a1 + (mcount ctLLS234 l0_0 : Int) + (mcount ctS67 l0_1 : Int) + (mcount ctS65 l0_2 : Int) + (mcount ctS139 l0_3 : Int) + (mcount ctInt l0_4 : Int) + (mcount ctS154 l0_5 : Int))) (marks mkS151 ctS151 l0_8 (a1 + (mcount ctLLS234 l0_0 : Int) + (mcount ctS67 l0_1 : Int) + (mcount ctS65 l0_2 : Int) + (mcount ctS139 l0_3 : Int) + (mcount ctInt l0_4 : Int) + (mcount ctS154 l0_5 : Int) + (mcount ctInt l0_7 : Int))) a0_9 (marks mkInt ctInt l0_10 (a1 + (mcount ctLLS234 l0_0 : Int) + (mcount ctS67 l0_1 : Int) + (mcount ctS65 l0_2 : Int) + (mcount ctS139 l0_3 : Int) + (mcount ctInt l0_4 : Int) + (mcount ctS154 l0_5 : Int) + (mcount ctInt l0_7 : Int) + (mcount ctS151 l0_8 : Int))) (marks mkS59 ctS59 l0_11 (a1 + (mcount ctLLS234 l0_0 : Int) + (mcount ctS67 l0_1 : Int) + (mcount ctS65 l0_2 : Int) + (mcount ctS139 l0_3 : Int) + (mcount ctInt l0_4 : Int) + (mcount ctS154 l0_5 : Int) + (mcount ctInt l0_7 : Int) + (mcount ctS151 l0_8 : Int) + (mcount ctInt l0_10 : Int))) a1) (a1 + (mcount ctLLS234 l0_0 : Int) + (mcount ctS67 l0_1 : Int) + (mcount ctS65 l0_2 : Int) + (mcount ctS139 l0_3 : Int) + (mcount ctInt l0_4 : Int) + (mcount ctS154 l0_5 : Int) + (mcount ctInt l0_7 : Int) + (mcount ctS151 l0_8 : Int) + (mcount ctInt l0_10 : Int) + (mcount ctS59 l0_11 : Int)):=by
  unfold laws_heldWorld.f
  refine Ev.bind (heldInsSSS_ev l0_0 (a1) hl0_0 (by omega) (by omega)) ?_;try dsimp only
  refine Ev.neg (by omega) ?_
  refine Ev.bind (heldRingS_ev l0_1 (a1 + (mcount ctLLS234 l0_0 : Int)) hl0_1 (by omega) (by omega)) ?_;try dsimp only
  refine Ev.neg (by omega) ?_
  refine Ev.bind (heldSenderS_ev l0_2 (a1 + (mcount ctLLS234 l0_0 : Int) + (mcount ctS67 l0_1 : Int)) hl0_2 (by omega) (by omega)) ?_;try dsimp only
  refine Ev.neg (by omega) ?_
  refine Ev.bind (heldKeeper_ev l0_3 l0_4 l0_5 _ l0_7 (a1 + (mcount ctLLS234 l0_0 : Int) + (mcount ctS67 l0_1 : Int) + (mcount ctS65 l0_2 : Int)) hl0_3 hl0_4 hl0_5 hl0_7 (by omega) (by omega)) ?_;try dsimp only
  refine Ev.neg (by omega) ?_
  refine Ev.bind (heldLetterS_ev l0_8 (a1 + (mcount ctLLS234 l0_0 : Int) + (mcount ctS67 l0_1 : Int) + (mcount ctS65 l0_2 : Int) + (mcount ctS139 l0_3 : Int) + (mcount ctInt l0_4 : Int) + (mcount ctS154 l0_5 : Int) + (mcount ctInt l0_7 : Int)) hl0_8 (by omega) (by omega)) ?_;try dsimp only
  refine Ev.neg (by omega) ?_
  refine Ev.bind (heldIntS_ev l0_10 (a1 + (mcount ctLLS234 l0_0 : Int) + (mcount ctS67 l0_1 : Int) + (mcount ctS65 l0_2 : Int) + (mcount ctS139 l0_3 : Int) + (mcount ctInt l0_4 : Int) + (mcount ctS154 l0_5 : Int) + (mcount ctInt l0_7 : Int) + (mcount ctS151 l0_8 : Int)) hl0_10 (by omega) (by omega)) ?_;try dsimp only
  refine Ev.neg (by omega) ?_
  refine Ev.bind (heldSeenS_ev l0_11 (a1 + (mcount ctLLS234 l0_0 : Int) + (mcount ctS67 l0_1 : Int) + (mcount ctS65 l0_2 : Int) + (mcount ctS139 l0_3 : Int) + (mcount ctInt l0_4 : Int) + (mcount ctS154 l0_5 : Int) + (mcount ctInt l0_7 : Int) + (mcount ctS151 l0_8 : Int) + (mcount ctInt l0_10 : Int)) hl0_11 (by omega) (by omega)) ?_;try dsimp only
  refine Ev.neg (by omega) ?_
  exact Ev.now _
end Go.Proofs.YtkkglhhkpihmgaaGreat.PFnExactCalmWorld
