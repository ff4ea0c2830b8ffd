/- The abstract machine, nineteenth part: skipped guards, structs compared, parts of own rows, frozen results. No claim lies here. -/
import Derived.Test.YtkkglhhkpihmgaaGreatA18
import Derived.Laws.StructEq
set_option linter.unusedVariables false
set_option linter.unusedSimpArgs false
namespace Go.Proofs.YtkkglhhkpihmgaaGreatA
open Go
section
variable {P : Program} {ops : Array Oper} {Q : Exit→Act→World→Prop} {E : Env} {nt : Nat} {s s0 : S}
/-- A skipped operation leaves 'undef'. -/
theorem snd_undef {o og : Oper} {i g d : Nat} {want : Bool} {v : Value} {od : Option Nat} (ho : ops[i]? = some o) (hg : o.guard = some (g,want)) (hog : ops[g]? = some og) (hd : og.dst = some d) (hlt : Nat.blt d nt = true) (hb : gT s.tm d = .lit v) (hne : v ≠ .bool want) (hod : o.dst = od) (hlt' : ∀ e,od = some e→Nat.blt e nt = true) : Snd P ops Q E nt i s ⟨od,.lit undef,[]⟩ [d] []:=by
  intro tm bk hag K a w hr hK
  obtain ⟨ρ,Zn,hs⟩:=hr
  have hy : ((yielded ops a.tmps g) == some want) = false:=by
    have h4:=hs.tmp d
    rw [hag.1 d List.mem_cons_self,hb] at h4
    have h5:=rep_lit h4
    have hd' : d < a.tmps.size:=by rw [hs.ntmps];exact Nat.blt_eq ▸ hlt
    unfold yielded
    rw [hog]
    simp only [Option.bind_some,hd]
    have : a.tmps[d]? = some v:=by
      rw [Array.getElem?_eq_getElem hd']
      unfold Act.eval at h5
      simp only [Array.getD_eq_getD_getElem?,Array.getElem?_eq_getElem hd',Option.getD_some] at h5
      rw [h5]
    rw [this]
    cases v with
    | bool b=>simp only [];cases b <;> cases want <;> first | rfl | exact absurd rfl hne
    | _=>rfl
  unfold wpOp
  simp only [ho]
  rw [if_neg (by simp [Region.wanted,hg,hy])]
  refine hK _ _ ⟨ρ,Zn,?_⟩
  rw [upF_nil]
  cases od with
  | none=>rw [hod];exact hs
  | some e=>rw [hod];exact hs.put (hlt' e rfl) (.inr (.inl rfl))
end
section
variable {P : Program} {ops : Array Oper} {Q : Exit→Act→World→Prop} {E : Env} {nt : Nat} {s0 : S} {tm : List (Nat × AV)} {bk : List (Nat × Blk)} {todo : List Oper} {o : Oper} {ns : List Nm} {G : Prop}
theorem neT {t want : Bool} (h : t ≠ want) : Value.bool t ≠ .bool want:=fun e=>h (by injection e)
/-- What its guard does not want; what it leaves matters. -/
theorem ku {d g dg : Nat} {want : Bool} {v : Value} {og : Oper} (hne : v ≠ .bool want) (h : Wk P ops Q E nt s0 todo ⟨(d,.lit undef) :: tm,bk⟩ (⟨some d,[],[dg],[]⟩ :: ns) G) (h0 : o.guard = some (g,want):=by rfl) (h1 : ops[g]? = some og:=by rfl) (h2 : og.dst = some dg:=by rfl) (h3 : Nat.blt dg nt = true:=by rfl) (h4 : gT tm dg = .lit v:=by rfl) (h5 : o.dst = some d:=by rfl) (h6 : Nat.blt d nt = true:=by rfl) : Wk P ops Q E nt s0 (o :: todo) ⟨tm,bk⟩ ns G :=
  wk_step ⟨some d,.lit undef,[]⟩ [dg] [] (fun i ho=>snd_undef (od:=some d) ho h0 h1 h2 h3 h4 hne h5 (fun e he=>by injection he with he;rw [← he];exact h6)) h
theorem neU {want : Bool} : undef ≠ .bool want:=fun e=>by cases e
end

/-! Structs compared. -/
section
variable {P : Program} {d : Nat} {xs ys : Array Value} {f : Field} {fs : List Field} {a b : Value} {r s : Bool} {w : World}
theorem eqf_last (hn : (f.name == "_") = false) (ha : (part f.type xs f.offset).run P w = .ok a w) (hb : (part f.type ys f.offset).run P w = .ok b w) (he : (Op.equalIn d f.type a b).run P w = .ok r w) : (Op.eqFields d xs ys [f]).run P w = .ok r w:=by
  have hn' : f.name ≠ "_":=by simpa using hn
  simp only [Op.eqFields,if_pos hn',Sem.run_bind,ha,hb,he,Result.andThen_ok]
  cases r <;> simp
theorem eqf_cons (hn : (f.name == "_") = false) (ha : (part f.type xs f.offset).run P w = .ok a w) (hb : (part f.type ys f.offset).run P w = .ok b w) (he : (Op.equalIn d f.type a b).run P w = .ok r w) (hr : (Op.eqFields d xs ys fs).run P w = .ok s w) : (Op.eqFields d xs ys (f :: fs)).run P w = .ok (r && s) w:=by
  have hn' : f.name ≠ "_":=by simpa using hn
  rw [Op.eqFields]
  simp only [if_pos hn',Sem.run_bind,ha,hb,he,Result.andThen_ok]
  cases r
  · simp
  · simpa using hr
theorem eqA_of {t : TypeId} {fs : Array Field} (hu : P.underlying t = some (.struct fs)) (hp : P.stoodInHeld t = false) (h : (Op.eqFields d xs ys fs.toList).run P w = .ok r w) : (Op.equalIn (d + 1) t (.agg xs) (.agg ys)).run P w = .ok r w:=by
  have hf : P.fieldsOf t = fs:=by simp [Program.fieldsOf,hu]
  rw [run_equalIn_struct (P:=P) w d t xs ys (by rw [hf];exact hu) hp,hf]
  exact h
end
section
variable {P : Program} {E : Env} {nt : Nat} {s : S} {o : Oper} {d : Nat}
theorem eqS {T T' : TypeId} {x y : Operand} {us vs : List Value} {l m : List AV} {r : Bool} (h : ∀ w,(Op.equalIn 10000 T (.agg us.toArray) (.agg vs.toArray)).run P w = .ok r w) (hop : o.op = .binOp .eql T x y T':=by rfl) (hx : opd s x = .agg l:=by rfl) (hy : opd s y = .agg m:=by rfl) (hl : l = us.map .lit:=by rfl) (hm : m = vs.map .lit:=by rfl) (hg : P.eqGuardType P.depth T = false:=by kernel_rfl) (hd : o.dst = some d:=by rfl) (hlt : Nat.blt d nt = true:=by rfl) : Okv P E nt o s ⟨some d,.lit (.bool r),[]⟩ (lkO x ++ lkO y) [] :=
  r_binA hop hd hlt (hl ▸ hx) (hm ▸ hy) (fun w=>by rw [Sem.run_bind,run_eqGuard_agg w .eql T x y _ _ hg,Result.andThen_ok,run_eql_struct,h];rfl)
/-! Parts of own rows. -/
section
variable {α : Type} {f : α→AV} {xs : List α}
theorem mapD {a : Nat} : ((xs.map f).drop a).take (xs.length - a) = (xs.drop a).map f:=by rw [← List.map_drop,← List.map_take,List.take_of_length_le (by simp)]
theorem mapT {n : Nat} : ((xs.map f).drop 0).take n = (xs.take n).map f:=by rw [List.drop_zero,← List.map_take]
theorem nwS {sz b e lo n : Nat} {ys u : List AV} (hb : gB s.bk b = .row e sz u) (h : (u.drop lo).take n = ys) : Nw s sz (.sub b sz lo n) ys [b]:=h ▸ .sub hb
theorem r_slr {T b e sz : Nat} {x : Operand} {lo hi : Option Operand} {u : List AV} (l n : Nat) (vl vh : Option Value) (hop : o.op = .slice T x lo hi none) (hd : o.dst = some d) (hlt : Nat.blt d nt = true) (hx : opd s x = .row b) (hb : gB s.bk b = .row e sz u)
    (hl : ∀ y,lo = some y→∃ v,vl = some v∧opd s y = .lit v) (hl0 : lo = none→vl = none) (hh : ∀ y,hi = some y→∃ v,vh = some v∧opd s y = .lit v) (hh0 : hi = none→vh = none) (h2 : l + n ≤ u.length)
    (hr : ∀ A c w,u.length ≤ c→(Instr.sliceAt T (.slice A u.length c) vl vh none).run P w = .ok (sliced A l (l + n) c sz) w) : Okv P E nt o s ⟨some d,.sub b sz l n,[]⟩ (lkO x ++ (lo.toList.flatMap lkO ++ hi.toList.flatMap lkO)) [b] :=
  okv_val hd hlt fun tm bk ρ Zn a w hag hs=>by
    have h3:=St.opd (s:=s) hs x (fun t ht=>hag.1 t (List.mem_append_left _ ht))
    rw [hx] at h3
    have e1 : lo.map a.eval = vl:=by
      cases lo with
      | none=>rw [hl0 rfl];rfl
      | some y =>
        obtain ⟨v,rfl,hv⟩:=hl y rfl
        have h2:=St.opd (s:=s) hs y (fun t ht=>hag.1 t (List.mem_append_right _ (List.mem_append_left _ (List.mem_flatMap.2 ⟨y,List.mem_singleton.2 rfl,ht⟩))))
        rw [hv] at h2
        rw [Option.map_some,rep_lit h2]
    have e2 : hi.map a.eval = vh:=by
      cases hi with
      | none=>rw [hh0 rfl];rfl
      | some y =>
        obtain ⟨v,rfl,hv⟩:=hh y rfl
        have h2:=St.opd (s:=s) hs y (fun t ht=>hag.1 t (List.mem_append_right _ (List.mem_append_right _ (List.mem_flatMap.2 ⟨y,List.mem_singleton.2 rfl,ht⟩))))
        rw [hv] at h2
        rw [Option.map_some,rep_lit h2]
    obtain ⟨hf,h4,_⟩:=rep_C00 h3 rfl
    have hblk:=hs.blk b
    rw [hag.2 b (List.mem_singleton.2 rfl),hb] at hblk
    obtain ⟨A,c,h6,h7,_⟩:=row_form hblk
    refine ⟨_,?_,rep_of_C (.inl ⟨hf,A,u.length,c,h6,h2,rfl⟩)⟩
    unfold execOp
    simp only [hop]
    rw [Sem.run_bind,h4,h6,e1,e2,Option.map_none,hr _ _ _ h7]
    rfl
theorem srH {T b e' sz : Nat} {x y : Operand} {k : IntKind} {h : Int} (e : Nat) (h0 : 0 ≤ h) (h1 : h ≤ (xs.length : Int)) (hop : o.op = .slice T x none (some y) none:=by rfl) (hx : opd s x = .row b:=by rfl) (hb : gB s.bk b = .row e' sz (xs.map f):=by rfl) (hy : opd s y = .lit (.int k h):=by rfl) (hT : sliceT P T e sz = true:=by kernel_rfl) (hd : o.dst = some d:=by rfl) (hlt : Nat.blt d nt = true:=by rfl) : Okv P E nt o s ⟨some d,.sub b sz 0 h.toNat,[]⟩ (lkO x ++ lkO y) [b]:=by
  obtain ⟨e1,e2⟩:=elem_of hT
  have hl : (xs.map f).length = xs.length:=List.length_map ..
  have:=r_slr (P:=P) (E:=E) (nt:=nt) (s:=s) 0 h.toNat none (some (.int k h)) hop hd hlt hx hb (fun _ h=>by cases h) (fun _=>rfl) (fun y' h=>by cases h;exact ⟨_,rfl,hy⟩) (fun h=>by cases h) (by omega) (fun A c w hc=>by
    rw [run_sliceAt_slice w T _ _ _ _ e1,run_slice_h w T A _ _ e1 k h h0 (by omega),e2,Nat.zero_add];rfl)
  simpa using this
theorem srL {T b e' sz : Nat} {x y : Operand} {k : IntKind} {l : Int} (e : Nat) (h0 : 0 ≤ l) (h1 : l ≤ (xs.length : Int)) (hop : o.op = .slice T x (some y) none none:=by rfl) (hx : opd s x = .row b:=by rfl) (hb : gB s.bk b = .row e' sz (xs.map f):=by rfl) (hy : opd s y = .lit (.int k l):=by rfl) (hT : sliceT P T e sz = true:=by kernel_rfl) (hd : o.dst = some d:=by rfl) (hlt : Nat.blt d nt = true:=by rfl) : Okv P E nt o s ⟨some d,.sub b sz l.toNat (xs.length - l.toNat),[]⟩ (lkO x ++ lkO y) [b]:=by
  obtain ⟨e1,e2⟩:=elem_of hT
  have hl : (xs.map f).length = xs.length:=List.length_map ..
  have:=r_slr (P:=P) (E:=E) (nt:=nt) (s:=s) l.toNat (xs.length - l.toNat) (some (.int k l)) none hop hd hlt hx hb (fun y' h=>by cases h;exact ⟨_,rfl,hy⟩) (fun h=>by cases h) (fun _ h=>by cases h) (fun _=>rfl) (by omega) (fun A c w hc=>by
    rw [run_sliceAt_slice w T _ _ _ _ e1,run_slice_l w T A _ _ e1 k l h0 (by omega),e2,show l.toNat + (xs.length - l.toNat) = (xs.map f).length by omega];rfl)
  simpa using this
end
end

/-! A row's front may stand for the row. -/
section
variable {P : Program} {E : Env} {nt : Nat} {tm : List (Nat × AV)} {bk : List (Nat × Blk)} {K : Act→World→Prop}
theorem row_front {Zn : Nat→Prop} {w : World} {e sz n : Nat} {A : Option Addr} {N c : Nat} {xs : List AV} (h : RowOk Zn w e sz (.slice A N c) xs) (hn : n ≤ N) : RowOk Zn w e sz (sliced A 0 (0 + n) c sz) (xs.take n)∧refB (sliced A 0 (0 + n) c sz) = refB (.slice A N c)∧(sliced A 0 (0 + n) c sz).oneCell' = true:=by
  have e0 : sliced A 0 (0 + n) c sz = .slice A n c:=by
    unfold sliced
    rw [Nat.zero_add,Nat.zero_mul,Nat.sub_zero,Nat.sub_zero]
    cases A with
    | none=>split <;> rfl
    | some a=>split <;> simp [Addr.add]
  rw [e0]
  obtain ⟨h0,inner,ho,hl,hr⟩:=h
  have hlen : N = xs.length:=by
    rcases ho.2 with ⟨e1,e2⟩ | ⟨g,cap,cur,e1,_⟩
    · injection e1 with _ e3 _;omega
    · injection e1 with _ e3 _
  refine ⟨⟨h0,inner.take (n * sz),⟨?_,?_⟩,fun j x hj=>?_,fun j x i lv hj hi=>?_⟩,?_,rfl⟩
  · rw [List.length_take,List.length_take,ho.1,Nat.min_eq_left (Nat.mul_le_mul_right _ (by omega)),Nat.min_eq_left (by omega)]
  · rcases ho.2 with ⟨e1,e2⟩ | ⟨g,cap,cur,e1,h1,h2,h3,h4,h5,h6⟩
    · injection e1 with e3 e4 e5
      subst e3;subst e4;subst e5
      exact .inl ⟨by rw [Nat.le_zero.1 hn],by simp;omega⟩
    · injection e1 with e3 e4 e5
      subst e3;subst e5
      have e6 : (xs.take n).length = n:=by simp;omega
      refine .inr ⟨g,c,cur,by rw [e6],h1,h2,by rw [e6];omega,h4,h5,?_⟩
      rw [e6,← h6,List.take_take,Nat.min_eq_left (Nat.mul_le_mul_right _ (by omega))]
  · rw [List.getElem?_take] at hj
    split at hj
    · exact hl j x hj
    · cases hj
  · rw [List.getElem?_take] at hj
    split at hj
    · rename_i hjn
      obtain ⟨u,hu,hv⟩:=hr j x i lv hj hi
      refine ⟨u,?_,hv⟩
      have hil : i < sz:=by rw [← hl j x hj];exact (List.getElem?_eq_some_iff.1 hi).1
      rw [List.getElem?_take,if_pos]
      · exact hu
      · calc j * sz + i < j * sz + sz:=by omega
          _ = (j + 1) * sz:=by rw [Nat.add_mul,Nat.one_mul]
          _ ≤ n * sz:=Nat.mul_le_mul_right _ hjn
    · cases hj
  · cases A with
    | none=>rfl
    | some a=>rfl
end

/-! Results that are frozen: rows that nobody writes to any more. -/
def frz (post : List (Nat × Blk)) : AV→AV
  | .row b=>match gB post b with
    | .row _ sz xs=>.sl .n sz xs
    | _=>.junk
  | .box _ _=>.junk
  | .sub _ _ _ _=>.junk
  | .elp _ _ _ _=>.junk
  | x=>x
section
variable {Zf Zf' : Fl→Nat→Prop} {w : World} {ρ ρ' : Nat→Value} {bk bk' : Nat→Blk} {g : AV→AV}
structure Lf (Zf Zf' : Fl→Nat→Prop) (w : World) (ρ ρ' : Nat→Value) (bk bk' : Nat→Blk) (g : AV→AV) : Prop where
  c0 : ∀ x v,RepC0 Zf w ρ bk x v→RepC0 Zf' w ρ' bk' (g x) v
  junk : g .junk = .junk
  lit : ∀ v,g (.lit v) = .lit v
theorem lf1 (H : Lf Zf Zf' w ρ ρ' bk bk' g) {x : AV} {v : Value} (h : RepA0 Zf w ρ bk x v) : RepA0 Zf' w ρ' bk' (mp1 g x) v:=by
  rcases h with h | ⟨l,cs,rfl,rfl,h3⟩
  · have e : mp1 g x = g x:=by cases x <;> first | rfl | exact h.elim
    rw [e];exact .inl (H.c0 _ _ h)
  · exact .inr ⟨_,cs,rfl,rfl,Fa.map_left.2 (h3.imp fun _ _ h=>H.c0 _ _ h)⟩
theorem lf2 (H : Lf Zf Zf' w ρ ρ' bk bk' g) {x : AV} {v : Value} (h : RepC Zf w ρ bk x v) : RepC Zf' w ρ' bk' (mp2 g x) v:=by
  rcases h with h | ⟨f,l,cs,rfl,rfl,h3⟩
  · have e : mp2 g x = g x:=by cases x <;> first | rfl | exact h.elim
    rw [e];exact .inl (H.c0 _ _ h)
  · exact .inr ⟨f,_,cs,rfl,rfl,Fa.map_left.2 (h3.imp fun _ _ h=>lf1 H h)⟩
theorem lf3 (H : Lf Zf Zf' w ρ ρ' bk bk' g) {x : AV} {v : Value} (h : RepA Zf w ρ bk x v) : RepA Zf' w ρ' bk' (mp3 g x) v:=by
  rcases h with h | ⟨l,cs,rfl,rfl,h3⟩
  · have e : mp3 g x = mp2 g x:=by
      cases x <;> first | rfl | (rcases h with h | ⟨_,_,_,h,_⟩;exact h.elim;cases h)
    rw [e];exact .inl (lf2 H h)
  · exact .inr ⟨_,cs,rfl,rfl,Fa.map_left.2 (h3.imp fun _ _ h=>lf2 H h)⟩
theorem lf4 (H : Lf Zf Zf' w ρ ρ' bk bk' g) {x : AV} {v : Value} (h : RepT Zf w ρ bk x v) : RepT Zf' w ρ' bk' (mp4 g x) v:=by
  rcases h with rfl | rfl | h | ⟨l,cs,rfl,rfl,h3⟩
  · refine .inl ?_;show mp4 g .junk = .junk;exact H.junk
  · refine .inr (.inl ?_);show mp4 g (.lit v) = .lit v;exact H.lit v
  · have e : mp4 g x = mp3 g x:=by
      cases x <;> first | rfl | (rcases h with h | ⟨_,_,h,_⟩;rcases h with h | ⟨_,_,_,h,_⟩;exact h.elim;cases h;cases h)
    rw [e];exact .inr (.inr (.inl (lf3 H h)))
  · exact .inr (.inr (.inr ⟨_,cs,rfl,rfl,Fa.map_left.2 (h3.imp fun _ _ h=>lf3 H h)⟩))
end
theorem ACalls.frz {P : Program} {f : FuncId} {args : List AV} {post : List (Nat × Blk)} {res : AV} (res' : AV) (h : ACalls P f [] args post res) (hr : mp4 (frz post) res = res':=by rfl) : ACalls P f [] args [] res':=by
  subst hr
  intro E ρ vs hp h0 hv
  refine (h E ρ vs hp h0 hv).mono ?_
  rintro e w' ⟨v,ρ',Zn,rfl,hs,hrep⟩
  have hsub : ∀ k,Zn k→Zn k ∨ ∃ b,Own ρ' (gB post) b k:=fun k hk=>.inl hk
  refine ⟨v,ρ',fun k=>Zn k ∨ ∃ b,Own ρ' (gB post) b k,rfl,⟨hs.os,hs.tape,hs.output,hs.size,hs.z0,hs.keep,fun k hk=>.inl (hs.zi k hk),hs.zy,fun k hk=>?_,fun b v hb=>absurd (h0 b v hb) (Nat.not_lt_zero _),fun _=>trivial,⟨fun _ _=>none,fun b op ds e sz xs h=>(by cases h),fun b h=>(by cases h),fun b k ho=>(by cases ho.1),fun b k ho=>(by cases ho.1),fun b b' k ho _=>(by cases ho.1)⟩,rfl,rfl,fun _=>.inl rfl⟩,lf4 ⟨fun x u hx=>?_,rfl,fun _=>rfl⟩ hrep⟩
  · rcases hk with hk | ⟨b,ho⟩
    · exact hs.zn k hk
    · exact ⟨St.own_lt hs ho,.inr (hs.out b k ho).1⟩
  · have mz : ∀ z k,fz E Zn z k→fz E (fun k=>Zn k ∨ ∃ b,Own ρ' (gB post) b k) z k:=fun z k hz=>by
      cases z with
      | o=>exact hz.elim (fun hz=>.inl hz) (fun hz=>.inr (.inl hz))
      | n=>exact .inl hz
      | u=>exact hz
    cases x with
    | row b =>
      show RepC0 _ _ _ _ (match gB post b with | .row _ sz xs=>AV.sl .n sz xs | _=>.junk) u
      obtain ⟨h1,h2,h3⟩:=hx
      have hb:=hs.blk b
      cases hg : gB post b with
      | row e sz xs =>
        rw [hg] at hb
        rw [h2]
        exact row_sl (z:=.n) hb (fun k hk=>.inl hk) (fun k hk=>.inr ⟨b,by rw [hg];rfl,hk⟩)
      | _=>exact h3
    | box b o=>obtain ⟨_,g,_,rfl⟩:=hx;rfl
    | sub b sz lo n=>obtain ⟨_,A,N,c,_,_,rfl⟩:=hx;rfl
    | elp b sz i j=>obtain ⟨_,g,n,c,_,rfl⟩:=hx;rfl
    | sl z sz xs=>exact RepV.move hx (fun _ _=>rfl) (mz z)
    | rp z x j =>
      obtain ⟨ad,f,h1,h2,h3⟩:=hx
      exact ⟨ad,f,h1,mz _ _ h2,fun i lv hi=>⟨(h3 i lv hi).1,RepV.move (h3 i lv hi).2 (fun _ _=>rfl) (mz z)⟩⟩
    | junk=>exact hx
    | lit v=>exact hx
    | agg l=>exact hx.elim
    | tup l=>exact hx.elim
    | fn f c=>exact hx.elim
end Go.Proofs.YtkkglhhkpihmgaaGreatA
