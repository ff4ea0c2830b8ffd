import Derived.Test.YtahmbcgolnplgaaGreatA19
import Derived.Shelf.Sort.Plain
import Derived.Shelf.Slices.In.SortNone
import Derived.Shelf.Slices.CompactI
set_option linter.unusedVariables false
set_option linter.unusedSimpArgs false
namespace Go.Proofs.YtahmbcgolnplgaaGreatA
open Go Go.RowKit Go.Sort Go.Shelf Go.Proofs
theorem bl5 {Zn : Nat→Prop} {w : World} {e : TypeId} {v : Value} {l : List Int} (he : e≠X3) (h : O7 Zn w e 1 v (l.map (eI .i64))) :
 (v = .slice none 0 0∧l = [])∨∃ g cap cur,v = .slice (some ⟨g,0,none⟩) l.length cap∧w.heap[g]? = some (.cells cur e (0,0))∧l.length≤cap∧cap≤maxLen∧cur.size = cap∧∀ (j : Nat) n,l[j]? = some n→cur[j]? = some (.int .i64 n):=by
 obtain ⟨_,inner,⟨hlen,ho⟩,hl,hr⟩:=h
 rcases ho with ⟨rfl,h0⟩ | ⟨g,cap,cur,rfl,_,⟨fz,hg,hz⟩,h1,h2,h3,h4⟩
 ·exact .inl ⟨rfl,List.eq_nil_of_length_eq_zero (by simpa using h0)⟩
 ·obtain rfl : fz = (0,0):=hz.resolve_right (fun h=>he h.2)
  refine .inr ⟨g,cap,cur,by simp,hg,by simpa using h1,h2,by simpa using h3,fun j n hj=>?_⟩
  have hj':=(List.getElem?_eq_some_iff.1 hj).1
  obtain ⟨u,hu,hv⟩:=hr j (eI .i64 n) 0 (eI .i64 n) (by rw [List.getElem?_map,hj];rfl) rfl
  have hu' : u = .int .i64 n:=by cases hv;rfl
  subst hu'
  rw [← h4,List.getElem?_take,if_pos (by simp;omega)] at hu
  simpa using hu
theorem bm4 {Zn : Nat→Prop} {w : World} {e : TypeId} {l : List Int} {g cap : Nat} {cur : Array Value} (hg : w.heap[g]? = some (.cells cur e (0,0))) (h1 : l.length≤cap) (h2 : cap≤maxLen) (h3 : cur.size = cap) (hc : ∀ (j : Nat) n,l[j]? = some n→cur[j]? = some (.int .i64 n)) :
 O7 Zn w e 1 (.slice (some ⟨g,0,none⟩) l.length cap) (l.map (eI .i64)):=by
 refine ⟨by omega,cur.toList.take l.length,⟨by simp;omega,.inr ⟨g,cap,cur,by simp,Nat.zero_le _,⟨(0,0),hg,.inl rfl⟩,by simpa using h1,h2,by simpa using h3,by simp⟩⟩,fun j x hx=>?_,fun j x i lv hx hi=>?_⟩
 ·rw [List.getElem?_map] at hx
  obtain ⟨n,_,rfl⟩:=Option.map_eq_some_iff.1 hx
  rfl
 ·rw [List.getElem?_map] at hx
  obtain ⟨n,hn,rfl⟩:=Option.map_eq_some_iff.1 hx
  have hj:=(List.getElem?_eq_some_iff.1 hn).1
  have hi' : i = 0∧lv = eI .i64 n:=by
   cases i with
   | zero=>exact ⟨rfl,by simpa [eI,AV.leaves] using hi.symm⟩
   | succ i=>simp [eI,AV.leaves] at hi
  obtain ⟨rfl,rfl⟩:=hi'
  refine ⟨.int .i64 n,?_,.lit rfl⟩
  rw [List.getElem?_take,if_pos (by omega)]
  simpa using hc j n hn
theorem aU6 {w : World} {e : TypeId} {g : Nat} {cur : Array Value} {l : List Int} (hg : w.heap[g]? = some (.cells cur e (0,0))) (hc : ∀ (j : Nat) n,l[j]? = some n→cur[j]? = some (.int .i64 n)) : Holds (Value.int .i64) w g 0 l.toArray:=by
 intro j hj
 have hj' : j < l.length:=by simpa using hj
 have h1:=hc j l[j] (List.getElem?_eq_getElem hj')
 constructor
 ·unfold World.cell?
  simp only [hg]
  simp [h1,hj']
 ·unfold World.frozen?
  simp only [hg]
  simp
theorem be3 {cur : Array Value} {l : List Int} (hl : l.length≤cur.size) : (putCells (Value.int .i64) 0 l.toArray cur).size = cur.size∧∀ (j : Nat) n,l[j]? = some n→(putCells (Value.int .i64) 0 l.toArray cur)[j]? = some (.int .i64 n):=by
 unfold putCells
 refine ⟨by simp,fun j n hj=>?_⟩
 obtain ⟨hj',rfl⟩:=List.getElem?_eq_some_iff.1 hj
 rw [Array.getElem?_mapIdx,Array.getElem?_eq_getElem (by omega)]
 simp [hj']
theorem bm5 {w : World} {g : Nat} {cur : Array Value} {e : TypeId} {l : List Int} {n : Nat} {os : Array Obj} (hg : w.heap[g]? = some (.cells cur e (0,0))) :
 (grow (putRow (Value.int .i64) (Sort.ahead w n) g 0 l.toArray) os).heap[g]? = some (.cells (putCells (Value.int .i64) 0 l.toArray cur) e (0,0))∧∀ k,k < w.heap.size→k≠g→(grow (putRow (Value.int .i64) (Sort.ahead w n) g 0 l.toArray) os).heap[k]? = w.heap[k]?:=by
 have hs:=(Array.getElem?_eq_some_iff.1 hg).1
 constructor
 ·show ((w.heap.modify g _) ++ os)[g]? = _
  rw [Array.getElem?_append_left (by rw [Array.size_modify];exact hs),Array.getElem?_modify,if_pos rfl,hg];rfl
 ·intro k hk hkg
  show ((w.heap.modify g _) ++ os)[k]? = _
  rw [Array.getElem?_append_left (by rw [Array.size_modify];exact hk),Array.getElem?_modify,if_neg (Ne.symm hkg)]
theorem bv0 {E : C5} {ρ : Nat→Value} {Zf : Fl→Nat→Prop} {w : World} {bk : Nat→l9} {v : Value} {b : Nat} (h : G9 Zf w ρ bk (.row b) v) : v = ρ b∧v.oneCell' = true:=by
 have:=L0 h rfl
 exact this.2
theorem bx5 {P : Program} {ρ : Ren} (Ly : Lays.n189 P ρ) (e : TypeId) (l : List Int) (hl : l.length < 4611686018427387904) (he : e≠X3:=by decide) :
 j7 P (ρ.f 189) [(0,.row e 1 (l.map (eI .i64)))] [.row 0] [(0,.row e 1 ((l.mergeSort fun x y=>decide (x≤y)).map (eI .i64)))] (.tup []):=by
 intro E r vs hp h0 hargs
 obtain ⟨v,vs',rfl,hv,hr⟩:=hargs.uncons
 obtain rfl:=hr.unnil
 obtain ⟨rfl,hone⟩:=bv0 (E:=E) hv
 have hb:=hp.blk 0
 have hlen : (l.mergeSort fun x y=>decide (x≤y)).length = l.length:=List.length_mergeSort l
 rcases bl5 (l:=l) he hb with ⟨hn,rfl⟩ | ⟨g,cap,cur,hs,hg,h1,h2,h3,hc⟩
 ·have:=Any.slices_Sort_int_none Ly none 0 E.W0
  rw [hn]
  refine this.mono ?_
  rintro _ _ ⟨rfl,rfl⟩
  refine ⟨_,r,E.Zi,rfl,?_,.inr (.inr (.inr ⟨[],[],rfl,rfl,Fa.nil⟩))⟩
  simpa using hp
 ·have:=Any.slices_Sort_int Ly g 0 cap l E.W0 (aU6 hg hc) (Array.getElem?_eq_some_iff.1 hg).1 hl
  rw [hs]
  refine this.mono ?_
  rintro _ _ ⟨rfl,n,os,rfl⟩
  refine ⟨_,r,E.Zi,rfl,?_,.inr (.inr (.inr ⟨[],[],rfl,rfl,Fa.nil⟩))⟩
  generalize hS : (l.mergeSort fun x y=>decide (x≤y)) = S at hlen
  obtain ⟨p1,p2⟩:=bm5 (l:=S) (n:=n) (os:=os) hg
  obtain ⟨q1,q2⟩:=be3 (cur:=cur) (l:=S) (by omega)
  have own : ∀ {b k},O9 r (gB [(0,.row e 1 (l.map (eI .i64)))]) b k→b = 0∧k = g:=by
   intro b k ho
   have hb0 : b = 0:=by
    by_cases hb0 : b = 0
    ·exact hb0
    ·exfalso
     have h:=ho.1
     have : gB [(0,l9.row e 1 (l.map (eI .i64)))] b = .fresh:=by
      show (match (match Nat.beq b 0 with | true=>some _ | false=>none) with | some x=>x | none=>l9.fresh) = _
      cases hbb : Nat.beq b 0 with
      | true=>exact absurd (D6 hbb) hb0
      | false=>rfl
     rw [this] at h;cases h
   subst hb0
   have h:=ho.2
   rw [hs] at h
   exact ⟨rfl,by simpa [M9] using h.symm⟩
  have g0 : O9 r (gB [(0,.row e 1 (l.map (eI .i64)))]) 0 g:=⟨rfl,by rw [hs];rfl⟩
  refine St.upd hp (fun b=>b = 0) rfl rfl rfl (by simp) (fun k hk hno=>p2 k hk (fun hkg=>hno 0 rfl (hkg▸g0))) (fun _ _=>rfl) (fun b hb=>?_) (fun b hb hne=>?_) (fun _ h=>h) (fun _ h=>.inl h) (fun b hb m=>?_) (fun b k hb ho=>?_) (fun b b' k hb hb' _ _=>hb.trans hb'.symm) rfl rfl (fun i=>.inl ⟨rfl,rfl⟩) (fun b hb=>by subst hb;exact ⟨rfl,rfl⟩)
  ·show (match (match Nat.beq b 0 with | true=>some _ | false=>none) with | some x=>x | none=>l9.fresh) = (match (match Nat.beq b 0 with | true=>some _ | false=>none) with | some x=>x | none=>l9.fresh)
   cases hbb : Nat.beq b 0 with
   | true=>exact absurd (D6 hbb) hb
   | false=>rfl
  ·subst hb
   exact ⟨(by intro h;cases h),rfl⟩
  ·subst hb
   show O7 _ _ e 1 (r 0) (S.map (eI .i64))
   rw [hs,show l.length = S.length from hlen.symm]
   exact bm4 p1 (by omega) h2 (by omega) q2
  ·subst hb
   have h:=ho.2
   rw [hs] at h
   have hk : g = k:=by simpa [M9] using h
   subst hk
   exact ⟨.inr ⟨0,rfl,g0⟩,(hp.out 0 g g0).2⟩
theorem bf7 {P : Program} {ρ : Ren} (Ly : Lays2.n20 P ρ) (e : TypeId) (l : List Int) (hl : l.length≤9223372036854775807) (he : e≠X3:=by decide) :
 j7 P (ρ.f 20) [(0,.row e 1 (l.map (eI .i64)))] [.row 0] [(0,.gone),(1,.row e 1 ((Lib.compact l).map (eI .i64)))] (.row 1):=by
 intro E r vs hp h0 hargs
 obtain ⟨v,vs',rfl,hv,hr⟩:=hargs.uncons
 obtain rfl:=hr.unnil
 obtain ⟨rfl,hone⟩:=bv0 (E:=E) hv
 have hb:=hp.blk 0
 have b0 : ∀ b,b≠0→gB [(0,l9.row e 1 (l.map (eI .i64)))] b = .fresh:=by
  intro b hb0
  show (match (match Nat.beq b 0 with | true=>some _ | false=>none) with | some x=>x | none=>l9.fresh) = _
  cases hbb : Nat.beq b 0 with
  | true=>exact absurd (D6 hbb) hb0
  | false=>rfl
 have b1 : ∀ b,b≠0→b≠1→gB [(0,l9.gone),(1,l9.row e 1 ((Lib.compact l).map (eI .i64)))] b = .fresh:=by
  intro b hb0 hb1
  show (match (match Nat.beq b 0 with | true=>some _ | false=>(match Nat.beq b 1 with | true=>some _ | false=>none)) with | some x=>x | none=>l9.fresh) = _
  cases hbb : Nat.beq b 0 with
  | true=>exact absurd (D6 hbb) hb0
  | false=>
   cases hbc : Nat.beq b 1 with
   | true=>exact absurd (D6 hbc) hb1
   | false=>rfl
 have fin : ∀ (w' : World) (u : Value),w'.os = E.W0.os→w'.tape = E.W0.tape→w'.output = E.W0.output→E.W0.heap.size≤w'.heap.size→(∀ k,k < E.W0.heap.size→M9 (r 0)≠some k→w'.heap[k]? = E.W0.heap[k]?) →
  O7 (fz E E.Zi .n) w' e 1 u ((Lib.compact l).map (eI .i64))→(∀ k,M9 u = some k→M9 (r 0) = some k)→u.oneCell' = true→aI3 E [(0,.gone),(1,.row e 1 ((Lib.compact l).map (eI .i64)))] (.row 1) (.returned u) w':=by
  intro w' u o1 o2 o3 o4 o5 hrow hu hone
  refine ⟨u,fun b=>if b = 1 then u else r b,E.Zi,rfl,?_,O5 (.inl ⟨(by intro h;cases h),(if_pos rfl).symm,hone⟩)⟩
  refine St.upd hp (fun b=>b = 0∨b = 1) o1 o2 o3 o4 (fun k hk hno=>o5 k hk (fun hkg=>hno 0 (.inl rfl) ⟨rfl,hkg⟩)) (fun b hb=>if_neg (fun h=>hb (.inr h))) (fun b hb=>?_) (fun b hb hne=>?_) (fun _ h=>h) (fun _ h=>.inl h) (fun b hb m=>?_) (fun b k hb ho=>?_) (fun b b' k hb hb' ho ho'=>?_) rfl rfl (fun i=>.inl ⟨rfl,rfl⟩) (fun b hb=>by rcases hb with rfl | rfl;exact ⟨rfl,rfl⟩;exact ⟨rfl,rfl⟩)
  ·rw [b0 b (fun h=>hb (.inl h)),b1 b (fun h=>hb (.inl h)) (fun h=>hb (.inr h))]
  ·rcases hb with rfl | rfl
   ·exact ⟨(by intro h;cases h),if_neg (by omega)⟩
   ·exact absurd (b0 1 (by omega)) hne
  ·rcases hb with rfl | rfl
   ·trivial
   ·show O7 _ _ e 1 (if 1 = 1 then u else r 1) _
    rw [if_pos rfl];exact hrow
  ·have hb1 : b = 1:=by
    rcases hb with rfl | rfl
    ·exact absurd ho.1 (by intro h;cases h)
    ·rfl
   subst hb1
   have h : M9 u = some k:=ho.2
   have hok : O9 r (gB [(0,.row e 1 (l.map (eI .i64)))]) 0 k:=⟨rfl,hu k h⟩
   exact ⟨.inr ⟨0,.inl rfl,hok⟩,(hp.out 0 k hok).2⟩
  ·have one : ∀ {b},(b = 0∨b = 1)→O9 (fun b=>if b = 1 then u else r b) (gB [(0,l9.gone),(1,l9.row e 1 ((Lib.compact l).map (eI .i64)))]) b k→b = 1:=by
    intro b hb ho
    rcases hb with rfl | rfl
    ·exact absurd ho.1 (by intro h;cases h)
    ·rfl
   exact (one hb ho).trans (one hb' ho').symm
 rcases bl5 (l:=l) he hb with ⟨hn,rfl⟩ | ⟨g,cap,cur,hs,hg,h1,h2,h3,hc⟩
 ·have:=Any.slices_Compact_int_empty Ly none 0 E.W0
  rw [hn]
  refine this.mono ?_
  rintro _ _ ⟨rfl,rfl⟩
  exact fin _ _ rfl rfl rfl (Nat.le_refl _) (fun _ _ _=>rfl) ⟨by omega,[],az4 _ _ _ _,by intro j x hx;simp [Lib.compact,Lib.compactUpTo] at hx,by intro j x i lv hx;simp [Lib.compact,Lib.compactUpTo] at hx⟩ (fun k hk=>by simp [M9] at hk) rfl
 ·have:=Any.slices_Compact_int Ly g 0 cap l E.W0 (aU6 hg hc) hl h1
  rw [hs]
  refine this.mono ?_
  rintro _ _ ⟨rfl,n,rfl⟩
  have hcl : (Lib.compact l).length≤l.length:=by
   unfold Lib.compact Lib.compactUpTo
   rw [List.length_map]
   exact Nat.le_trans (List.length_filter_le _ _) (by simp)
  generalize Lib.compact l = S at hcl fin
  have hX : (S ++ List.replicate (l.length - S.length) (0 : Int)).length = l.length:=by simp;omega
  obtain ⟨p1,p2⟩:=bm5 (l:=S ++ List.replicate (l.length - S.length) 0) (n:=n) (os:=#[]) hg
  rw [grow_empty] at p1 p2
  obtain ⟨q1,q2⟩:=be3 (cur:=cur) (l:=S ++ List.replicate (l.length - S.length) 0) (by omega)
  refine fin _ _ rfl rfl rfl (by simp) (fun k hk hne=>p2 k hk (fun h=>hne (by rw [hs,h];rfl))) (bm4 p1 (by omega) h2 (by omega) (fun j m hj=>q2 j m ?_)) (fun k hk=>by rw [hs];simpa [M9] using hk) rfl
  rw [List.getElem?_append_left (List.getElem?_eq_some_iff.1 hj).1];exact hj
end Go.Proofs.YtahmbcgolnplgaaGreatA
