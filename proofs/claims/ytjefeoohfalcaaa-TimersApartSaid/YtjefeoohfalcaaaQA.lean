/- Timers: Has, Stop, Set. -/
import Derived.Test.YtjefeoohfalcaaaQ9
namespace Go.Proofs.Ytjefeoohfalcaaa.C
open Go.RowKit
set_option linter.unusedVariables false
set_option linter.unusedSimpArgs false
/-! ### plain -/
def del (l : List (Int × Int)) (id : Int) : List (Int × Int) := l.filter fun x => x.1 != id
def hasOf (l : List (Int × Int)) (id : Int) : Option Int := (l.find? fun x => x.1 == id).map (·.2)
theorem del_none {l : List (Int × Int)} {id : Int} (h : ∀ x ∈ l, x.1 ≠ id) : del l id = l := by
  unfold del
  rw [List.filter_eq_self]
  intro x hx
  simpa using h x hx
theorem del_split {a b : List (Int × Int)} {x : Int × Int} (h : Ids (a ++ x :: b)) : del (a ++ x :: b) x.1 = a ++ b := by
  unfold Ids at h
  rw [List.map_append, List.map_cons] at h
  have h2 := List.nodup_append.1 h
  have h3 := List.nodup_cons.1 h2.2.1
  have e1 : del a x.1 = a := del_none fun y hy e => h2.2.2 y.1 (List.mem_map.2 ⟨y, hy, rfl⟩) x.1 (by simp) e
  have e2 : del b x.1 = b := del_none fun y hy e => h3.1 (List.mem_map.2 ⟨y, hy, e⟩)
  have : del (a ++ x :: b) x.1 = del a x.1 ++ del b x.1 := by simp [del]
  rw [this, e1, e2]
theorem split_at {l : List (Int × Int)} {i : Nat} {x : Int × Int} (h : l[i]? = some x) : ∃ a b, l = a ++ x :: b ∧ a.length = i := by
  have hi := (List.getElem?_eq_some_iff.1 h).1
  refine ⟨l.take i, l.drop (i + 1), ?_, by simp; omega⟩
  have h1 := List.take_append_drop i l
  rw [List.drop_eq_getElem_cons hi, (List.getElem?_eq_some_iff.1 h).2] at h1
  exact h1.symm
theorem del_perm {l : List (Int × Int)} {i : Nat} {x : Int × Int} (hI : Ids l) (h : l[i]? = some x) : (del l x.1 ++ [x]).Perm l := by
  obtain ⟨a, b, rfl, _⟩ := split_at h
  rw [del_split hI]
  have h2 : (x :: (a ++ b)).Perm (a ++ x :: b) := List.perm_middle.symm
  exact (List.perm_append_comm (l₁ := a ++ b) (l₂ := [x])).trans h2
theorem set_perm {l : List (Int × Int)} {i : Nat} {x : Int × Int} (v : Int) (hI : Ids l) (h : l[i]? = some x) : (l.set i (x.1, v)).Perm (del l x.1 ++ [(x.1, v)]) := by
  obtain ⟨a, b, rfl, hl⟩ := split_at h
  rw [del_split hI]
  have : (a ++ x :: b).set i (x.1, v) = a ++ (x.1, v) :: b := by
    rw [← hl, List.set_append_right _ _ (Nat.le_refl _)]
    simp
  rw [this]
  exact List.perm_middle.trans (List.perm_append_comm (l₁ := [(x.1, v)]) (l₂ := a ++ b))
theorem del_ids {l : List (Int × Int)} (h : Ids l) (id : Int) : Ids (del l id) := by
  unfold Ids del at *
  exact List.Nodup.sublist (List.Sublist.map _ List.filter_sublist) h
theorem del_not (l : List (Int × Int)) (id : Int) : ∀ x ∈ del l id, x.1 ≠ id := fun x hx => by
  have := (List.mem_filter.1 hx).2
  simpa using this
theorem ids_snoc {l : List (Int × Int)} {x : Int × Int} (h : Ids l) (hx : ∀ y ∈ l, y.1 ≠ x.1) : Ids (l ++ [x]) := by
  unfold Ids at *
  rw [List.map_append]
  refine List.nodup_append.2 ⟨h, by simp, fun a ha b hb e => ?_⟩
  obtain ⟨y, hy, rfl⟩ := List.mem_map.1 ha
  simp at hb
  exact hx y hy (e.trans hb)
theorem del_perm_of {l l' : List (Int × Int)} (h : l'.Perm l) (id : Int) : (del l' id).Perm (del l id) := h.filter _
theorem placed_none {l : List (Int × Int)} {f : Int → Option Int} (h : Placed l f) {id : Int} (hf : f id = none) : ∀ x ∈ l, x.1 ≠ id := fun x hx e => by
  obtain ⟨i, hi⟩ := List.getElem?_of_mem hx
  have := h.at hi
  rw [e, hf] at this
  cases this
theorem has_none {l : List (Int × Int)} {id : Int} (h : ∀ x ∈ l, x.1 ≠ id) : hasOf l id = none := by
  unfold hasOf
  rw [List.find?_eq_none.2 (fun x hx => by simpa using h x hx)]
  rfl
theorem has_some {l : List (Int × Int)} {i : Nat} {x : Int × Int} (hI : Ids l) (h : l[i]? = some x) : hasOf l x.1 = some x.2 := by
  unfold hasOf
  have hx : x ∈ l := List.mem_of_getElem? h
  cases hf : l.find? (fun y => y.1 == x.1) with
  | none =>
    have := List.find?_eq_none.1 hf x hx
    simp at this
  | some y =>
    have hy := List.mem_of_find?_eq_some hf
    have he := List.find?_some hf
    obtain ⟨j, hj⟩ := List.getElem?_of_mem hy
    have := hI.inj hj h (by simpa using he)
    subst this
    rw [h] at hj
    cases hj
    rfl
theorem ids_set {l : List (Int × Int)} {i : Nat} {x : Int × Int} (v : Int) (hI : Ids l) (h : l[i]? = some x) : Ids (l.set i (x.1, v)) := by
  obtain ⟨a, b, rfl, hl⟩ := split_at h
  have : (a ++ x :: b).set i (x.1, v) = a ++ (x.1, v) :: b := by
    rw [← hl, List.set_append_right _ _ (Nat.le_refl _)]
    simp
  rw [this]
  unfold Ids at *
  simpa using hI
theorem placed_set {l : List (Int × Int)} {f : Int → Option Int} {i : Nat} {x : Int × Int} (v : Int) (hP : Placed l f) (h : l[i]? = some x) : Placed (l.set i (x.1, v)) f := by
  intro id p
  rw [hP id p]
  have key : ∀ k : Nat, ((l.set i (x.1, v))[k]?).map (·.1) = (l[k]?).map (·.1) := by
    intro k
    rw [List.getElem?_set]
    by_cases e : i = k
    · subst e
      rw [if_pos rfl, if_pos (List.getElem?_eq_some_iff.1 h).1, h]
      rfl
    · rw [if_neg e]
  constructor
  · rintro ⟨k, hk, h2⟩; exact ⟨k, hk, by rw [key]; exact h2⟩
  · rintro ⟨k, hk, h2⟩; exact ⟨k, hk, by rw [key] at h2; exact h2⟩
theorem tcells_same {l : List (Int × Int)} {i : Nat} {x : Int × Int} (h : l[i]? = some x) : (tcells l).set (i * 2) (.int .i64 x.1) = tcells l := by
  apply List.ext_getElem?
  intro k
  rw [List.getElem?_set]
  by_cases e : i * 2 = k
  · subst e
    have h1 := (tcells_at l i x h).1
    rw [if_pos rfl, if_pos (List.getElem?_eq_some_iff.1 h1).1, h1]
  · rw [if_neg e]
theorem Row.storeAt {w : World} {b c : Nat} {l : List (Int × Int)} (h : Row w b c l) {i : Nat} {x : Int × Int} (hx : l[i]? = some x) (v : Int) : Row (w.setCell ⟨b, i * 2 + 1, none⟩ (.int .i64 v)) b c (l.set i (x.1, v)) := by
  obtain ⟨⟨cs, hb, hs, ht⟩, h2, h3⟩ := h
  refine ⟨⟨_, heap_setCell_eq _ hb, ?_, ?_⟩, by simpa using h2, h3⟩
  · simp [hs]
  · rw [List.length_set, ← tcells_set, tcells_same hx, ← ht]
    simp only [Array.toList_setIfInBounds]
    rw [List.take_set]
theorem HRep.storeAt {w : World} {tt : TypeId} {T b c m : Nat} {l : List (Int × Int)} {f : Int → Option Int} (h : HRep w tt T b c m l f) {i : Nat} {x : Int × Int} (hx : l[i]? = some x) (v : Int) : HRep (w.setCell ⟨b, i * 2 + 1, none⟩ (.int .i64 v)) tt T b c m (l.set i (x.1, v)) f := by
  have hn := h.rep.nes
  obtain ⟨es, k, hm, hg⟩ := h.rep.map
  refine ⟨⟨?_, h.rep.row.storeAt hx v, ⟨es, k, (Below.heap_setCell _ _ _ _ (Ne.symm hn.2)).trans hm, hg⟩, h.rep.ne⟩, ids_set v h.ids hx, placed_set v h.at' hx⟩
  rw [List.length_set]
  exact (Below.heap_setCell _ _ _ _ h.rep.ne).trans h.rep.box
/-! ### walks -/
theorem look_some {w : World} {tt : TypeId} {T b c m : Nat} {l : List (Int × Int)} {f : Int → Option Int} (h : HRep w tt T b c m l f) {i : Nat} {x : Int × Int} (hx : l[i]? = some x) : (Instr.lookup 64 (.map (some m)) (.int .i64 x.1) true).run Try.prog w = .ok (.tuple #[.int .i64 (i : Int), .bool true]) w := by
  obtain ⟨es, k, hm, hg⟩ := h.rep.map
  exact hg.lookup_some mapKey Try.underlying64 hm (h.at'.at hx) true
theorem look_none {w : World} {tt : TypeId} {T b c m : Nat} {l : List (Int × Int)} {f : Int → Option Int} (h : HRep w tt T b c m l f) {id : Int} (hx : f id = none) : (Instr.lookup 64 (.map (some m)) (.int .i64 id) true).run Try.prog w = .ok (.tuple #[.int .i64 0, .bool false]) w := by
  obtain ⟨es, k, hm, hg⟩ := h.rep.map
  exact hg.lookup_none mapKey Try.underlying64 zeroInt hm hx true
theorem look_nil (w : World) (id : Int) : (Instr.lookup 64 (.map none) (.int .i64 id) true).run Try.prog w = .ok (.tuple #[.int .i64 0, .bool false]) w := lookup_nil mapKey Try.underlying64 zeroInt id true
/-- What stands at a number: nothing, or a timer. -/
theorem at_or {l : List (Int × Int)} {f : Int → Option Int} (h : Placed l f) (id : Int) : f id = none ∨ ∃ (i : Nat) (x : Int × Int), l[i]? = some x ∧ x.1 = id := by
  cases hf : f id with
  | none => exact .inl rfl
  | some p =>
    obtain ⟨k, _, hk⟩ := (h id p).1 hf
    obtain ⟨z, hz, hz2⟩ := Option.map_eq_some_iff.1 hk
    exact .inr ⟨k, z, hz, hz2⟩
set_option maxHeartbeats 1000000 in
set_option maxRecDepth 100000 in
theorem thas_calls (T : Nat) (l : List (Int × Int)) (fp : List Nat) (id : Int) (w : World) (h : TM w T l fp) : Calls Try.prog 26 #[.pointer (some ⟨T, 0, none⟩), .int .i64 id] w fun e w' => e = .returned (.tuple #[.int .i64 ((hasOf l id).getD 0), .bool (hasOf l id).isSome]) ∧ w = w' := by
  rcases h with ⟨h1, rfl, _⟩ | ⟨b, c, m, f, h1, _, _⟩
  · have t1 : w.cell? ⟨T, 1, none⟩ = some (.map none) := cell_at h1 1
    have hl := look_nil w id
    clear h1
    go_enter Try.func26, Try.ntmps26
    go_wp2_with fail
    go_ret2
    exact ⟨rfl, rfl⟩
  · have t1 : w.cell? ⟨T, 1, none⟩ = some (.map (some m)) := cell_at h1.rep.box 1
    rcases at_or h1.at' id with hf | ⟨i, x, hx, rfl⟩
    · have hl := look_none h1 hf
      have he : Aside (hasOf l id = none) := ⟨has_none (placed_none h1.at' hf)⟩
      clear h1 hf
      go_enter Try.func26, Try.ntmps26
      go_wp2_with fail
      go_ret2
      exact ⟨by rw [he.out]; rfl, rfl⟩
    · have hl := look_some h1 hx
      have t0 := h1.cell
      obtain ⟨k1, k2⟩ := h1.rep.row.cells hx
      have he : Aside (hasOf l x.1 = some x.2) := ⟨has_some h1.ids hx⟩
      have hi := (List.getElem?_eq_some_iff.1 hx).1
      have hmx := h1.rep.row.max
      have hcp := h1.rep.row.cap
      unfold maxLen at hmx
      clear h1 hx
      generalize l.length = n at *
      go_enter Try.func26, Try.ntmps26
      go_wp2_with fail
      go_ret2
      exact ⟨by rw [he.out]; rfl, rfl⟩
def stopped (l : List (Int × Int)) (id : Int) : Bool := (hasOf l id).isSome
set_option maxHeartbeats 1000000 in
set_option maxRecDepth 100000 in
theorem tstop_calls (T : Nat) (l : List (Int × Int)) (fp : List Nat) (id : Int) (w : World) (hl9 : l.length ≤ 1000000000) (h : TM w T l fp) : Calls Try.prog 27 #[.pointer (some ⟨T, 0, none⟩), .int .i64 id] w fun e w' => e = .returned (.bool (stopped l id)) ∧ ∃ l', l'.Perm (del l id) ∧ TM w' T l' fp ∧ Fr (fun k => k ∈ fp) w w' := by
  rcases h with ⟨h1, rfl, rfl⟩ | ⟨b, c, m, f, h1, h2, rfl⟩
  · have t1 : w.cell? ⟨T, 1, none⟩ = some (.map none) := cell_at h1 1
    have hl := look_nil w id
    have HT : Aside (TM w T [] [T]) := ⟨.inl ⟨h1, rfl, rfl⟩⟩
    clear h1
    go_enter Try.func27, Try.ntmps27
    go_wp2_with fail
    go_ret
    exact ⟨rfl, [], List.Perm.refl _, HT.out, Fr.refl _ _⟩
  · have t1 : w.cell? ⟨T, 1, none⟩ = some (.map (some m)) := cell_at h1.rep.box 1
    have H1 := Aside.mk h1
    have H2 := Aside.mk h2
    rcases at_or h1.at' id with hf | ⟨i, x, hx, rfl⟩
    · have hl := look_none h1 hf
      have he : Aside (hasOf l id = none ∧ del l id = l) := ⟨has_none (placed_none h1.at' hf), del_none (placed_none h1.at' hf)⟩
      clear h1 h2 hf
      go_enter Try.func27, Try.ntmps27
      go_wp2_with fail
      go_ret
      exact ⟨by unfold stopped; rw [he.out.1]; rfl, l, by rw [he.out.2], .inr ⟨b, c, m, f, H1.out, H2.out, rfl⟩, Fr.refl _ _⟩
    · have hl := look_some h1 hx
      have he : Aside (hasOf l x.1 = some x.2) := ⟨has_some h1.ids hx⟩
      have HX := Aside.mk hx
      clear h1 h2 hx
      go_enter Try.func27, Try.ntmps27
      go_wp2_with fail
      refine (hremove_calls 68 T b c m i l f x w hl9 H1.out H2.out HX.out).mono ?_
      rintro e w2 ⟨rfl, l', f', hp, hR, hH, hF⟩
      have HP : Aside (l'.Perm (del l x.1)) := ⟨by
        have h3 := hp.trans (del_perm H1.out.ids HX.out).symm
        exact (List.perm_append_right_iff [x]).1 h3⟩
      have HZ : Aside (TM w2 T l' [T, b, m] ∧ Fr (fun k => k ∈ [T, b, m]) w w2) := ⟨.inr ⟨b, c, m, f', hR, hH, rfl⟩, hF.mono (fun i hi => by rcases hi with h | h | h <;> simp [h])⟩
      clear hp hR hH hF
      go_wp2_with fail
      go_ret
      exact ⟨by unfold stopped; rw [he.out]; rfl, l', HP.out, HZ.out.1, HZ.out.2⟩
end Go.Proofs.Ytjefeoohfalcaaa.C
