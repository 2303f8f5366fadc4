/- Plain laws of timers. -/
import Derived.Test.YtjefeoohfalcaaaST
namespace Go.Proofs.Ytjefeoohfalcaaa.C
open Go.RowKit Go.Proofs.Ytjefeoohfalcaaa.Q
set_option linter.unusedVariables false
set_option linter.unusedSimpArgs false
theorem wf_le {x : Int} (h : (Lit.int .i64 x).wf = true) : x ≤ 9223372036854775807 ∧ -9223372036854775808 ≤ x := by
  simp [Lit.wf, IntKind.min, IntKind.max, IntKind.bits, IntKind.signed] at h
  omega
theorem wrap_small (j : Nat) (h : j ≤ 1000) : IntKind.i64.wrap (j : Int) = j := by
  simp [IntKind.wrap, IntKind.bits, IntKind.signed]
  omega
theorem TB.ids {w0 w : World} {T : Nat} {S : List (Int × Int)} (h : TB w0 T S w) : Ids S := by
  obtain ⟨⟨fp, h1, _⟩, _⟩ := h
  exact h1.ids
theorem TB.srt {w0 w : World} {T : Nat} {S : List (Int × Int)} (h : TB w0 T S w) : Srt S := by
  obtain ⟨⟨fp, h1, _⟩, _⟩ := h
  exact h1.srt
theorem hasB_none {S : List (Int × Int)} {id : Int} (h : (hasOf S id).isSome = false) : ∀ x ∈ S, x.1 ≠ id := by
  intro x hx e
  unfold hasOf at h
  simp only [Option.isSome_map, Option.isSome_eq_false_iff, Option.isNone_iff_eq_none, List.find?_eq_none] at h
  exact h x hx (by simp [e])
theorem has_del (S : List (Int × Int)) (id : Int) : (hasOf (del S id) id).isSome = false := by
  unfold hasOf
  simp only [Option.isSome_map, Option.isSome_eq_false_iff, Option.isNone_iff_eq_none, List.find?_eq_none]
  intro x hx e
  exact del_not S id x hx (by simpa using e)
theorem del_len {S : List (Int × Int)} (hI : Ids S) {id : Int} (h : (hasOf S id).isSome = true) : (del S id).length + 1 = S.length := by
  induction S with
  | nil => simp [hasOf] at h
  | cons y r ih =>
    have hr : Ids r := by unfold Ids at *; simp only [List.map_cons, List.nodup_cons] at hI; exact hI.2
    have hy : y.1 ∉ r.map (·.1) := by unfold Ids at hI; simp only [List.map_cons, List.nodup_cons] at hI; exact hI.1
    by_cases e : y.1 = id
    · have : del r id = r := del_none (fun x hx ex => hy (List.mem_map.2 ⟨x, hx, by rw [ex, e]⟩))
      have h2 : del (y :: r) id = del r id := by unfold del; rw [List.filter_cons_of_neg (by simp [e])]
      rw [h2, this]; rfl
    · have h2 : del (y :: r) id = y :: del r id := by unfold del; rw [List.filter_cons_of_pos (by simp [e])]
      have h3 : hasOf (y :: r) id = hasOf r id := by unfold hasOf; rw [List.find?_cons_of_neg (by simp [e])]
      rw [h2, List.length_cons, List.length_cons, ih hr (by rw [← h3]; exact h)]
theorem mem_ins {x y : Int × Int} {S : List (Int × Int)} : y ∈ ins x S ↔ y = x ∨ y ∈ S := by rw [(ins_perm x S).mem_iff]; simp
theorem mem_set {S : List (Int × Int)} {id v : Int} {y : Int × Int} (h : y ∈ setS S id v) : y = (id, v) ∨ (y ∈ S ∧ y.1 ≠ id) := by
  unfold setS at h
  rcases mem_ins.1 h with e | e
  · exact .inl e
  · unfold del at e
    rw [List.mem_filter] at e
    exact .inr ⟨e.1, by simpa using e.2⟩
theorem has_set {S : List (Int × Int)} {id v : Int} (hI : Ids (setS S id v)) : hasOf (setS S id v) id = some v := by
  unfold hasOf
  have hm : (id, v) ∈ setS S id v := mem_ins.2 (.inl rfl)
  cases hf : (setS S id v).find? fun x => x.1 == id with
  | none => rw [List.find?_eq_none] at hf; exact absurd (hf _ hm) (by simp)
  | some y =>
    have h1 := List.mem_of_find?_eq_some hf
    have h2 := List.find?_some hf
    rcases mem_set h1 with e | ⟨_, e⟩
    · rw [e]; rfl
    · exact absurd (by simpa using h2) e
theorem due_all {S : List (Int × Int)} (h : ∀ x ∈ S, x.2 ≤ 9223372036854775807) : dueS S 9223372036854775807 = S ∧ restS S 9223372036854775807 = [] := by
  unfold dueS restS
  rw [List.filter_eq_self, List.filter_eq_nil_iff]
  exact ⟨fun x hx => by simpa using h x hx, fun x hx => by simpa using h x hx⟩
theorem setN_mem {l : List S57} : ∀ {k : Nat}, k ≤ l.length → ∀ y ∈ setN l k, ∃ z ∈ l, y = (z.f0, z.f1)
  | 0, _, y, hy => by simp [setN] at hy
  | k + 1, hk, y, hy => by
    unfold setN at hy
    rcases mem_set hy with e | ⟨e, _⟩
    · refine ⟨rd_T57 l k, ?_, e⟩
      unfold rd_T57
      rw [Int.toNat_natCast, List.getD_eq_getElem?_getD, List.getElem?_eq_getElem (by omega)]
      exact List.getElem_mem _
    · exact setN_mem (by omega) y e
/-- How often id is met among the first k. -/
def seenN (S : List (Int × Int)) (id : Int) (k : Nat) : Nat := (S.take k).countP fun x => x.1 == id
theorem seen_succ {S : List (Int × Int)} {id : Int} {k : Nat} {x : Int × Int} (h : S[k]? = some x) : seenN S id (k + 1) = seenN S id k + if x.1 = id then 1 else 0 := by
  unfold seenN
  rw [List.take_add_one, h]
  simp [List.countP_append, List.countP_cons, List.countP_nil]
theorem seen_all {S : List (Int × Int)} {id v : Int} (hI : Ids (setS S id v)) : seenN (setS S id v) id (setS S id v).length = 1 := by
  unfold seenN
  rw [List.take_length]
  unfold setS
  rw [(ins_perm _ _).countP_eq]
  rw [List.countP_cons, List.countP_eq_zero.2 (fun x hx => by have := del_not S id x hx; simpa using this)]
  simp
theorem srt_at {S : List (Int × Int)} (h : Srt S) {j : Nat} {p y : Int × Int} (hp : S[j]? = some p) (hy : S[j + 1]? = some y) : p.2 < y.2 ∨ (p.2 = y.2 ∧ p.1 < y.1) := by
  obtain ⟨h1, rfl⟩ := List.getElem?_eq_some_iff.1 hp
  obtain ⟨h2, rfl⟩ := List.getElem?_eq_some_iff.1 hy
  have := (List.pairwise_iff_getElem.1 h) j (j + 1) h1 h2 (by omega)
  unfold aheadB at this
  simpa using this
end Go.Proofs.Ytjefeoohfalcaaa.C
