/- Zu: texts of this claim, laid together. -/
import Derived.WalkKit
import Derived.MapKept
import Derived.ChangeMaps4
import Derived.WideAt
import Derived.KernelRfl
/-! from GM -/
namespace Go.Proofs.Ytagkobpbhfkmdaa.C
open Go.RowKit Go.ChangeMaps
set_option linter.unusedVariables false
set_option linter.unusedSectionVars false
/-- What is asked of a kind of keys. -/
structure KeyOK (P : Program) (K : TypeId) {κ : Type} (ke : κ → Value) : Prop where
  inj : ∀ {a b : κ}, ke a = ke b → a = b
  check : ∀ (w : World) (em : Bool) (a : κ), (Instr.checkKey em 10000 K (ke a)).run P w = .ok () w
  find : ∀ (w : World) (a : κ) (es : List MapEntry), (∀ x ∈ es, ∃ b, x.key = ke b) →
    ((Instr.findKey K (ke a) es).run P w = .ok none w ∧ ∀ x ∈ es, x.key ≠ ke a) ∨ ∃ j e, (Instr.findKey K (ke a) es).run P w = .ok (some (j, e.val)) w ∧ es[j]? = some e ∧ e.key = ke a
  stays : ∀ (w : World) (a : κ), (Instr.keyThatStays (ke a) (ke a)).run P w = .ok (ke a) w
theorem find_now {κ : Type} {ke : κ → Value} {d : TypeDesc} (eq : κ → κ → Bool) (hs : ∀ a b, Instr.sameNow d (ke a) (ke b) = some (eq a b)) (he : ∀ a b, eq a b = true → a = b) (hr : ∀ a b, ke a = ke b → eq a b = true) (a : κ) :
    ∀ (es : List MapEntry) (i : Nat), (∀ x ∈ es, ∃ b, x.key = ke b) → (Instr.findNow d (ke a) es i = some none ∧ ∀ x ∈ es, x.key ≠ ke a) ∨ ∃ j e, Instr.findNow d (ke a) es i = some (some (i + j, e.val)) ∧ es[j]? = some e ∧ e.key = ke a
  | [], i, _ => .inl ⟨rfl, by simp⟩
  | x :: es, i, h => by
    obtain ⟨b, hb⟩ := h x (by simp)
    unfold Instr.findNow
    rw [hb, hs a b]
    cases hab : eq a b with
    | true =>
      have := he a b hab
      subst this
      exact .inr ⟨0, x, rfl, rfl, hb⟩
    | false =>
      have hne : x.key ≠ ke a := fun e => by
        have := hr a b (by rw [← e, hb])
        rw [this] at hab
        cases hab
      rcases find_now eq hs he hr a es (i + 1) (fun y hy => h y (by simp [hy])) with ⟨h1, h2⟩ | ⟨j, e, h1, h2, h3⟩
      · refine .inl ⟨h1, fun y hy => ?_⟩
        rcases List.mem_cons.1 hy with rfl | hy
        · exact hne
        · exact h2 y hy
      · exact .inr ⟨j + 1, e, by simp only [h1]; rw [show i + 1 + j = i + (j + 1) by omega], by simpa using h2, h3⟩
theorem find_run {P : Program} {K : TypeId} {κ : Type} {ke : κ → Value} {d : TypeDesc} (hK : P.underlying K = some d) (eq : κ → κ → Bool) (hs : ∀ a b, Instr.sameNow d (ke a) (ke b) = some (eq a b)) (he : ∀ a b, eq a b = true → a = b) (hr : ∀ a b, ke a = ke b → eq a b = true) (w : World) (a : κ) (es : List MapEntry) (h : ∀ x ∈ es, ∃ b, x.key = ke b) :
    ((Instr.findKey K (ke a) es).run P w = .ok none w ∧ ∀ x ∈ es, x.key ≠ ke a) ∨ ∃ j e, (Instr.findKey K (ke a) es).run P w = .ok (some (j, e.val)) w ∧ es[j]? = some e ∧ e.key = ke a := by
  rcases find_now eq hs he hr a es 0 h with ⟨h1, h2⟩ | ⟨j, e, h1, h2, h3⟩
  · exact .inl ⟨by simp [Instr.findKey, run_underlying hK, h1, Result.andThen], h2⟩
  · exact .inr ⟨j, e, by simp [Instr.findKey, run_underlying hK, h1, Result.andThen], h2, h3⟩
theorem bytes_beq (a b : ByteArray) : (a == b) = true ↔ a = b := by
  cases a with | mk x => cases b with | mk y =>
  show (x == y) = true ↔ _
  rw [beq_iff_eq]
  exact ⟨fun h => by rw [h], fun h => by cases h; rfl⟩
theorem strKey {P : Program} {K : TypeId} (hK : P.underlying K = some .string) : KeyOK P K Value.string where
  inj h := by cases h; rfl
  check w em a := by
    unfold Instr.checkKey
    simp [run_underlying hK, Result.andThen]
  find w a es h := find_run hK (fun a b => a == b) (fun a b => by simp [Instr.sameNow]) (fun a b h => (bytes_beq a b).1 h) (fun a b h => by cases h; exact (bytes_beq a a).2 rfl) w a es h
  stays w a := by simp [Instr.keyThatStays, Instr.sameBits, (bytes_beq a a).2 rfl]
def upd {κ ν : Type} [DecidableEq κ] (f : κ → Option ν) (k : κ) (v : Option ν) : κ → Option ν := fun i => if i = k then v else f i
section
variable {κ ν : Type} [DecidableEq κ] {ke : κ → Value} {ve : ν → Value} {P : Program} {T K E : TypeId}
theorem upd_same (f : κ → Option ν) (k : κ) (v : Option ν) : upd f k v k = v := if_pos rfl
theorem upd_other (f : κ → Option ν) {k i : κ} (v : Option ν) (h : i ≠ k) : upd f k v i = f i := if_neg h
/-- The entries es read as f. -/
structure GMap (ke : κ → Value) (ve : ν → Value) (es : Array MapEntry) (clock : Nat) (f : κ → Option ν) : Prop where
  ent : ∀ x ∈ es.toList, ∃ k v, x.key = ke k ∧ x.val = ve v ∧ f k = some v
  has : ∀ k v, f k = some v → ∃ x ∈ es.toList, x.key = ke k
  old : ∀ x ∈ es.toList, x.born < clock
  born : (es.toList.map (·.born)).Nodup
  keys : (es.toList.map (·.key)).Nodup
theorem GMap.empty (ke : κ → Value) (ve : ν → Value) (c : Nat) : GMap ke ve #[] c (fun _ => none) := ⟨by simp, by simp, by simp, by simp, by simp⟩
theorem GMap.keyed {es : Array MapEntry} {c : Nat} {f : κ → Option ν} (h : GMap ke ve es c f) : ∀ x ∈ es.toList, ∃ b, x.key = ke b := fun x hx => by
  obtain ⟨k, v, h1, _⟩ := h.ent x hx
  exact ⟨k, h1⟩
theorem GMap.hit {es : Array MapEntry} {c : Nat} {f : κ → Option ν} (H : KeyOK P K ke) (h : GMap ke ve es c f) {k : κ} {x : MapEntry} (hx : x ∈ es.toList) (e : x.key = ke k) : ∃ v, x.val = ve v ∧ f k = some v := by
  obtain ⟨k', v, h1, h2, h3⟩ := h.ent x hx
  have := H.inj (h1.symm.trans e)
  subst this
  exact ⟨v, h2, h3⟩
theorem GMap.find_some {es : Array MapEntry} {c : Nat} {f : κ → Option ν} (H : KeyOK P K ke) (h : GMap ke ve es c f) {k : κ} {v : ν} (hf : f k = some v) (w : World) :
    ∃ j e, (Instr.findKey K (ke k) es.toList).run P w = .ok (some (j, ve v)) w ∧ es.toList[j]? = some e ∧ e.key = ke k ∧ e.val = ve v := by
  rcases H.find w k es.toList h.keyed with ⟨_, h2⟩ | ⟨j, e, h1, h2, h3⟩
  · obtain ⟨x, hx, e⟩ := h.has k v hf
    exact absurd e (h2 x hx)
  · obtain ⟨v', h4, h5⟩ := h.hit H (List.mem_of_getElem? h2) h3
    rw [hf] at h5
    cases h5
    exact ⟨j, e, by rw [h1, h4], h2, h3, h4⟩
theorem GMap.find_none {es : Array MapEntry} {c : Nat} {f : κ → Option ν} (H : KeyOK P K ke) (h : GMap ke ve es c f) {k : κ} (hf : f k = none) (w : World) :
    (Instr.findKey K (ke k) es.toList).run P w = .ok none w ∧ ∀ x ∈ es.toList, x.key ≠ ke k := by
  rcases H.find w k es.toList h.keyed with h1 | ⟨j, e, h1, h2, h3⟩
  · exact h1
  · obtain ⟨v', h4, h5⟩ := h.hit H (List.mem_of_getElem? h2) h3
    rw [hf] at h5
    cases h5
theorem GMap.lookup_some {w : World} {b : Nat} {es : Array MapEntry} {c : Nat} {f : κ → Option ν} (H : KeyOK P K ke) (hT : P.underlying T = some (.map K E)) (hb : w.heap[b]? = some (.map es c)) (h : GMap ke ve es c f) {k : κ} {v : ν} (hf : f k = some v) (ok : Bool) :
    (Instr.lookup T (.map (some b)) (ke k) ok).run P w = .ok (if ok then .tuple #[ve v, .bool true] else ve v) w := by
  obtain ⟨j, e, h1, _⟩ := h.find_some H hf w
  simp [Instr.lookup, run_underlying hT, MapKept.run_getObj_map hb, H.check, h1, Result.andThen]
theorem GMap.lookup_none {w : World} {b : Nat} {es : Array MapEntry} {c : Nat} {f : κ → Option ν} (H : KeyOK P K ke) (hT : P.underlying T = some (.map K E)) {z : Value} (hz : ∀ u : World, (zeroValue E).run P u = .ok z u) (hb : w.heap[b]? = some (.map es c)) (h : GMap ke ve es c f) {k : κ} (hf : f k = none) (ok : Bool) :
    (Instr.lookup T (.map (some b)) (ke k) ok).run P w = .ok (if ok then .tuple #[z, .bool false] else z) w := by
  obtain ⟨h1, _⟩ := h.find_none H hf w
  simp [Instr.lookup, run_underlying hT, MapKept.run_getObj_map hb, H.check, h1, hz, Result.andThen]
/-- What is turned at one place keeps born and key. -/
theorem GMap.turned {es : Array MapEntry} {c : Nat} {f : κ → Option ν} (H : KeyOK P K ke) (h : GMap ke ve es c f) {k : κ} {v : ν} {j : Nat} {e : MapEntry} (hj : es.toList[j]? = some e) (hk : e.key = ke k) (v' : ν) :
    GMap ke ve (es.modify j fun x => { x with key := ke k, val := ve v' }) c (upd f k (some v')) := by
  have hl : (es.modify j fun x => { x with key := ke k, val := ve v' }).toList = es.toList.set j { e with key := ke k, val := ve v' } := by
    rw [Array.toList_modify]
    apply List.ext_getElem?
    intro i
    rw [List.getElem?_modify, List.getElem?_set]
    by_cases hi : j = i
    · subst hi
      have hlt : j < es.toList.length := by
        rcases Nat.lt_or_ge j es.toList.length with h' | h'
        · exact h'
        · rw [List.getElem?_eq_none h'] at hj; cases hj
      rw [hj]
      simp at hlt
      simp [hlt]
    · simp [hi]
  have hb : ((es.toList.set j { e with key := ke k, val := ve v' }).map (·.born)) = es.toList.map (·.born) := by
    rw [List.map_set]
    apply List.ext_getElem?
    intro i
    rw [List.getElem?_set]
    by_cases hi : j = i
    · subst hi
      have h1 := (List.getElem?_eq_some_iff.1 hj).1
      simp [hj]
      simpa using h1
    · simp [hi]
  have hk' : ((es.toList.set j { e with key := ke k, val := ve v' }).map (·.key)) = es.toList.map (·.key) := by
    rw [List.map_set]
    apply List.ext_getElem?
    intro i
    rw [List.getElem?_set]
    by_cases hi : j = i
    · subst hi
      have h1 := (List.getElem?_eq_some_iff.1 hj).1
      simp [hj, hk]
      simpa using h1
    · simp [hi]
  have hmem : ∀ x ∈ es.toList.set j { e with key := ke k, val := ve v' }, x = { e with key := ke k, val := ve v' } ∨ (x ∈ es.toList ∧ x.key ≠ ke k) := by
    intro x hx
    obtain ⟨i, hi⟩ := List.getElem?_of_mem hx
    rw [List.getElem?_set] at hi
    by_cases e1 : j = i
    · subst e1
      rw [if_pos rfl] at hi
      split at hi
      · cases hi; exact .inl rfl
      · cases hi
    · rw [if_neg e1] at hi
      refine .inr ⟨List.mem_of_getElem? hi, fun e2 => e1 ?_⟩
      have h1 : (es.toList.map (·.key))[i]? = some (ke k) := by rw [List.getElem?_map, hi, Option.map_some, e2]
      have h2 : (es.toList.map (·.key))[j]? = some (ke k) := by rw [List.getElem?_map, hj, Option.map_some, hk]
      exact (List.getElem?_inj (List.getElem?_eq_some_iff.1 h2).1 h.keys).1 (h2.trans h1.symm)
  refine ⟨?_, ?_, ?_, ?_, ?_⟩
  · rw [hl]
    intro x hx
    rcases hmem x hx with rfl | ⟨h1, h2⟩
    · exact ⟨k, v', rfl, rfl, upd_same _ _ _⟩
    · obtain ⟨k', v2, h3, h4, h5⟩ := h.ent x h1
      exact ⟨k', v2, h3, h4, by rw [upd_other _ _ (fun e => h2 (by rw [h3, e]))]; exact h5⟩
  · rw [hl]
    intro k' v2 hf
    by_cases e1 : k' = k
    · subst e1
      refine ⟨{ e with key := ke k', val := ve v' }, ?_, rfl⟩
      have := List.getElem?_eq_some_iff.1 hj
      exact List.mem_iff_getElem?.2 ⟨j, by rw [List.getElem?_set, if_pos rfl, if_pos this.1]⟩
    · rw [upd_other _ _ e1] at hf
      obtain ⟨x, hx, h2⟩ := h.has k' v2 hf
      obtain ⟨i, hi⟩ := List.getElem?_of_mem hx
      refine ⟨x, List.mem_iff_getElem?.2 ⟨i, ?_⟩, h2⟩
      rw [List.getElem?_set, if_neg ?_]
      · exact hi
      · intro e2
        subst e2
        rw [hj] at hi
        cases hi
        exact e1 (H.inj (h2.symm.trans hk))
  · rw [hl]
    intro x hx
    rcases hmem x hx with rfl | ⟨h1, h2⟩
    · exact h.old e (List.mem_of_getElem? hj)
    · exact h.old x h1
  · rw [hl, hb]; exact h.born
  · rw [hl, hk']; exact h.keys
theorem GMap.pushed {es : Array MapEntry} {c : Nat} {f : κ → Option ν} (H : KeyOK P K ke) (h : GMap ke ve es c f) {k : κ} (hk : ∀ x ∈ es.toList, x.key ≠ ke k) (v' : ν) :
    GMap ke ve (es.push ⟨ke k, ve v', c⟩) (c + 1) (upd f k (some v')) := by
  refine ⟨?_, ?_, ?_, ?_, ?_⟩
  · intro x hx
    rw [Array.toList_push, List.mem_append] at hx
    rcases hx with hx | hx
    · obtain ⟨k', v2, h3, h4, h5⟩ := h.ent x hx
      exact ⟨k', v2, h3, h4, by rw [upd_other _ _ (fun e => hk x hx (by rw [h3, e]))]; exact h5⟩
    · have := List.mem_singleton.1 hx
      subst this
      exact ⟨k, v', rfl, rfl, upd_same _ _ _⟩
  · intro k' v2 hf
    by_cases e1 : k' = k
    · subst e1
      exact ⟨⟨ke k', ve v', c⟩, by simp, rfl⟩
    · rw [upd_other _ _ e1] at hf
      obtain ⟨x, hx, h2⟩ := h.has k' v2 hf
      exact ⟨x, by rw [Array.toList_push]; exact List.mem_append_left _ hx, h2⟩
  · intro x hx
    rw [Array.toList_push, List.mem_append] at hx
    rcases hx with hx | hx
    · have := h.old x hx; omega
    · have := List.mem_singleton.1 hx
      subst this
      exact Nat.lt_succ_self c
  · rw [Array.toList_push, List.map_append]
    refine List.nodup_append.2 ⟨h.born, by simp, fun a ha b hb e => ?_⟩
    simp only [List.map_cons, List.map_nil, List.mem_singleton] at hb
    obtain ⟨x, hx, rfl⟩ := List.mem_map.1 ha
    have := h.old x hx
    omega
  · rw [Array.toList_push, List.map_append]
    refine List.nodup_append.2 ⟨h.keys, by simp, fun a ha b hb e => ?_⟩
    simp only [List.map_cons, List.map_nil, List.mem_singleton] at hb
    obtain ⟨x, hx, rfl⟩ := List.mem_map.1 ha
    exact hk x hx (by rw [e, hb])
theorem GMap.update {w : World} {b : Nat} {es : Array MapEntry} {c : Nat} {f : κ → Option ν} (H : KeyOK P K ke) (hT : P.underlying T = some (.map K E)) (hb : w.heap[b]? = some (.map es c)) (h : GMap ke ve es c f) (k : κ) (v : ν) :
    ∃ es' c', (Instr.mapUpdate T (.map (some b)) (ke k) (ve v)).run P w = .ok () (setBlock w b (.map es' c')) ∧ GMap ke ve es' c' (upd f k (some v)) := by
  cases hf : f k with
  | none =>
    obtain ⟨h1, h2⟩ := h.find_none H hf w
    exact ⟨_, _, by simp [Instr.mapUpdate, run_underlying hT, MapKept.run_getObj_map hb, H.check, h1, MapKept.run_setObj_map _ hb, Result.andThen, setBlock], h.pushed H h2 v⟩
  | some v0 =>
    obtain ⟨j, e, h1, h2, h3, h4⟩ := h.find_some H hf w
    have hj : es[j]? = some e := by simpa using h2
    exact ⟨_, _, by simp [Instr.mapUpdate, run_underlying hT, MapKept.run_getObj_map hb, H.check, h1, hj, h3, H.stays, MapKept.run_setObj_map _ hb, Result.andThen, setBlock], h.turned (v := v0) H h2 h3 v⟩
theorem find_born {l : List MapEntry} (hn : (l.map (·.born)).Nodup) {j : Nat} {e : MapEntry} (h : l[j]? = some e) : l.findIdx? (fun x => ((x.born : Nat) : Int) == ((e.born : Nat) : Int)) = some j := by
  have hlt := (List.getElem?_eq_some_iff.1 h).1
  rw [List.findIdx?_eq_some_iff_getElem]
  refine ⟨hlt, ?_, fun i hi => ?_⟩
  · have := (List.getElem?_eq_some_iff.1 h).2
    rw [this]
    simp
  · intro h'
    have h1 : l[i].born = e.born := by
      simp only [beq_iff_eq] at h'
      omega
    have h2 : (l.map (·.born))[i]? = some e.born := by rw [List.getElem?_map, List.getElem?_eq_getElem (by omega), Option.map_some, h1]
    have h3 : (l.map (·.born))[j]? = some e.born := by rw [List.getElem?_map, h, Option.map_some]
    have := (List.getElem?_inj (List.getElem?_eq_some_iff.1 h2).1 hn).1 (h2.trans h3.symm)
    omega
/-- m[k] = v where k is there, done by an entry: first the entry, later the store. -/
theorem GMap.entry {w : World} {b : Nat} {es : Array MapEntry} {c : Nat} {f : κ → Option ν} (H : KeyOK P K ke) (hT : P.underlying T = some (.map K E)) (hb : w.heap[b]? = some (.map es c)) (h : GMap ke ve es c f) {k : κ} {v0 : ν} (hf : f k = some v0) :
    ∃ st es1, (Instr.mapEntry T (.map (some b)) (ke k)).run P w = .ok (.tuple #[ve v0, goInt st]) (setBlock w b (.map es1 c)) ∧
      ∀ (v : ν) (w2 : World), w2.heap[b]? = some (.map es1 c) → ∃ es', (Instr.entryStore T (.map (some b)) (goInt st) (ve v)).run P w2 = .ok () (setBlock w2 b (.map es' c)) ∧ GMap ke ve es' c (upd f k (some v)) := by
  obtain ⟨j, e, h1, h2, h3, h4⟩ := h.find_some H hf w
  have hj : es[j]? = some e := by simpa using h2
  refine ⟨e.born, es.modify j fun x => { x with key := ke k }, ?_, fun v w2 hw2 => ⟨es.modify j fun x => { x with key := ke k, val := ve v }, ?_, h.turned (v := v0) H h2 h3 v⟩⟩
  · simp [Instr.mapEntry, run_underlying hT, MapKept.run_getObj_map hb, H.check, h1, hj, h3, H.stays, MapKept.run_setObj_map _ hb, Result.andThen, setBlock]
  · have hlist : (es.modify j fun x => { x with key := ke k }).toList[j]? = some { e with key := ke k } := by
      rw [Array.toList_modify, List.getElem?_modify, h2]
      simp
    have hbn : ((es.modify j fun x => { x with key := ke k }).toList.map (·.born)).Nodup := by
      have : ((es.modify j fun x => { x with key := ke k }).toList.map (·.born)) = es.toList.map (·.born) := by
        rw [Array.toList_modify]
        apply List.ext_getElem?
        intro i
        rw [List.getElem?_map, List.getElem?_map, List.getElem?_modify]
        by_cases hi : j = i
        · simp [hi]
          cases es[i]? <;> rfl
        · simp [hi]
      rw [this]
      exact h.born
    have hidx : (es.modify j fun x => { x with key := ke k }).findIdx? (fun x => ((x.born : Nat) : Int) == ((e.born : Nat) : Int)) = some j := by
      have hx : ∀ (xs : Array MapEntry) (p : MapEntry → Bool), xs.findIdx? p = xs.toList.findIdx? p := fun xs p => by cases xs; simp
      rw [hx]
      exact find_born (e := { e with key := ke k }) hbn hlist
    have hmod : (es.modify j fun x => { x with key := ke k }).modify j (fun x => { x with val := ve v }) = es.modify j fun x => { x with key := ke k, val := ve v } := by
      apply Array.ext'
      rw [Array.toList_modify, Array.toList_modify, Array.toList_modify]
      apply List.ext_getElem?
      intro i
      rw [List.getElem?_modify, List.getElem?_modify, List.getElem?_modify]
      by_cases hi : j = i
      · simp [hi]
        cases es[i]? <;> rfl
      · simp [hi]
    simp [Instr.entryStore, MapKept.run_getObj_map hw2, asInt, asIntOf, goInt, hidx, hmod, MapKept.run_setObj_map _ hw2, Result.andThen, setBlock]
theorem GMap.erased {es : Array MapEntry} {c : Nat} {f : κ → Option ν} (H : KeyOK P K ke) (h : GMap ke ve es c f) {k : κ} {j : Nat} {e : MapEntry} (hj : es.toList[j]? = some e) (hk : e.key = ke k) :
    GMap ke ve (es.eraseIdxIfInBounds j) c (upd f k none) := by
  have hlt := (List.getElem?_eq_some_iff.1 hj).1
  have hl : (es.eraseIdxIfInBounds j).toList = es.toList.eraseIdx j := by
    rw [Array.eraseIdxIfInBounds, dif_pos (by simpa using hlt), Array.toList_eraseIdx]
  have hsub : (es.toList.eraseIdx j).Sublist es.toList := List.eraseIdx_sublist _ _
  refine ⟨?_, ?_, ?_, ?_, ?_⟩
  · rw [hl]
    intro x hx
    obtain ⟨k', v2, h3, h4, h5⟩ := h.ent x (hsub.subset hx)
    refine ⟨k', v2, h3, h4, ?_⟩
    rw [upd_other _ _ ?_]
    · exact h5
    · intro e1
      subst e1
      obtain ⟨i, hi, he⟩ := List.mem_eraseIdx_iff_getElem.1 hx
      obtain ⟨hne, he⟩ := he
      have h6 : (es.toList.map (·.key))[i]? = some (ke k') := by rw [List.getElem?_map, List.getElem?_eq_getElem hi, Option.map_some, he, h3]
      have h7 : (es.toList.map (·.key))[j]? = some (ke k') := by rw [List.getElem?_map, hj, Option.map_some, hk]
      exact hne ((List.getElem?_inj (List.getElem?_eq_some_iff.1 h6).1 h.keys).1 (h6.trans h7.symm))
  · rw [hl]
    intro k' v2 hf
    by_cases e1 : k' = k
    · subst e1; rw [upd_same] at hf; cases hf
    · rw [upd_other _ _ e1] at hf
      obtain ⟨x, hx, h2⟩ := h.has k' v2 hf
      obtain ⟨i, hi⟩ := List.getElem?_of_mem hx
      have hi' := List.getElem?_eq_some_iff.1 hi
      refine ⟨x, List.mem_eraseIdx_iff_getElem.2 ⟨i, hi'.1, fun e2 => ?_, hi'.2⟩, h2⟩
      subst e2
      rw [hj] at hi
      cases hi
      exact e1 (H.inj (h2.symm.trans hk))
  · rw [hl]
    exact fun x hx => h.old x (hsub.subset hx)
  · rw [hl]
    exact h.born.sublist (hsub.map _)
  · rw [hl]
    exact h.keys.sublist (hsub.map _)
theorem GMap.delete {w : World} {b : Nat} {es : Array MapEntry} {c : Nat} {f : κ → Option ν} (H : KeyOK P K ke) (hT : P.underlying T = some (.map K E)) (hb : w.heap[b]? = some (.map es c)) (h : GMap ke ve es c f) (k : κ) (ty : TypeId) :
    ∃ es', (Builtin.delete_ #[T, K] ty #[.map (some b), ke k]).run P w = .ok (.tuple #[]) (setBlock w b (.map es' c)) ∧ GMap ke ve es' c (upd f k none) := by
  cases hf : f k with
  | none =>
    obtain ⟨h1, h2⟩ := h.find_none H hf w
    refine ⟨es, by simp [Builtin.delete_, run_underlying hT, MapKept.run_getObj_map hb, H.check, h1, MapKept.run_setObj_map _ hb, Result.andThen, setBlock], ?_⟩
    have : upd f k none = f := funext fun i => by
      by_cases e : i = k
      · subst e; rw [upd_same, hf]
      · rw [upd_other _ _ e]
    rw [this]
    exact h
  | some v0 =>
    obtain ⟨j, e, h1, h2, h3, h4⟩ := h.find_some H hf w
    exact ⟨_, by simp [Builtin.delete_, run_underlying hT, MapKept.run_getObj_map hb, H.check, h1, MapKept.run_setObj_map _ hb, Result.andThen, setBlock], h.erased H h2 h3⟩
end
end Go.Proofs.Ytagkobpbhfkmdaa.C
