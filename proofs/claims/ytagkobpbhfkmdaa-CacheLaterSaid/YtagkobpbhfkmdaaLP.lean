/- CacheLater, plain: what is learnt of a key stays; the rest is as it would be. -/
import Derived.Test.YtagkobpbhfkmdaaSK
import Derived.Test.YtagkobpbhfkmdaaTO
import Derived.Test.YtagkobpbhfkmdaaEE
import Derived.Test.YtagkobpbhfkmdaaQx5
namespace Go.Proofs.Ytagkobpbhfkmdaa.C
open Go.RowKit Go.Proofs.Ytagkobpbhfkmdaa.Q Go.Proofs.YtagkobpbhfkmdaaW.PrintLast Go.Proofs.YtagkobpbhfkmdaaW.PrintWords
set_option linter.unusedVariables false
def keysOf (s : Sd) : List ByteArray := s.f3 ++ (s.f4.map (·.f0) ++ s.f5.map (·.f2))
/-- The facts' keys; an entry that is there bears its key. -/
def FK (f : Fcts) (L : List ByteArray) : Prop := ∀ k v, f k = some v → k ∈ L ∧ (v.there = true → v.x.key = k)
theorem FK.mono {f : Fcts} {L L' : List ByteArray} (h : FK f L) (hs : ∀ k ∈ L, k ∈ L') : FK f L' := fun k v hk => ⟨hs k (h k v hk).1, (h k v hk).2⟩
theorem FK.upd {f : Fcts} {L : List ByteArray} (h : FK f L) {k : ByteArray} {v : Fct} (hk : k ∈ L) (hv : v.there = true → v.x.key = k) : FK (upd f k (some v)) L := fun k2 v2 h2 => by
  by_cases e : k2 = k
  · subst e; rw [upd_same] at h2; cases h2; exact ⟨hk, hv⟩
  · rw [upd_other _ _ e] at h2; exact h k2 v2 h2
theorem dropM_some {f : Fcts} {rev : Int} {k : ByteArray} {v : Fct} (h : dropM f rev k = some v) : f k = some v := by
  unfold dropM at h
  cases hf : f k with
  | none => rw [hf] at h; cases h
  | some v2 =>
    rw [hf] at h
    dsimp only at h
    split at h
    · cases h
    · exact h
theorem foldl_inv {α : Type} (P : Fcts → Prop) (g : Fcts → α → Fcts) : ∀ (l : List α) (f : Fcts), P f → (∀ f x, x ∈ l → P f → P (g f x)) → P (l.foldl g f)
  | [], f, h, _ => h
  | x :: l, f, h, hg => foldl_inv P g l (g f x) (hg f x (by simp) h) (fun f y hy hf => hg f y (by simp [hy]) hf)
theorem tell_fk {f : Fcts} {u : Int} {s : Sd} {L : List ByteArray} (h : FK f L) : FK (tellM f u s).1.1 (keysOf s ++ L) := by
  have h0 : FK f (keysOf s ++ L) := h.mono (fun k hk => by simp [hk])
  unfold tellM
  split
  · unfold listM
    split
    · split
      · exact h0
      · refine foldl_inv (fun f => FK f (keysOf s ++ L)) _ _ _ (fun k v hk => h0 k v (dropM_some hk)) (fun f x hx hf => ?_)
        unfold addL
        split
        · exact hf
        · exact hf.upd (List.mem_append_left _ (by unfold keysOf; simp only [List.mem_append, List.mem_map]; exact .inr (.inl ⟨x, hx, rfl⟩))) (fun _ => rfl)
    · exact h0
  · split
    · unfold watchM
      split
      · split
        · exact h0
        · refine foldl_inv (fun f => FK f (keysOf s ++ L)) _ _ _ h0 (fun f x hx hf => ?_)
          unfold stepW
          split
          · unfold happM
            refine hf.upd (List.mem_append_left _ (by unfold keysOf; simp only [List.mem_append, List.mem_map]; exact .inr (.inr ⟨x, hx, rfl⟩))) ?_
            cases x.f1 with
            | true => intro hh; cases hh
            | false => intro _; rfl
          · exact hf
      · exact h0
    · unfold learnM
      split
      · split
        · exact h0
        · refine foldl_inv (fun f => FK f (keysOf s ++ L)) _ _ _ h0 (fun f k hk hf => ?_)
          unfold addN
          split
          · exact hf
          · refine hf.upd (List.mem_append_left _ (by unfold keysOf; simp only [List.mem_append]; exact .inl hk)) ?_
            unfold fndF
            cases hfi : s.f4.find? (fun x => eqT x.f0 k) with
            | none => intro hh; cases hh
            | some x =>
              intro _
              have := List.find?_some hfi
              exact eqT_iff.1 this
      · exact h0
theorem keysOf_len {s : Sd} (hs : Few s) : (keysOf s).length ≤ 900 := by
  unfold keysOf
  rw [List.length_append, List.length_append, List.length_map, List.length_map]
  obtain ⟨h1, h2, h3, _⟩ := hs
  omega
theorem keysOf_size {s : Sd} (hs : Few s) : ∀ k ∈ keysOf s, k.size ≤ 1000000 := fun k hk => by
  obtain ⟨_, _, _, h3, h4, h5⟩ := hs
  unfold keysOf at hk
  rw [List.mem_append, List.mem_append, List.mem_map, List.mem_map] at hk
  rcases hk with hk | ⟨x, hx, rfl⟩ | ⟨x, hx, rfl⟩
  · have := h3 k hk; omega
  · have := (h4 x hx).1; omega
  · have := (h5 x hx).1; omega
/-- Facts of so few keys. -/
def FKN (f : Fcts) (n : Nat) : Prop := ∃ L, FK f L ∧ L.length ≤ n ∧ ∀ k ∈ L, k.size ≤ 1000000
theorem FKN.bnd {f : Fcts} {n : Nat} (h : FKN f n) : FBnd f n := by
  obtain ⟨L, h1, h2, h3⟩ := h
  exact ⟨L, h2, fun k v hk => (h1 k v hk).1, h3⟩
theorem FKN.none (n : Nat) : FKN (fun _ => none) n := ⟨[], fun k v h => (by cases h), Nat.zero_le _, fun k hk => (by cases hk)⟩
theorem FKN.tell {f : Fcts} {u : Int} {s : Sd} {n : Nat} (h : FKN f n) (hs : Few s) : FKN (tellM f u s).1.1 (n + 900) := by
  obtain ⟨L, h1, h2, h3⟩ := h
  refine ⟨keysOf s ++ L, tell_fk h1, by rw [List.length_append]; have := keysOf_len hs; omega, fun k hk => ?_⟩
  rcases List.mem_append.1 hk with hk | hk
  · exact keysOf_size hs k hk
  · exact h3 k hk
theorem evs_rev {rev : Int} : ∀ {l : List Ev} {last : Int}, evsB rev last l = true → ∀ x ∈ l, x.f0 ≤ rev
  | [], _, _, x, hx => (by cases hx)
  | y :: l, last, h, x, hx => by
    unfold evsB at h
    simp only [Bool.and_eq_true] at h
    rcases List.mem_cons.1 hx with rfl | hx
    · have := h.1
      unfold evB at this
      simp only [Bool.and_eq_true, Bool.not_eq_true', decide_eq_false_iff_not] at this
      omega
    · exact evs_rev h.2 x hx
/-- The key's fact stays; the others are the same. -/
def LR (key : ByteArray) (rev : Int) (f g : Fcts) : Prop := f key = some ⟨rev, false, entZ⟩ ∧ ∀ k, k ≠ key → f k = g k
theorem foldl_two {α : Type} (R : Fcts → Fcts → Prop) (g : Fcts → α → Fcts) : ∀ (l : List α) (a b : Fcts), R a b → (∀ a b x, x ∈ l → R a b → R (g a x) (g b x)) → R (l.foldl g a) (l.foldl g b)
  | [], a, b, h, _ => h
  | x :: l, a, b, h, hg => foldl_two R g l (g a x) (g b x) (hg a b x (by simp) h) (fun a b y hy hab => hg a b y (by simp [hy]) hab)
theorem LR.both {key : ByteArray} {rev : Int} {f g : Fcts} (h : LR key rev f g) {k : ByteArray} (hk : k ≠ key) (v : Option Fct) : LR key rev (upd f k v) (upd g k v) :=
  ⟨by rw [upd_other _ _ (fun e => hk e.symm)]; exact h.1, fun i hi => by
    by_cases e : i = k
    · subst e; rw [upd_same, upd_same]
    · rw [upd_other _ _ e, upd_other _ _ e]; exact h.2 i hi⟩
theorem LR.right {key : ByteArray} {rev : Int} {f g : Fcts} (h : LR key rev f g) (v : Option Fct) : LR key rev f (upd g key v) :=
  ⟨h.1, fun i hi => by rw [upd_other _ _ hi]; exact h.2 i hi⟩
theorem later_tell {key : ByteArray} {rev : Int} {f g : Fcts} {u : Int} {s : Sd} (h : LR key rev f g) (hu : u < rev) (hw : s.f0 = 0 ∨ s.f0 = 1) (hr : s.f2 < rev) :
    (tellM f u s).2 = (tellM g u s).2 ∧ LR key rev (tellM f u s).1.1 (tellM g u s).1.1 ∧ (tellM f u s).1.2 = (tellM g u s).1.2 ∧ (tellM f u s).1.2 < rev := by
  unfold tellM
  by_cases h0 : s.f0 = 0
  · rw [if_pos h0, if_pos h0]
    unfold listM
    by_cases ho : ofOK s.f4 s.f2 = true
    · rw [if_pos ho, if_pos ho]
      by_cases hru : s.f2 ≤ u
      · rw [if_pos hru, if_pos hru]
        exact ⟨rfl, h, rfl, hu⟩
      · rw [if_neg hru, if_neg hru]
        refine ⟨rfl, foldl_two (LR key rev) _ _ _ _ ⟨?_, fun k hk => ?_⟩ (fun a b x hx hab => ?_), rfl, hr⟩
        · unfold dropM
          rw [h.1]
          exact if_neg (by show ¬ rev ≤ s.f2; omega)
        · unfold dropM
          rw [h.2 k hk]
        · unfold addL
          by_cases e : x.f0 = key
          · rw [if_pos (by rw [e, hab.1]; rfl)]
            split
            · exact hab
            · rw [e]; exact hab.right _
          · rw [hab.2 _ e]
            split
            · exact hab
            · exact hab.both e _
    · rw [if_neg ho, if_neg ho]
      exact ⟨rfl, h, rfl, hu⟩
  · have h1 : s.f0 = 1 := by rcases hw with hw | hw; exact absurd hw h0; exact hw
    rw [if_neg h0, if_neg h0, if_pos h1, if_pos h1]
    unfold watchM
    by_cases ho : cmayB s.f1 s.f2 s.f5 = true
    · rw [if_pos ho, if_pos ho]
      by_cases hru : u = -1 ∨ u + 1 < s.f1
      · rw [if_pos hru, if_pos hru]
        exact ⟨rfl, h, rfl, hu⟩
      · rw [if_neg hru, if_neg hru]
        have hev : evsB s.f2 s.f1 s.f5 = true := by
          unfold cmayB at ho
          simp only [Bool.and_eq_true] at ho
          exact ho.2
        refine ⟨rfl, foldl_two (LR key rev) _ _ _ _ h (fun a b x hx hab => ?_), rfl, by show maxI u s.f2 < rev; unfold maxI; split <;> omega⟩
        have hxr := evs_rev hev x hx
        unfold stepW
        by_cases e : x.f2 = key
        · rw [if_neg (by unfold asofM; rw [e, hab.1]; dsimp only; split <;> omega)]
          split
          · unfold happM
            rw [e]
            exact hab.right _
          · exact hab
        · have ha : asofM a u x.f2 = asofM b u x.f2 := by unfold asofM; rw [hab.2 _ e]
          rw [ha]
          split
          · unfold happM getM
            rw [hab.2 _ e]
            exact hab.both e _
          · exact hab
    · rw [if_neg ho, if_neg ho]
      exact ⟨rfl, h, rfl, hu⟩
theorem ltB_trans {a b c : ByteArray} (h : ltB a b) (k : ltB b c) : ltB a c := List.lt_trans h k
theorem ltB_irrefl (a : ByteArray) : ¬ ltB a a := List.lt_irrefl _
/-- Rising lists of the same members are the same. -/
theorem rising_eq : ∀ {l m : List ByteArray}, l.Pairwise ltB → m.Pairwise ltB → (∀ k, k ∈ l ↔ k ∈ m) → l = m
  | [], [], _, _, _ => rfl
  | [], y :: m, _, _, h => absurd ((h y).2 (by simp)) (by simp)
  | x :: l, [], _, _, h => absurd ((h x).1 (by simp)) (by simp)
  | x :: l, y :: m, hl, hm, h => by
    obtain ⟨hl1, hl2⟩ := List.pairwise_cons.1 hl
    obtain ⟨hm1, hm2⟩ := List.pairwise_cons.1 hm
    have hxy : x = y := by
      rcases List.mem_cons.1 ((h x).1 (by simp)) with e | hx
      · exact e
      · rcases List.mem_cons.1 ((h y).2 (by simp)) with e | hy
        · exact e.symm
        · exact absurd (ltB_trans (hl1 y hy) (hm1 x hx)) (ltB_irrefl x)
    subst hxy
    congr 1
    refine rising_eq hl2 hm2 (fun k => ?_)
    have hk := h k
    simp only [List.mem_cons] at hk
    constructor
    · intro hkl
      rcases hk.1 (.inr hkl) with e | hkm
      · subst e; exact absurd (hl1 k hkl) (ltB_irrefl k)
      · exact hkm
    · intro hkm
      rcases hk.2 (.inr hkm) with e | hkl
      · subst e; exact absurd (hm1 k hkm) (ltB_irrefl k)
      · exact hkl
theorem later_entries {key : ByteArray} {rev : Int} {f g : Fcts} {L : List ByteArray} (h : LR key rev f g) (hg : FK g L) {kf kg : List ByteArray} (hf1 : SKeys f kf) (hg1 : SKeys g kg) (pre : ByteArray) :
    entsM f pre kf = (entsM g pre kg).filter (fun x => !eqT x.f0 key) := by
  unfold entsM
  rw [List.filter_map]
  have hk : ∀ k ∈ kg.filter (pickB g pre), (enOf ((g k).getD fctZ).x).f0 = k := fun k hk => by
    obtain ⟨h1, h2⟩ := List.mem_filter.1 hk
    obtain ⟨v, hv⟩ := Option.isSome_iff_exists.1 ((hg1.2 k).1 h1)
    unfold pickB at h2
    rw [hv] at h2 ⊢
    simp only [Option.getD_some, Bool.and_eq_true] at h2 ⊢
    exact (hg k v hv).2 h2.1
  have e1 : (kg.filter (pickB g pre)).filter ((fun x => !eqT x.f0 key) ∘ fun k => enOf ((g k).getD fctZ).x) = (kg.filter (pickB g pre)).filter (fun k => !eqT k key) := by
    apply List.filter_congr
    intro k hk'
    show (!eqT _ key) = _
    rw [hk k hk']
  rw [e1]
  have e2 : kf.filter (pickB f pre) = (kg.filter (pickB g pre)).filter (fun k => !eqT k key) := by
    refine rising_eq (hf1.1.filter _) ((hg1.1.filter _).filter _) (fun k => ?_)
    simp only [List.mem_filter, hf1.2, hg1.2, Bool.not_eq_true']
    by_cases e : k = key
    · subst e
      have : pickB f pre k = false := by unfold pickB; rw [h.1]; rfl
      rw [this]
      have he : eqT k k = true := eqT_iff.2 rfl
      simp [he]
    · have he : eqT k key = false := by
        cases hh : eqT k key with
        | false => rfl
        | true => exact absurd (eqT_iff.1 hh) e
      have hp : pickB f pre k = pickB g pre k := by unfold pickB; rw [h.2 k e]
      rw [hp, h.2 k e, he]
      simp
  rw [← e2]
  refine List.map_congr_left (fun k hk' => ?_)
  rw [e2] at hk'
  have hne : k ≠ key := fun e => by
    have := (List.mem_filter.1 hk').2
    subst e
    rw [eqT_iff.2 rfl] at this
    cases this
  rw [h.2 k hne]
theorem entries_l0 (l : List En) (hl : l.length ≤ 1000000000) : ∀ (d i : Nat), i + d = l.length → ∀ k, d < k → batonref12_Entries.l0 k l l (i : Int) = some true := by
  intro d
  induction d with
  | zero =>
    intro i hi k hk
    obtain ⟨k, rfl⟩ : ∃ k', k = k' + 1 := ⟨k - 1, by omega⟩
    unfold batonref12_Entries.l0
    rw [if_neg (by omega)]
  | succ d ih =>
    intro i hi k hk
    obtain ⟨k, rfl⟩ : ∃ k', k = k' + 1 := ⟨k - 1, by omega⟩
    unfold batonref12_Entries.l0
    rw [if_pos (by omega), if_pos (by omega), if_pos (by omega), if_neg (by simp), w64 (by omega)]
    exact ih (i + 1) (by omega) k (by omega)
theorem entries_refl (l : List En) (hl : l.length ≤ 1000000000) : batonref12_Entries.f (l.length + 1) l l = some true := by
  unfold batonref12_Entries.f
  rw [if_pos rfl]
  exact entries_l0 l hl l.length 0 (by omega) _ (by omega)
end Go.Proofs.Ytagkobpbhfkmdaa.C
