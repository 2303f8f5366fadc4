/- slices.SortFunc over timers. -/
import Derived.Shelf.SlSortCmp.WholeK
import Derived.Sort.LotA
import Derived.Test.YtjefeoohfalcaaaSH
namespace Go.Proofs.Ytjefeoohfalcaaa.C
open Go.Shelf Go.RowKit Go.Proofs.Ytjefeoohfalcaaa.Q Go.Proofs.YtjefeoohfalcaaaW.PrintLast Go.Proofs.YtjefeoohfalcaaaW.PrintWords
set_option linter.unusedVariables false
set_option linter.unusedSimpArgs false
def encT (x : Int × Int) : List Value := [.int .i64 x.1, .int .i64 x.2]
theorem swo_ahead : Go.Sort.SWO (ltOf aheadI) where
  irrefl x := by unfold ltOf; rw [aheadI_lt]; unfold aheadB; simp
  trans x y z h1 h2 := by unfold ltOf at *; rw [aheadI_lt] at *; unfold aheadB at *; simp only [decide_eq_true_eq] at *; omega
  ntrans x y z h1 h2 := by unfold ltOf at *; rw [aheadI_lt] at *; unfold aheadB at *; simp only [decide_eq_false_iff_not] at *; omega
theorem cmp_lays (g size : Nat) (w : World) : CmpLays Try.prog 47 #[] encT 2 aheadI g 0 size w := fun _ _ _ _ x y => ahead_exact x y _
theorem flat_at (l : List (Int × Int)) (j : Nat) (hj : j < l.length * 2) : (tcells l)[j]? = some ((Go.Sort.flatK encT 2 l.toArray)[j]!) := by
  rw [Go.Sort.get_flatK _ _ _ _ (by simpa using hj)]
  have hd : j / 2 < l.length := by omega
  obtain ⟨x, hx⟩ : ∃ x, l[j / 2]? = some x := ⟨_, List.getElem?_eq_getElem hd⟩
  have h2 := tcells_at l (j / 2) x hx
  have hb : l.toArray[j / 2]! = x := by simp [hx]
  rw [hb]
  rcases Nat.mod_two_eq_zero_or_one j with h | h
  · have e : j = j / 2 * 2 := by omega
    rw [h]; conv => lhs; rw [e]
    exact h2.1
  · have e : j = j / 2 * 2 + 1 := by omega
    rw [h]; conv => lhs; rw [e]
    exact h2.2
theorem holds_of {w : World} {g : Nat} {cs : Array Value} {t : TypeId} {l : List (Int × Int)} (h : w.heap[g]? = some (.cells cs t (0, 0))) (ht : cs.toList.take (l.length * 2) = tcells l) : Go.Sort.HoldsK encT 2 w g 0 l.toArray := by
  intro j hj
  have hj2 : j < l.length * 2 := by simpa using hj
  rw [Nat.zero_add]
  refine ⟨?_, free_at h j⟩
  rw [cell_at h]
  have h3 := flat_at l j hj2
  rw [← ht, List.getElem?_take_of_lt hj2] at h3
  simpa using h3
theorem sorted_block {w : World} {g : Nat} {cs : Array Value} {t : TypeId} (h : w.heap[g]? = some (.cells cs t (0, 0))) (n : Nat) (d : Array (Int × Int)) (os : Array Obj) : (sortWorldK encT 2 w g 0 n d os).heap[g]? = some (.cells (Go.Sort.putCells id 0 (Go.Sort.flatK encT 2 d) cs) t (0, 0)) := by
  have hg := lt_of_block h
  unfold sortWorldK
  rw [Go.Sort.heap_grow_old _ _ (by rw [Go.Sort.size_putRowK]; exact hg)]
  show (w.heap.modify g _)[g]? = _
  rw [Array.getElem?_modify, if_pos rfl, h]
  rfl
theorem put_take {cs : Array Value} {l : List (Int × Int)} (hs : l.length * 2 ≤ cs.size) : (Go.Sort.putCells id 0 (Go.Sort.flatK encT 2 l.toArray) cs).toList.take (l.length * 2) = tcells l := by
  apply List.ext_getElem?
  intro j
  by_cases hj : j < l.length * 2
  · rw [List.getElem?_take_of_lt hj, flat_at l j hj]
    unfold Go.Sort.putCells
    have hc : j < cs.size := by omega
    simp [hj, hc]
  · rw [List.getElem?_eq_none (by simp; omega), List.getElem?_eq_none (by rw [tcells_len]; omega)]
theorem sorted_below {w : World} {g base : Nat} (hb : base ≤ g) (hw : base ≤ w.heap.size) (n : Nat) (d : Array (Int × Int)) (os : Array Obj) : Below base w (sortWorldK encT 2 w g 0 n d os) := by
  refine ⟨rfl, rfl, rfl, ?_, fun k hk => ?_⟩
  · unfold sortWorldK
    rw [Go.Sort.size_grow, Go.Sort.size_putRowK]
    exact Nat.le_add_right _ _
  · unfold sortWorldK
    rw [Go.Sort.heap_grow_old _ _ (by rw [Go.Sort.size_putRowK]; exact Nat.lt_of_lt_of_le hk hw)]
    show (w.heap.modify g _)[k]? = _
    rw [Array.getElem?_modify, if_neg (by omega)]
theorem srt_of_sorted {l l' : List (Int × Int)} (hi : (l.map (·.1)).Nodup) (hp : Go.Sort.PermIn 0 l.toArray.size l.toArray l'.toArray) (hs : Go.Sort.SortedIn (ltOf aheadI) 0 l.toArray.size l'.toArray) : l'.Perm l ∧ Srt l' := by
  obtain ⟨h1, _, h3⟩ := hp
  have hlen : l'.length = l.length := by simpa using h1
  have hP : l'.Perm l := by
    have e1 : l'.toArray.extract 0 l.toArray.size = l'.toArray := by rw [← h1]; simp
    have e2 : l.toArray.extract 0 l.toArray.size = l.toArray := by simp
    rw [e1, e2] at h3
    exact h3
  refine ⟨hP, ?_⟩
  have hnd : (l'.map (·.1)).Nodup := (hP.map _).nodup_iff.mpr hi
  unfold Srt
  rw [List.pairwise_iff_getElem]
  intro i j hi' hj' hij
  have hne : l'[i].1 ≠ l'[j].1 := by
    have := (List.pairwise_iff_getElem.mp hnd) i j (by simpa using hi') (by simpa using hj') hij
    simpa using this
  have hlt := hs i j (Nat.zero_le _) hij (by simpa [hlen] using hj')
  unfold ltOf at hlt
  rw [aheadI_lt] at hlt
  have e1 : l'.toArray[j]! = l'[j] := by simp [hj']
  have e2 : l'.toArray[i]! = l'[i] := by simp [hi']
  rw [e1, e2] at hlt
  unfold aheadB at hlt ⊢
  simp only [decide_eq_false_iff_not, decide_eq_true_eq] at hlt ⊢
  omega
theorem sort_calls (base g c : Nat) (l : List (Int × Int)) (w : World) (hi : (l.map (·.1)).Nodup) (hlen : l.length ≤ 100000000) (hb : base ≤ g) (hR : Row w g c l) (hw : base ≤ w.heap.size) :
    Calls Try.prog 54 #[.slice (some ⟨g, 0, none⟩) l.length c, .func (.func 47) #[] #[]] w fun e w' => e = .returned (.tuple #[]) ∧ ∃ l', l'.Perm l ∧ Srt l' ∧ Row w' g c l' ∧ Below base w w' := by
  obtain ⟨⟨cs, h1, h2, h3⟩, h4, h5⟩ := hR
  have eg : ∀ args w, (callFunc 47 args).run Try.prog w = .ok (.enter 47 args) w := enters_of Try.func47 (by kernel_rfl) rfl
  have hcon := AnyQ.slices_SortFunc sortT 2 Try.isAgg57 Try.sizeOf57 encT (fun _ => rfl) (fun x v hv => by simp [encT] at hv; rcases hv with rfl | rfl <;> rfl) aheadI swo_ahead 47 #[] g 0 c l.toArray w eg (cmp_lays g _ w) (holds_of h1 h3) (lt_of_block h1) (by simp; omega)
  rw [List.size_toArray] at hcon
  refine hcon.mono ?_
  rintro e w' ⟨rfl, d', n, os, hp, hs, rfl⟩
  obtain ⟨l', rfl⟩ : ∃ l' : List (Int × Int), d' = l'.toArray := ⟨d'.toList, by simp⟩
  obtain ⟨q1, q2⟩ := srt_of_sorted hi (by simpa using hp) (by simpa using hs)
  have hl := q1.length_eq
  refine ⟨rfl, l', q1, q2, ⟨⟨_, sorted_block h1 n _ os, by unfold Go.Sort.putCells; simpa using h2, put_take (by omega)⟩, by omega, h5⟩, sorted_below hb hw n _ os⟩
end Go.Proofs.Ytjefeoohfalcaaa.C
