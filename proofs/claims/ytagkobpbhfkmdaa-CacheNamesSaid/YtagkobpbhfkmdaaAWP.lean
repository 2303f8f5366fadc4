/- The cache's example, plain. -/
import Derived.Test.YtagkobpbhfkmdaaCT
namespace Go.Proofs.Ytagkobpbhfkmdaa.C
open Go.RowKit Go.ChangeMaps Go.Proofs.Ytagkobpbhfkmdaa.Q Go.Proofs.YtagkobpbhfkmdaaW.PrintLast Go.Proofs.YtagkobpbhfkmdaaW.PrintWords
set_option linter.unusedVariables false
def kA : ByteArray := ⟨#[97]⟩
def kB : ByteArray := ⟨#[98]⟩
def awL1 : List En := [⟨⟨#[97]⟩, ⟨#[120]⟩, 1, 3⟩]
def awE2 : List Ev := [⟨6, true, ⟨#[97]⟩, ⟨#[]⟩⟩, ⟨7, false, ⟨#[98]⟩, ⟨#[121]⟩⟩]
def awN3 : List ByteArray := [⟨#[98]⟩]
def awL3 : List En := [⟨⟨#[98]⟩, ⟨#[122]⟩, 7, 9⟩]
def awE4 : List Ev := [⟨8, true, ⟨#[98]⟩, ⟨#[]⟩⟩]
def aw1 : (Fcts × Int) × Int := listM (fun _ => none) (-1) 5 awL1
def aw2 : (Fcts × Int) × Int := watchM aw1.1.1 aw1.1.2 6 7 awE2
def aw3 : Fcts × Int := learnM aw2.1.1 aw2.1.2 9 awN3 awL3
def aw4 : (Fcts × Int) × Int := watchM aw3.1 aw2.1.2 8 8 awE4
theorem aw_f1 : aw1.2 = 0 ∧ aw1.1.2 = 5 := by decide +kernel
theorem aw_f2 : aw2.2 = 0 ∧ aw2.1.2 = 7 ∧ getM aw2.1.1 kA = (entZ, false) ∧ getM aw2.1.1 kB = (⟨⟨#[98]⟩, ⟨#[121]⟩, 7, 7⟩, true) ∧ asofM aw2.1.1 aw2.1.2 kA = 7 ∧ asofM aw2.1.1 aw2.1.2 kB = 7 := by decide +kernel
theorem aw_f3 : aw3.2 = 0 ∧ asofM aw3.1 aw2.1.2 kB = 9 ∧ asofM aw3.1 aw2.1.2 kA = 7 := by decide +kernel
theorem aw_f4 : aw4.2 = 0 ∧ aw4.1.2 = 8 ∧ getM aw4.1.1 kB = (⟨⟨#[98]⟩, ⟨#[122]⟩, 7, 9⟩, true) := by decide +kernel
theorem aw_f5 : (watchM aw4.1.1 aw4.1.2 11 12 []).2 = 46 := by decide +kernel
theorem add0 (g i : Nat) : (⟨g, 0, none⟩ : Addr).add i = ⟨g, i, none⟩ := by simp [Addr.add]; try (intro h; omega)
theorem row_one {α : Type} {d : Kd α} {w : World} {g : Nat} {e : TypeId} {x : α} {cs : List Value} (h : w.heap[g]? = some (.cells cs.toArray e (0, 0))) (hK : d.K w x cs) (hl : cs.length = d.sz) : d.C w (some ⟨g, 0, none⟩) 1 [x] :=
  ⟨rfl, by omega, fun _ => ⟨⟨g, 0, none⟩, rfl, fun j p hj => by
    rcases j with _ | j
    · simp only [List.getElem?_cons_zero, Option.some.injEq] at hj
      subst hj
      refine ⟨cs, hl, hK, fun i u hu => ?_⟩
      rw [Nat.zero_mul, Nat.zero_add, add0, cell_at h]
      simpa using hu
    · simp at hj⟩⟩
theorem row_two {α : Type} {d : Kd α} {w : World} {g : Nat} {e : TypeId} {x y : α} {cs ds : List Value} (h : w.heap[g]? = some (.cells (cs ++ ds).toArray e (0, 0))) (hK : d.K w x cs) (hL : d.K w y ds) (hl : cs.length = d.sz) (hm : ds.length = d.sz) : d.C w (some ⟨g, 0, none⟩) 2 [x, y] :=
  ⟨rfl, by omega, fun _ => ⟨⟨g, 0, none⟩, rfl, fun j p hj => by
    rcases j with _ | _ | j
    · simp only [List.getElem?_cons_zero, Option.some.injEq] at hj
      subst hj
      refine ⟨cs, hl, hK, fun i u hu => ?_⟩
      rw [Nat.zero_mul, Nat.zero_add, add0, cell_at h]
      have hlt := (List.getElem?_eq_some_iff.1 hu).1
      simpa [List.getElem?_append_left hlt] using hu
    · simp only [Nat.zero_add, List.getElem?_cons_succ, List.getElem?_cons_zero, Option.some.injEq] at hj
      subst hj
      refine ⟨ds, hm, hL, fun i u hu => ?_⟩
      rw [Nat.zero_add, Nat.one_mul, add0, cell_at h, ← hl]
      simpa [List.getElem?_append_right] using hu
    · simp at hj⟩⟩
end Go.Proofs.Ytagkobpbhfkmdaa.C
