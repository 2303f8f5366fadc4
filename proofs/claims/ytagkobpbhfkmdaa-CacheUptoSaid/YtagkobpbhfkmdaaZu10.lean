/- Zu: texts of this claim, laid together. -/
import Derived.Shelf.SlIter.Nil
import Derived.Shelf.SortM.Plain
import Derived.Shelf.SortM.SortNone
import Derived.Shelf.SlLaysZ
import Derived.Shelf.SlLaysM
import Derived.Test.YtagkobpbhfkmdaaProg
import Derived.RangeFuncNested
import Derived.RangeFuncBound
import Derived.RangeFuncCalls
import Derived.RangeFuncLeaves
import Derived.RangeFuncBox
import Derived.WalkKit
import Derived.OwnWalkIn
import Derived.TacticsInMore
import Derived.LoopNIn
import Derived.LoopIn
import Derived.Maps.AppendAt
import Derived.Shelf.Abstract
import Derived.Test.YtagkobpbhfkmdaaZu9
/-! from SK -/
namespace Go.Proofs.Ytagkobpbhfkmdaa.C
open Go.Shelf Go.RowKit
def keysL_ren : Go.Shelf.Ren := ⟨fun | 7 => 73 | 10 => 93 | n => n, fun | 23 => 77 | 26 => 9 | 3 => 87 | 28 => 137 | 0 => 0 | 27 => 136 | 33 => 42 | 4 => 4 | n => n, fun | n => n⟩
theorem keysL : Go.Proofs.SlLaysZ.n7 Try.prog keysL_ren := {
  mixed := by kernel_rfl
  f7 := ⟨Try.f73.name, by decide, Try.func73.trans (congrArg some (by kernel_rfl))⟩
  f10 := ⟨Try.f93.name, by decide, Try.func93.trans (congrArg some (by kernel_rfl))⟩
  t0 := Try.underlying0
  a0 := Try.isAgg0
  z0 := Try.sizeOf0
  v0 := Try.zeroValue0
  t4 := Try.underlying4
  a4 := Try.isAgg4
  z4 := Try.sizeOf4
  v4 := Try.zeroValue4
  t23 := Try.underlying77
  a23 := Try.isAgg77
  z23 := Try.sizeOf77
  v23 := Try.zeroValue77
  t26 := Try.underlying9
  a26 := Try.isAgg9
  z26 := Try.sizeOf9
  v26 := Try.zeroValue9
  t27 := Try.underlying136
  a27 := Try.isAgg136
  z27 := Try.sizeOf136
  v27 := Try.zeroValue136
  t28 := Try.underlying137
  a28 := Try.isAgg137
  z28 := Try.sizeOf137
  v28 := Try.zeroValue137
  t33 := Try.underlying42
  a33 := Try.isAgg42
  z33 := Try.sizeOf42
  v33 := Try.zeroValue42 }
def sortedL_ren : Go.Shelf.Ren := ⟨fun | 6 => 72 | 8 => 91 | 9 => 92 | 11 => 103 | 13 => 105 | 12 => 104 | 23 => 118 | 24 => 119 | 14 => 109 | 15 => 110 | 16 => 111 | 17 => 112 | 18 => 113 | 19 => 114 | 20 => 115 | 21 => 116 | 22 => 117 | 25 => 120 | 26 => 121 | 27 => 122 | 28 => 123 | 29 => 124 | 30 => 125 | 31 => 126 | n => n, fun | 26 => 9 | 28 => 137 | 24 => 29 | 0 => 0 | 3 => 3 | 37 => 165 | 48 => 178 | 50 => 123 | 4 => 4 | 40 => 171 | 39 => 170 | 45 => 175 | 5 => 5 | 9 => 9 | 51 => 180 | 55 => 184 | 57 => 186 | 58 => 187 | 33 => 42 | n => n, fun | n => n⟩
theorem sortedL : Go.Proofs.SlLaysZ.n6 Try.prog sortedL_ren := {
  mixed := by kernel_rfl
  f6 := ⟨Try.f72.name, by decide, Try.func72.trans (congrArg some (by kernel_rfl))⟩
  f8 := ⟨Try.f91.name, by decide, Try.func91.trans (congrArg some (by kernel_rfl))⟩
  f11 := ⟨Try.f103.name, by decide, Try.func103.trans (congrArg some (by kernel_rfl))⟩
  t0 := Try.underlying0
  a0 := Try.isAgg0
  z0 := Try.sizeOf0
  v0 := Try.zeroValue0
  t24 := Try.underlying29
  a24 := Try.isAgg29
  z24 := Try.sizeOf29
  v24 := Try.zeroValue29
  t26 := Try.underlying9
  a26 := Try.isAgg9
  z26 := Try.sizeOf9
  v26 := Try.zeroValue9
  t28 := Try.underlying137
  a28 := Try.isAgg137
  z28 := Try.sizeOf137
  v28 := Try.zeroValue137
  i26 := by kernel_rfl }
def sortL_ren : Go.Shelf.Ren := ⟨fun | 6 => 92 | 8 => 105 | 9 => 104 | 19 => 118 | 20 => 119 | 21 => 109 | 22 => 110 | 23 => 111 | 24 => 112 | 25 => 113 | 26 => 114 | 27 => 115 | 28 => 116 | 29 => 117 | 36 => 120 | 31 => 121 | 32 => 122 | 37 => 123 | 38 => 124 | 39 => 125 | 41 => 126 | n => n, fun | 27 => 29 | 29 => 9 | 3 => 3 | 32 => 165 | 26 => 29 | 0 => 0 | 44 => 178 | 46 => 123 | 4 => 4 | 36 => 171 | 35 => 170 | 41 => 175 | 5 => 5 | 9 => 9 | 53 => 180 | 57 => 184 | 63 => 186 | 64 => 187 | n => n, fun | n => n⟩
theorem sortL : Go.Proofs.SlLaysM.n6 Try.prog sortL_ren := {
  mixed := by kernel_rfl
  f6 := ⟨Try.f92.name, by decide, Try.func92.trans (congrArg some (by kernel_rfl))⟩
  f8 := Try.func105.trans (congrArg some (by kernel_rfl))
  f9 := ⟨Try.f104.name, by decide, Try.func104.trans (congrArg some (by kernel_rfl))⟩
  f19 := Try.func118.trans (congrArg some (by kernel_rfl))
  f20 := Try.func119.trans (congrArg some (by kernel_rfl))
  f21 := ⟨Try.f109.name, by decide, Try.func109.trans (congrArg some (by kernel_rfl))⟩
  f22 := ⟨Try.f110.name, by decide, Try.func110.trans (congrArg some (by kernel_rfl))⟩
  f23 := ⟨Try.f111.name, by decide, Try.func111.trans (congrArg some (by kernel_rfl))⟩
  f24 := ⟨Try.f112.name, by decide, Try.func112.trans (congrArg some (by kernel_rfl))⟩
  f25 := ⟨Try.f113.name, by decide, Try.func113.trans (congrArg some (by kernel_rfl))⟩
  f26 := ⟨Try.f114.name, by decide, Try.func114.trans (congrArg some (by kernel_rfl))⟩
  f27 := ⟨Try.f115.name, by decide, Try.func115.trans (congrArg some (by kernel_rfl))⟩
  f28 := ⟨Try.f116.name, by decide, Try.func116.trans (congrArg some (by kernel_rfl))⟩
  f29 := ⟨Try.f117.name, by decide, Try.func117.trans (congrArg some (by kernel_rfl))⟩
  f31 := Try.func121.trans (congrArg some (by kernel_rfl))
  f32 := Try.func122.trans (congrArg some (by kernel_rfl))
  f36 := ⟨Try.f120.name, by decide, Try.func120.trans (congrArg some (by kernel_rfl))⟩
  f37 := ⟨Try.f123.name, by decide, Try.func123.trans (congrArg some (by kernel_rfl))⟩
  f38 := ⟨Try.f124.name, by decide, Try.func124.trans (congrArg some (by kernel_rfl))⟩
  f39 := ⟨Try.f125.name, by decide, Try.func125.trans (congrArg some (by kernel_rfl))⟩
  f41 := ⟨Try.f126.name, by decide, Try.func126.trans (congrArg some (by kernel_rfl))⟩
  t0 := Try.underlying0
  a0 := Try.isAgg0
  z0 := Try.sizeOf0
  v0 := Try.zeroValue0
  t3 := Try.underlying3
  a3 := Try.isAgg3
  z3 := Try.sizeOf3
  v3 := Try.zeroValue3
  t4 := Try.underlying4
  a4 := Try.isAgg4
  z4 := Try.sizeOf4
  v4 := Try.zeroValue4
  t5 := Try.underlying5
  a5 := Try.isAgg5
  z5 := Try.sizeOf5
  v5 := Try.zeroValue5
  t9 := Try.underlying9
  a9 := Try.isAgg9
  z9 := Try.sizeOf9
  v9 := Try.zeroValue9
  t26 := Try.underlying29
  a26 := Try.isAgg29
  z26 := Try.sizeOf29
  v26 := Try.zeroValue29
  t27 := Try.underlying29
  a27 := Try.isAgg29
  z27 := Try.sizeOf29
  v27 := Try.zeroValue29
  t29 := Try.underlying9
  a29 := Try.isAgg9
  z29 := Try.sizeOf9
  v29 := Try.zeroValue9
  t32 := Try.underlying165
  a32 := Try.isAgg165
  z32 := Try.sizeOf165
  v32 := Try.zeroValue165
  t35 := Try.underlying170
  a35 := Try.isAgg170
  z35 := Try.sizeOf170
  v35 := Try.zeroValue170
  t36 := Try.underlying171
  a36 := Try.isAgg171
  z36 := Try.sizeOf171
  v36 := Try.zeroValue171
  t41 := Try.underlying175
  a41 := Try.isAgg175
  z41 := Try.sizeOf175
  v41 := Try.zeroValue175
  t44 := Try.underlying178
  a44 := Try.isAgg178
  z44 := Try.sizeOf178
  v44 := Try.zeroValue178
  t46 := Try.underlying123
  a46 := Try.isAgg123
  z46 := Try.sizeOf123
  v46 := Try.zeroValue123
  t53 := Try.underlying180
  a53 := Try.isAgg180
  z53 := Try.sizeOf180
  v53 := Try.zeroValue180
  t57 := Try.underlying184
  a57 := Try.isAgg184
  z57 := Try.sizeOf184
  v57 := Try.zeroValue184
  t63 := Try.underlying186
  a63 := Try.isAgg186
  z63 := Try.sizeOf186
  v63 := Try.zeroValue186
  t64 := Try.underlying187
  a64 := Try.isAgg187
  z64 := Try.sizeOf187
  v64 := Try.zeroValue187 }
end Go.Proofs.Ytagkobpbhfkmdaa.C
namespace Go.Proofs.Ytagkobpbhfkmdaa.C
open Go.Shelf Go.RowKit Go.ChangeMaps Go.Maps Go.Sort Go.Proofs.Ytagkobpbhfkmdaa.Q Go.Proofs.YtagkobpbhfkmdaaW.PrintLast Go.Proofs.YtagkobpbhfkmdaaW.PrintWords
set_option linter.unusedVariables false
set_option linter.unusedSimpArgs false
attribute [local go_sem] Oper.semAt_some
/-- The map as the kit's word. -/
def RZ : Value → Option (DataW Unit × List MemPlace) := fun _ => some (.nil, [])
noncomputable def rgZ (e : MapEntry) : Lit × DataW Unit := Go.WideElems.rg Try.prog 9 RZ e
noncomputable def datZ (es : Array MapEntry) : DataW Unit := .map ((es.toList.map rgZ).foldr DataW.insert [])
theorem rd_of {es : Array MapEntry} {c : Nat} {f : Fcts} (hg : GMap Value.string factV es c f) (hsz : ∀ k v, f k = some v → k.size ≤ 9000000000000000000) {x : MapEntry} (hx : x ∈ es.toList) : ∃ k v, x.key = .string k ∧ f k = some v ∧ Go.WideElems.rd Try.prog 9 RZ x = some (.string k.data.toList, .nil) := by
  obtain ⟨k, v, h1, h2, h3⟩ := hg.ent x hx
  refine ⟨k, v, h1, h3, ?_⟩
  have hk := hsz k v h3
  have hk2 : k.size ≤ maxLen := by unfold maxLen; omega
  have hu := Try.underlying9
  simp [Go.WideElems.rd, keyOf, mapKey, hu, h1, RZ, hk2]
theorem owns_of {w : World} {M c : Nat} {es : Array MapEntry} {f : Fcts} (hm : w.heap[M]? = some (.map es c)) (hg : GMap Value.string factV es c f) (hes : es.size ≤ 1000000) (hsz : ∀ k v, f k = some v → k.size ≤ 9000000000000000000) :
    w.ownsMap Try.prog 9 RZ M es.size (datZ es) :=
  ⟨es, c, hm, ⟨by unfold maxLen; omega, ⟨hg.old, hg.born, hg.keys⟩, fun x hx => by
    obtain ⟨k, v, _, _, h⟩ := rd_of hg hsz hx
    exact ⟨_, h⟩⟩, Nat.le_refl _, rfl⟩
def ltB (a b : ByteArray) : Prop := a.data.toList < b.data.toList
/-- The keys that have facts, rising. -/
def SKeys (f : Fcts) (ks : List ByteArray) : Prop := ks.Pairwise ltB ∧ ∀ k, k ∈ ks ↔ (f k).isSome = true
def baOf (l : List UInt8) : ByteArray := ⟨l.toArray⟩
theorem baOf_data (k : ByteArray) : baOf k.data.toList = k := by unfold baOf; simp
theorem data_baOf (l : List UInt8) : (baOf l).data.toList = l := by unfold baOf; simp
theorem perm_of (r : MapEntry → Lit × DataW Unit) (l : List MapEntry) : (((l.map r).foldr DataW.insert []).map fun p => strOf p.1).Perm (l.map fun e => strOf (r e).1) := by
  have := (Go.WideShapes.sorted_perm (l.map r)).map (fun p => strOf p.1)
  rw [List.map_map] at this
  exact this
theorem keys_perm {es : Array MapEntry} {c : Nat} {f : Fcts} (hg : GMap Value.string factV es c f) (hsz : ∀ k v, f k = some v → k.size ≤ 9000000000000000000) {ss : List (List UInt8)} (h : ss.Perm (strKeys (datZ es))) :
    ss.Nodup ∧ (∀ k : ByteArray, k.data.toList ∈ ss ↔ (f k).isSome = true) ∧ ss.length = es.size := by
  have he : strKeys (datZ es) = (((es.toList.map rgZ).foldr DataW.insert []).map fun p => strOf p.1) := rfl
  rw [he] at h
  have hp : ss.Perm (es.toList.map fun e => strOf (rgZ e).1) := h.trans (perm_of rgZ es.toList)
  clear he h
  have hkey : ∀ x ∈ es.toList, ∃ k v, x.key = .string k ∧ f k = some v ∧ strOf (rgZ x).1 = k.data.toList := fun x hx => by
    obtain ⟨k, v, h1, h2, h3⟩ := rd_of hg hsz hx
    refine ⟨k, v, h1, h2, ?_⟩
    unfold rgZ
    rw [Go.WideElems.rg_of h3]
    rfl
  refine ⟨hp.nodup_iff.2 ?_, fun k => ?_, by rw [hp.length_eq]; simp⟩
  · have hn := hg.keys
    refine List.pairwise_map.2 ((List.pairwise_map.1 hn).imp_of_mem fun {x y} hx hy hne e => hne ?_)
    obtain ⟨k, v, h1, _, h3⟩ := hkey x hx
    obtain ⟨k', v', h1', _, h3'⟩ := hkey y hy
    rw [h3, h3'] at e
    have : k = k' := by rw [← baOf_data k, e, baOf_data]
    rw [h1, h1', this]
  · rw [hp.mem_iff, List.mem_map]
    constructor
    · rintro ⟨x, hx, e⟩
      obtain ⟨k', v', h1', h2', h3'⟩ := hkey x hx
      rw [h3'] at e
      have : k' = k := by rw [← baOf_data k, ← e, baOf_data]
      rw [← this, h2']
      rfl
    · intro hs
      obtain ⟨v, hv⟩ := Option.isSome_iff_exists.1 hs
      obtain ⟨x, hx, e⟩ := hg.has k v hv
      obtain ⟨k', v', h1', h2', h3'⟩ := hkey x hx
      rw [e] at h1'
      cases h1'
      exact ⟨x, hx, h3'⟩
theorem skeys_of {f : Fcts} {ss : List (List UInt8)} (hn : ss.Nodup) (hm : ∀ k : ByteArray, k.data.toList ∈ ss ↔ (f k).isSome = true) : SKeys f ((ss.mergeSort (fun x y => decide (x ≤ y))).map baOf) := by
  have tr : ∀ a b c : List UInt8, decide (a ≤ b) = true → decide (b ≤ c) = true → decide (a ≤ c) = true := fun a b c h1 h2 => by simp only [decide_eq_true_eq] at *; exact List.le_trans h1 h2
  have tot : ∀ a b : List UInt8, (decide (a ≤ b) || decide (b ≤ a)) = true := fun a b => by simp only [Bool.or_eq_true, decide_eq_true_eq]; exact List.le_total a b
  have hs := List.pairwise_mergeSort (le := fun x y => decide (x ≤ y)) tr tot ss
  have hp := List.mergeSort_perm ss (fun x y => decide (x ≤ y))
  refine ⟨List.pairwise_map.2 ((hs.and (hp.nodup_iff.2 hn)).imp fun {a b} hab => ?_), fun k => ?_⟩
  · obtain ⟨h1, h2⟩ := hab
    simp only [decide_eq_true_eq] at h1
    unfold ltB
    rw [data_baOf, data_baOf]
    exact List.not_le.1 fun h => h2 (List.le_antisymm h1 h)
  · rw [List.mem_map]
    constructor
    · rintro ⟨l, hl, rfl⟩
      rw [← hm, data_baOf]
      exact hp.mem_iff.1 hl
    · intro h
      exact ⟨_, hp.mem_iff.2 ((hm k).2 h), baOf_data k⟩
/-- The keys as a slice. -/
def KRow (w : World) (v : Value) (ks : List ByteArray) : Prop :=
  (v = .slice none 0 0 ∧ ks = []) ∨ ∃ g c cur, v = .slice (some ⟨g, 0, none⟩) ks.length c ∧ w.heap[g]? = some (.cells cur 9 (0, 0)) ∧ ks.length ≤ c ∧ c ≤ maxLen ∧ ∀ k (h : k < ks.length), cur[k]? = some (.string ks[k])
def FBnd (f : Fcts) (n : Nat) : Prop := ∃ L : List ByteArray, L.length ≤ n ∧ (∀ k v, f k = some v → k ∈ L) ∧ ∀ k ∈ L, k.size ≤ 9000000000000000000
theorem FBnd.size {f : Fcts} {n : Nat} (h : FBnd f n) : ∀ k v, f k = some v → k.size ≤ 9000000000000000000 := fun k v hk => by
  obtain ⟨L, _, h1, h2⟩ := h
  exact h2 k (h1 k v hk)
theorem nodup_le {α : Type} [DecidableEq α] : ∀ {l L : List α}, l.Nodup → (∀ x ∈ l, x ∈ L) → l.length ≤ L.length
  | [], L, _, _ => Nat.zero_le _
  | x :: l, L, hn, hs => by
    have hx := hs x (by simp)
    have h2 := List.nodup_cons.1 hn
    have := nodup_le (L := L.erase x) h2.2 (fun y hy => (List.mem_erase_of_ne (fun e => h2.1 (by rw [← e]; exact hy))).2 (hs y (by simp [hy])))
    rw [List.length_erase_of_mem hx] at this
    have : 0 < L.length := List.length_pos_of_mem hx
    simp
    omega
theorem FBnd.skeys {f : Fcts} {n : Nat} (h : FBnd f n) {ks : List ByteArray} (hk : SKeys f ks) : ks.length ≤ n := by
  obtain ⟨L, h0, h1, h2⟩ := h
  refine Nat.le_trans (nodup_le (L := L) (hk.1.imp fun {a b} hab e => ?_) fun x hx => ?_) h0
  · rw [e] at hab
    exact List.lt_irrefl _ hab
  · obtain ⟨v, hv⟩ := Option.isSome_iff_exists.1 ((hk.2 x).1 hx)
    exact h1 x v hv
theorem FBnd.es {f : Fcts} {n : Nat} (h : FBnd f n) {es : Array MapEntry} {c : Nat} (hg : GMap Value.string factV es c f) : es.size ≤ n := by
  obtain ⟨hn, hm, hl⟩ := keys_perm hg h.size (List.Perm.refl _)
  have h1 := h.skeys (skeys_of hn hm)
  rw [List.length_map, List.length_mergeSort, hl] at h1
  exact h1
theorem keysM_in (n : Nat) (mb : Option Nat) (w : World) : CallsIn Fence.wide n Try.prog 73 #[.map mb] w fun e w' => e = .returned (.func (.func 93) #[] #[.pointer (some ⟨w.heap.size, 0, none⟩)]) ∧ w' = w.alloc (.cells #[.map mb] 77) :=
  Go.Proofs.AnyZ.keys_in keysL Fence.wide n trivial rfl mb w
theorem sortsL (m : Nat) : Go.Proofs.AnyZ.SortsIn Try.prog sortedL_ren Fence.wide m :=
  ⟨fun blk off cap ss W hH hblk hsz => callsIn_wide.2 (Go.Proofs.AnyM.slices_Sort_string sortL blk off cap ss W hH hblk hsz),
   fun p cap W => callsIn_wide.2 (Go.Proofs.AnyM.slices_Sort_string_none sortL p cap W)⟩
set_option maxHeartbeats 1000000 in
theorem sortedK_in (n : Nat) (hn : 5 ≤ n) (M N : Nat) (f : Fcts) (w : World) (hm : ∃ es c, w.heap[M]? = some (.map es c) ∧ GMap Value.string factV es c f) (hf : FBnd f N) (hN : N ≤ 1000000) :
    CallsIn Fence.wide n Try.prog 72 #[.func (.func 93) #[] #[.pointer (some ⟨w.heap.size, 0, none⟩)]] (w.alloc (.cells #[.map (some M)] 77)) fun e w' =>
      ∃ v ks, e = .returned v ∧ SKeys f ks ∧ KRow w' v ks ∧ ks.length ≤ N ∧ Below (w.alloc (.cells #[.map (some M)] 77)).heap.size (w.alloc (.cells #[.map (some M)] 77)) w' := by
  obtain ⟨es, c, hb, hg⟩ := hm
  have hes := hf.es hg
  have hown := owns_of hb hg (by omega) hf.size
  have hbl := hown.lt
  have hsize : Maps.size (datZ es) = es.size := by
    unfold datZ
    rw [Maps.size_eq, length_sorted]
    simp
  have hseq : SeqGives Fence.wide (n - 1 - 1 - 1) Try.prog 93 #[.pointer (some ⟨w.heap.size, 0, none⟩)] encStr (fun ss => ss.Perm (strKeys (datZ es))) (Maps.size (datZ es)) (w.alloc (.cells #[.map (some M)] 77)) :=
    Go.Proofs.AnyZ.keys_gives (ρ := keysL_ren) { keysL with } Fence.wide _ trivial rfl (by omega) w.heap.size M es.size (datZ es) _ (by simp) (by simp) (by
      obtain ⟨es', c', hb', Ft, hs, hD⟩ := hown
      exact ⟨es', c', (Below.heap_alloc _ _ M hbl).trans hb', Ft, hs, hD⟩)
  refine (Go.Proofs.AnyZ.sorted_in sortedL Fence.wide n trivial trivial trivial trivial rfl (by omega) (sortsL _) (enters_of Try.func92 (by kernel_rfl) rfl) 93 #[.pointer (some ⟨w.heap.size, 0, none⟩)] trivial (enters_of Try.func93 (by kernel_rfl) rfl) _ _ (by rw [hsize]; unfold maxLen; omega) (by rw [hsize]; omega) _ hseq).mono ?_
  rintro e w' ⟨v, ss, rfl, hS, hrow, hnil, hbel⟩
  obtain ⟨h1, h2, h3⟩ := keys_perm hg hf.size hS
  refine ⟨v, _, rfl, skeys_of h1 h2, ?_, by rw [List.length_map, List.length_mergeSort, h3]; omega, hbel⟩
  rcases hrow.2 with ⟨rfl, hz⟩ | ⟨gb, cap, cur, rfl, hbase, hgb, r1, r2, r3, r4⟩
  · left
    have : ss = [] := List.eq_nil_of_length_eq_zero hz
    subst this
    exact ⟨rfl, by simp⟩
  · right
    refine ⟨gb, cap, cur, by simp, hgb, by simpa using r1, r2, fun k h => ?_⟩
    have hk : k < ss.length := by simpa using h
    have h5 : cur.toList[k]? = ((ss.mergeSort (fun x y => decide (x ≤ y))).map encStr)[k]? := by
      rw [← r4, List.getElem?_take, if_pos (by omega)]
    rw [← Array.getElem?_toList, h5, List.getElem?_map, List.getElem?_eq_getElem (by simpa using hk), Option.map_some, List.getElem_map]
    rfl
end Go.Proofs.Ytagkobpbhfkmdaa.C
