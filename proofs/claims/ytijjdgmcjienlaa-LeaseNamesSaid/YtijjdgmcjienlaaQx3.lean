-- Written by this session's own program (wip/myprint.py), in the form of the kit's print; checked by Lean alone.
import Derived.Test.YtijjdgmcjienlaaQx0
import Derived.Test.YtijjdgmcjienlaaQx1
import Derived.Test.YtijjdgmcjienlaaQx2
namespace Go.Proofs.Ytijjdgmcjienlaa.Q
open Go.RowKit Go.Proofs.YtijjdgmcjienlaaW.PrintWords Go.Proofs.YtijjdgmcjienlaaW.PrintLast Go.Proofs.YtijjdgmcjienlaaW.PrintMore
attribute [local go_sem] max2_int min2_int max_two min_two max_three min_three max_four min_four   -- for this text's walks alone
set_option linter.unusedVariables false
set_option linter.unusedSimpArgs false

/-! ### lease_Judge: function 13 -/
mutual
def lease_Judge.j0 : Nat → ByteArray → Int → Int → ByteArray → Int → Int → Bool → Int → Int → Int → Int → Int → Int → Int → Int → Int → Int → Int → Int → Int → Int → Int → Int → Int → Int → ByteArray → ByteArray → Option (Int)
  | 0, _, _, _, _, _, _, _, _, _, _, _, _, _, _, _, _, _, _, _, _, _, _, _, _, _, _, _ => none
  | k + 1, x2, x3, x4, x116000, x116001, x116002, x116003, x117000, x117001, x117002, x117003, x117004, x117005, x117006, x117007, x117008, x117009, x117010, x117011, x117012, x117013, x117014, x117015, x117016, x117017, x117018, x117019 => (keys_Name.f k x2).bind fun t121 => (if t121 = true then ((lease_may.f k x116000 x116001 x116002 x116003 x3 x117000 x117001 x117002 x117003 x117004 x117005 x117006 x117007 x117008 x117009 x117010 x117011 x117012 x117013 x117014 x117015 x117016 x117017 x117018 x117019).bind fun t122 => (if t122 = true then ((lease_bound_in.f x4 0 x117004).bind fun t123 => (lease_Judge.j1 k x2 x3 x4 (!t123) x116000 x116001 x116002 x116003 x117000 x117001 x117002 x117003 x117004 x117005 x117006 x117007 x117008 x117009 x117010 x117011 x117012 x117013 x117014 x117015 x117016 x117017 x117018 x117019)) else (lease_Judge.j1 k x2 x3 x4 true x116000 x116001 x116002 x116003 x117000 x117001 x117002 x117003 x117004 x117005 x117006 x117007 x117008 x117009 x117010 x117011 x117012 x117013 x117014 x117015 x117016 x117017 x117018 x117019))) else (lease_Judge.j1 k x2 x3 x4 true x116000 x116001 x116002 x116003 x117000 x117001 x117002 x117003 x117004 x117005 x117006 x117007 x117008 x117009 x117010 x117011 x117012 x117013 x117014 x117015 x117016 x117017 x117018 x117019))
def lease_Judge.j1 : Nat → ByteArray → Int → Int → Bool → ByteArray → Int → Int → Bool → Int → Int → Int → Int → Int → Int → Int → Int → Int → Int → Int → Int → Int → Int → Int → Int → Int → Int → ByteArray → ByteArray → Option (Int)
  | 0, _, _, _, _, _, _, _, _, _, _, _, _, _, _, _, _, _, _, _, _, _, _, _, _, _, _, _, _ => none
  | k + 1, x2, x3, x4, x36, x116000, x116001, x116002, x116003, x117000, x117001, x117002, x117003, x117004, x117005, x117006, x117007, x117008, x117009, x117010, x117011, x117012, x117013, x117014, x117015, x117016, x117017, x117018, x117019 => if x36 = true then (some 0) else (if x116003 = true then (lease_Judge.j2 k x2 x4 (wrap64 (x3 - x116002)) 0 true x116000 x116001 x116002 x116003 x117000 x117001 x117002 x117003 x117004 x117005 x117006 x117007 x117008 x117009 x117010 x117011 x117012 x117013 x117014 x117015 x117016 x117017 x117018 x117019) else (if x116000.toList = x2.toList then (lease_Judge.j2 k x2 x4 (wrap64 (x3 - x116002)) 0 false x116000 x116001 x116002 x116003 x117000 x117001 x117002 x117003 x117004 x117005 x117006 x117007 x117008 x117009 x117010 x117011 x117012 x117013 x117014 x117015 x117016 x117017 x117018 x117019) else (lease_Judge.j2 k x2 x4 (wrap64 (x3 - x116002)) 0 (decide ((wrap64 (x3 - x116002)) ≥ x117002)) x116000 x116001 x116002 x116003 x117000 x117001 x117002 x117003 x117004 x117005 x117006 x117007 x117008 x117009 x117010 x117011 x117012 x117013 x117014 x117015 x117016 x117017 x117018 x117019)))
def lease_Judge.j2 : Nat → ByteArray → Int → Int → Int → Bool → ByteArray → Int → Int → Bool → Int → Int → Int → Int → Int → Int → Int → Int → Int → Int → Int → Int → Int → Int → Int → Int → Int → Int → ByteArray → ByteArray → Option (Int)
  | 0, _, _, _, _, _, _, _, _, _, _, _, _, _, _, _, _, _, _, _, _, _, _, _, _, _, _, _, _, _ => none
  | k + 1, x2, x4, x13, x14, x41, x116000, x116001, x116002, x116003, x117000, x117001, x117002, x117003, x117004, x117005, x117006, x117007, x117008, x117009, x117010, x117011, x117012, x117013, x117014, x117015, x117016, x117017, x117018, x117019 => if x41 = true then (some 1) else (if x116000.toList = x2.toList then (if x13 ≥ x117001 then (some ((((((x14 + 1) % 256) + 1) % 256) + 2) % 256)) else (if x13 ≥ (wrap64 (x117003 + x4)) then (some ((((x14 + 1) % 256) + 2) % 256)) else (some ((x14 + 2) % 256)))) else (some 5))
end
def lease_Judge.f (k : Nat) (a0_0 : ByteArray) (a0_1 : Int) (a0_2 : Int) (a0_3 : Bool) (a1 : Bool) (a2 : ByteArray) (a3 : Int) (a4 : Int) (a5_0 : Int) (a5_1 : Int) (a5_2 : Int) (a5_3 : Int) (a5_4 : Int) (a5_5 : Int) (a5_6 : Int) (a5_7 : Int) (a5_8 : Int) (a5_9 : Int) (a5_10 : Int) (a5_11 : Int) (a5_12 : Int) (a5_13 : Int) (a5_14 : Int) (a5_15 : Int) (a5_16 : Int) (a5_17 : Int) (a5_18 : ByteArray) (a5_19 : ByteArray) : Option (Int) := if a1 = true then (lease_Judge.j0 k a2 a3 a4 a0_0 a0_1 a0_2 a0_3 a5_0 a5_1 a5_2 a5_3 a5_4 a5_5 a5_6 a5_7 a5_8 a5_9 a5_10 a5_11 a5_12 a5_13 a5_14 a5_15 a5_16 a5_17 a5_18 a5_19) else ((lease_none.f a2).bind fun bt117 => (lease_Judge.j0 k a2 a3 a4 bt117.1 bt117.2.1 bt117.2.2.1 bt117.2.2.2 a5_0 a5_1 a5_2 a5_3 a5_4 a5_5 a5_6 a5_7 a5_8 a5_9 a5_10 a5_11 a5_12 a5_13 a5_14 a5_15 a5_16 a5_17 a5_18 a5_19))
theorem lease_Judge.mono_l : ∀ k, (∀ y0 y1 y2 y3 y4 y5 y6 y7 y8 y9 y10 y11 y12 y13 y14 y15 y16 y17 y18 y19 y20 y21 y22 y23 y24 y25 y26, LeO (lease_Judge.j0 k y0 y1 y2 y3 y4 y5 y6 y7 y8 y9 y10 y11 y12 y13 y14 y15 y16 y17 y18 y19 y20 y21 y22 y23 y24 y25 y26) (lease_Judge.j0 (k + 1) y0 y1 y2 y3 y4 y5 y6 y7 y8 y9 y10 y11 y12 y13 y14 y15 y16 y17 y18 y19 y20 y21 y22 y23 y24 y25 y26)) ∧ (∀ y0 y1 y2 y3 y4 y5 y6 y7 y8 y9 y10 y11 y12 y13 y14 y15 y16 y17 y18 y19 y20 y21 y22 y23 y24 y25 y26 y27, LeO (lease_Judge.j1 k y0 y1 y2 y3 y4 y5 y6 y7 y8 y9 y10 y11 y12 y13 y14 y15 y16 y17 y18 y19 y20 y21 y22 y23 y24 y25 y26 y27) (lease_Judge.j1 (k + 1) y0 y1 y2 y3 y4 y5 y6 y7 y8 y9 y10 y11 y12 y13 y14 y15 y16 y17 y18 y19 y20 y21 y22 y23 y24 y25 y26 y27)) ∧ (∀ y0 y1 y2 y3 y4 y5 y6 y7 y8 y9 y10 y11 y12 y13 y14 y15 y16 y17 y18 y19 y20 y21 y22 y23 y24 y25 y26 y27 y28, LeO (lease_Judge.j2 k y0 y1 y2 y3 y4 y5 y6 y7 y8 y9 y10 y11 y12 y13 y14 y15 y16 y17 y18 y19 y20 y21 y22 y23 y24 y25 y26 y27 y28) (lease_Judge.j2 (k + 1) y0 y1 y2 y3 y4 y5 y6 y7 y8 y9 y10 y11 y12 y13 y14 y15 y16 y17 y18 y19 y20 y21 y22 y23 y24 y25 y26 y27 y28))
  | 0 => ⟨fun _ _ _ _ _ _ _ _ _ _ _ _ _ _ _ _ _ _ _ _ _ _ _ _ _ _ _ r h => by simp [lease_Judge.j0] at h, fun _ _ _ _ _ _ _ _ _ _ _ _ _ _ _ _ _ _ _ _ _ _ _ _ _ _ _ _ r h => by simp [lease_Judge.j1] at h, fun _ _ _ _ _ _ _ _ _ _ _ _ _ _ _ _ _ _ _ _ _ _ _ _ _ _ _ _ _ r h => by simp [lease_Judge.j2] at h⟩
  | k + 1 => by
    obtain ⟨ih0, ih1, ih2⟩ := lease_Judge.mono_l k
    refine ⟨?_, ?_, ?_⟩
    · intro y0 y1 y2 y3 y4 y5 y6 y7 y8 y9 y10 y11 y12 y13 y14 y15 y16 y17 y18 y19 y20 y21 y22 y23 y24 y25 y26
      unfold lease_Judge.j0
      repeat' first
      | (with_reducible exact ih0 _ _ _ _ _ _ _ _ _ _ _ _ _ _ _ _ _ _ _ _ _ _ _ _ _ _ _)
      | (with_reducible exact ih1 _ _ _ _ _ _ _ _ _ _ _ _ _ _ _ _ _ _ _ _ _ _ _ _ _ _ _ _)
      | (with_reducible exact ih2 _ _ _ _ _ _ _ _ _ _ _ _ _ _ _ _ _ _ _ _ _ _ _ _ _ _ _ _ _)
      | (with_reducible exact keys_Name.mono _ _)
      | (with_reducible exact lease_may.mono _ _ _ _ _ _ _ _ _ _ _ _ _ _ _ _ _ _ _ _ _ _ _ _ _ _)
      | (with_reducible exact LeO.refl _)
      | (with_reducible exact LeO.none _)
      | (with_reducible refine LeO.ite ?_ ?_)
      | (with_reducible refine LeO.bind ?_ (fun _ => ?_))
      | exact ih0 _ _ _ _ _ _ _ _ _ _ _ _ _ _ _ _ _ _ _ _ _ _ _ _ _ _ _
      | exact ih1 _ _ _ _ _ _ _ _ _ _ _ _ _ _ _ _ _ _ _ _ _ _ _ _ _ _ _ _
      | exact ih2 _ _ _ _ _ _ _ _ _ _ _ _ _ _ _ _ _ _ _ _ _ _ _ _ _ _ _ _ _
      | exact keys_Name.mono _ _
      | exact lease_may.mono _ _ _ _ _ _ _ _ _ _ _ _ _ _ _ _ _ _ _ _ _ _ _ _ _ _
      | exact LeO.none _
      | refine LeO.ite ?_ ?_
      | refine LeO.bind ?_ (fun _ => ?_)
    · intro y0 y1 y2 y3 y4 y5 y6 y7 y8 y9 y10 y11 y12 y13 y14 y15 y16 y17 y18 y19 y20 y21 y22 y23 y24 y25 y26 y27
      unfold lease_Judge.j1
      repeat' first
      | (with_reducible exact ih0 _ _ _ _ _ _ _ _ _ _ _ _ _ _ _ _ _ _ _ _ _ _ _ _ _ _ _)
      | (with_reducible exact ih1 _ _ _ _ _ _ _ _ _ _ _ _ _ _ _ _ _ _ _ _ _ _ _ _ _ _ _ _)
      | (with_reducible exact ih2 _ _ _ _ _ _ _ _ _ _ _ _ _ _ _ _ _ _ _ _ _ _ _ _ _ _ _ _ _)
      | (with_reducible exact keys_Name.mono _ _)
      | (with_reducible exact lease_may.mono _ _ _ _ _ _ _ _ _ _ _ _ _ _ _ _ _ _ _ _ _ _ _ _ _ _)
      | (with_reducible exact LeO.refl _)
      | (with_reducible exact LeO.none _)
      | (with_reducible refine LeO.ite ?_ ?_)
      | (with_reducible refine LeO.bind ?_ (fun _ => ?_))
      | exact ih0 _ _ _ _ _ _ _ _ _ _ _ _ _ _ _ _ _ _ _ _ _ _ _ _ _ _ _
      | exact ih1 _ _ _ _ _ _ _ _ _ _ _ _ _ _ _ _ _ _ _ _ _ _ _ _ _ _ _ _
      | exact ih2 _ _ _ _ _ _ _ _ _ _ _ _ _ _ _ _ _ _ _ _ _ _ _ _ _ _ _ _ _
      | exact keys_Name.mono _ _
      | exact lease_may.mono _ _ _ _ _ _ _ _ _ _ _ _ _ _ _ _ _ _ _ _ _ _ _ _ _ _
      | exact LeO.none _
      | refine LeO.ite ?_ ?_
      | refine LeO.bind ?_ (fun _ => ?_)
    · intro y0 y1 y2 y3 y4 y5 y6 y7 y8 y9 y10 y11 y12 y13 y14 y15 y16 y17 y18 y19 y20 y21 y22 y23 y24 y25 y26 y27 y28
      unfold lease_Judge.j2
      repeat' first
      | (with_reducible exact ih0 _ _ _ _ _ _ _ _ _ _ _ _ _ _ _ _ _ _ _ _ _ _ _ _ _ _ _)
      | (with_reducible exact ih1 _ _ _ _ _ _ _ _ _ _ _ _ _ _ _ _ _ _ _ _ _ _ _ _ _ _ _ _)
      | (with_reducible exact ih2 _ _ _ _ _ _ _ _ _ _ _ _ _ _ _ _ _ _ _ _ _ _ _ _ _ _ _ _ _)
      | (with_reducible exact keys_Name.mono _ _)
      | (with_reducible exact lease_may.mono _ _ _ _ _ _ _ _ _ _ _ _ _ _ _ _ _ _ _ _ _ _ _ _ _ _)
      | (with_reducible exact LeO.refl _)
      | (with_reducible exact LeO.none _)
      | (with_reducible refine LeO.ite ?_ ?_)
      | (with_reducible refine LeO.bind ?_ (fun _ => ?_))
      | exact ih0 _ _ _ _ _ _ _ _ _ _ _ _ _ _ _ _ _ _ _ _ _ _ _ _ _ _ _
      | exact ih1 _ _ _ _ _ _ _ _ _ _ _ _ _ _ _ _ _ _ _ _ _ _ _ _ _ _ _ _
      | exact ih2 _ _ _ _ _ _ _ _ _ _ _ _ _ _ _ _ _ _ _ _ _ _ _ _ _ _ _ _ _
      | exact keys_Name.mono _ _
      | exact lease_may.mono _ _ _ _ _ _ _ _ _ _ _ _ _ _ _ _ _ _ _ _ _ _ _ _ _ _
      | exact LeO.none _
      | refine LeO.ite ?_ ?_
      | refine LeO.bind ?_ (fun _ => ?_)
theorem lease_Judge.mono : ∀ a0 a1 a2 a3 a4 a5 a6 a7 a8 a9 a10 a11 a12 a13 a14 a15 a16 a17 a18 a19 a20 a21 a22 a23 a24 a25 a26 a27 k, LeO (lease_Judge.f k a0 a1 a2 a3 a4 a5 a6 a7 a8 a9 a10 a11 a12 a13 a14 a15 a16 a17 a18 a19 a20 a21 a22 a23 a24 a25 a26 a27) (lease_Judge.f (k + 1) a0 a1 a2 a3 a4 a5 a6 a7 a8 a9 a10 a11 a12 a13 a14 a15 a16 a17 a18 a19 a20 a21 a22 a23 a24 a25 a26 a27) := by
  intro a0 a1 a2 a3 a4 a5 a6 a7 a8 a9 a10 a11 a12 a13 a14 a15 a16 a17 a18 a19 a20 a21 a22 a23 a24 a25 a26 a27 k
  obtain ⟨ih0, ih1, ih2⟩ := lease_Judge.mono_l k
  unfold lease_Judge.f
  repeat' first
      | (with_reducible exact ih0 _ _ _ _ _ _ _ _ _ _ _ _ _ _ _ _ _ _ _ _ _ _ _ _ _ _ _)
      | (with_reducible exact ih1 _ _ _ _ _ _ _ _ _ _ _ _ _ _ _ _ _ _ _ _ _ _ _ _ _ _ _ _)
      | (with_reducible exact ih2 _ _ _ _ _ _ _ _ _ _ _ _ _ _ _ _ _ _ _ _ _ _ _ _ _ _ _ _ _)
      | (with_reducible exact keys_Name.mono _ _)
      | (with_reducible exact lease_may.mono _ _ _ _ _ _ _ _ _ _ _ _ _ _ _ _ _ _ _ _ _ _ _ _ _ _)
      | (with_reducible exact LeO.refl _)
      | (with_reducible exact LeO.none _)
      | (with_reducible refine LeO.ite ?_ ?_)
      | (with_reducible refine LeO.bind ?_ (fun _ => ?_))
      | exact ih0 _ _ _ _ _ _ _ _ _ _ _ _ _ _ _ _ _ _ _ _ _ _ _ _ _ _ _
      | exact ih1 _ _ _ _ _ _ _ _ _ _ _ _ _ _ _ _ _ _ _ _ _ _ _ _ _ _ _ _
      | exact ih2 _ _ _ _ _ _ _ _ _ _ _ _ _ _ _ _ _ _ _ _ _ _ _ _ _ _ _ _ _
      | exact keys_Name.mono _ _
      | exact lease_may.mono _ _ _ _ _ _ _ _ _ _ _ _ _ _ _ _ _ _ _ _ _ _ _ _ _ _
      | exact LeO.none _
      | refine LeO.ite ?_ ?_
      | refine LeO.bind ?_ (fun _ => ?_)
set_option maxHeartbeats 8000000 in
set_option maxRecDepth 100000 in
theorem lease_Judge.calls (k : Nat) (a0_0 : ByteArray) (a0_1 : Int) (a0_2 : Int) (a0_3 : Bool) (a1 : Bool) (a2 : ByteArray) (a3 : Int) (a4 : Int) (a5_0 : Int) (a5_1 : Int) (a5_2 : Int) (a5_3 : Int) (a5_4 : Int) (a5_5 : Int) (a5_6 : Int) (a5_7 : Int) (a5_8 : Int) (a5_9 : Int) (a5_10 : Int) (a5_11 : Int) (a5_12 : Int) (a5_13 : Int) (a5_14 : Int) (a5_15 : Int) (a5_16 : Int) (a5_17 : Int) (a5_18 : ByteArray) (a5_19 : ByteArray) (r : Int) (w : World) (h : lease_Judge.f k a0_0 a0_1 a0_2 a0_3 a1 a2 a3 a4 a5_0 a5_1 a5_2 a5_3 a5_4 a5_5 a5_6 a5_7 a5_8 a5_9 a5_10 a5_11 a5_12 a5_13 a5_14 a5_15 a5_16 a5_17 a5_18 a5_19 = some r) :
    Calls Try.prog 13 #[.agg #[.string a0_0, .int .i64 a0_1, .int .i64 a0_2, .bool a0_3], .bool a1, .string a2, .int .i64 a3, .int .i64 a4, .agg (cells24 a5_0 a5_1 a5_2 a5_3 a5_4 a5_5 a5_6 a5_7 a5_8 a5_9 a5_10 a5_11 a5_12 a5_13 a5_14 a5_15 a5_16 a5_17 a5_18 a5_19)] w fun e w' => e = .returned (.int .u8 r) ∧ Below w.heap.size w w' := by
  have hu23 := Try.underlying23
  have hu25 := Try.underlying25
  have hu45 := Try.underlying45
  have HB := Aside0.mk (Below.refl w.heap.size w)
  have H : (if a1 = true then (lease_Judge.j0 k a2 a3 a4 a0_0 a0_1 a0_2 a0_3 a5_0 a5_1 a5_2 a5_3 a5_4 a5_5 a5_6 a5_7 a5_8 a5_9 a5_10 a5_11 a5_12 a5_13 a5_14 a5_15 a5_16 a5_17 a5_18 a5_19) else ((lease_none.f a2).bind fun bt117 => (lease_Judge.j0 k a2 a3 a4 bt117.1 bt117.2.1 bt117.2.2.1 bt117.2.2.2 a5_0 a5_1 a5_2 a5_3 a5_4 a5_5 a5_6 a5_7 a5_8 a5_9 a5_10 a5_11 a5_12 a5_13 a5_14 a5_15 a5_16 a5_17 a5_18 a5_19))) = some r := h
  clear h
  have HC7 := Aside0.mk H
  clear H
  go_enter Try.func13, Try.ntmps13
  go_upto_if 16 with (first | ((with_reducible refine gate_dst (N := 6) rfl ?_); refine box_event ?hg (N := 6) ?hd (cs := #[.string a0_0, .int .i64 a0_1, .int .i64 a0_2, .bool a0_3]) (t := 23) ?hr ?_; (case hd => rfl); (case hg => rfl); (case hr => first | (go_simp; done) | (go_simp; rfl)); intro gb115 hg w8 hbox hb; have n0_ := Aside0.mk (below_step (by repeat (first | (with_reducible first | exact HB.out | apply below_alloc | apply pw_below_drewN | apply below_drew1) | exact HB.out)) hb); have n1_ := Aside0.mk (hbox); have n2_ := Aside0.mk ((by rw [hg]; exact (below_size (by repeat (first | (with_reducible first | exact HB.out | apply below_alloc | apply pw_below_drewN | apply below_drew1) | exact HB.out))) : w.heap.size ≤ gb115)); have n3_ := Aside0.mk ((by rw [hg]; exact (below_size (by repeat (first | (with_reducible first | exact HB.out | apply below_alloc | apply pw_below_drewN | apply below_drew1) | exact HB.out))) : w.heap.size ≤ gb115)); clear HB; have HB := n0_; have BK115 := n1_; have GW115 := n2_; have GE115 := n3_; clear n0_ n1_ n2_ n3_; clear hb hbox hg) | ((with_reducible refine gate_dst (N := 11) rfl ?_); refine box_event ?hg (N := 11) ?hd (cs := (cells24 a5_0 a5_1 a5_2 a5_3 a5_4 a5_5 a5_6 a5_7 a5_8 a5_9 a5_10 a5_11 a5_12 a5_13 a5_14 a5_15 a5_16 a5_17 a5_18 a5_19)) (t := 25) ?hr ?_; (case hd => rfl); (case hg => rfl); (case hr => first | (go_simp; done) | (go_simp; rfl)); intro gb116 hg w9 hbox hb; have n0_ := Aside0.mk (blk_below (g := gb115) (o := .cells #[.string a0_0, .int .i64 a0_1, .int .i64 a0_2, .bool a0_3] 23 (0, 0)) (by (with_reducible repeat (first | refine blk_drewN ?_ _ | refine blk_drew ?_ | refine blk_alloc ?_ _)); exact BK115.out) hb); have n1_ := Aside0.mk (below_step (by repeat (first | (with_reducible first | exact HB.out | apply below_alloc | apply pw_below_drewN | apply below_drew1 | refine below_set ?_ GE115.out | refine below_setRow ?_ GE115.out _) | exact HB.out)) hb); have n2_ := Aside0.mk (hbox); have n3_ := Aside0.mk ((by rw [hg]; exact (below_size (by repeat (first | (with_reducible first | exact HB.out | apply below_alloc | apply pw_below_drewN | apply below_drew1 | refine below_set ?_ GE115.out | refine below_setRow ?_ GE115.out _) | exact HB.out))) : w.heap.size ≤ gb116)); have n4_ := Aside0.mk ((by rw [hg]; exact (below_size (by repeat (first | (with_reducible first | exact HB.out | apply below_alloc | apply pw_below_drewN | apply below_drew1 | refine below_set ?_ GE115.out | refine below_setRow ?_ GE115.out _) | exact HB.out))) : w.heap.size ≤ gb116)); have n5_ := Aside0.mk ((by rw [hg]; exact Nat.ne_of_lt (blk_lt (g := gb115) (o := .cells #[.string a0_0, .int .i64 a0_1, .int .i64 a0_2, .bool a0_3] 23 (0, 0)) (by (with_reducible repeat (first | refine blk_drewN ?_ _ | refine blk_drew ?_ | refine blk_alloc ?_ _)); exact BK115.out)) : gb115 ≠ gb116)); have n6_ := Aside0.mk ((by rw [hg]; exact Nat.ne_of_gt (blk_lt (g := gb115) (o := .cells #[.string a0_0, .int .i64 a0_1, .int .i64 a0_2, .bool a0_3] 23 (0, 0)) (by (with_reducible repeat (first | refine blk_drewN ?_ _ | refine blk_drew ?_ | refine blk_alloc ?_ _)); exact BK115.out)) : gb116 ≠ gb115)); clear BK115; clear HB; have BK115 := n0_; have HB := n1_; have BK116 := n2_; have GW116 := n3_; have GE116 := n4_; have NB115_116 := n5_; have NB116_115 := n6_; clear n0_ n1_ n2_ n3_ n4_ n5_ n6_; clear hb hbox hg))
  (try simp only [Act.put, List.setIfInBounds_toArray, List.set_cons_zero, List.set_cons_succ])
  go_cut [] (fun wc => ∃ (kq : Nat) (x116000_6 : ByteArray) (x116001_6 : Int) (x116002_6 : Int) (x116003_6 : Bool), Aside0 (lease_Judge.j0 kq a2 a3 a4 x116000_6 x116001_6 x116002_6 x116003_6 a5_0 a5_1 a5_2 a5_3 a5_4 a5_5 a5_6 a5_7 a5_8 a5_9 a5_10 a5_11 a5_12 a5_13 a5_14 a5_15 a5_16 a5_17 a5_18 a5_19 = some r) ∧ Aside0 (kq ≤ k) ∧ Aside0 (wc.heap[gb115]? = some (.cells #[.string x116000_6, .int .i64 x116001_6, .int .i64 x116002_6, .bool x116003_6] 23 (0, 0))) ∧ Aside0 (wc.heap[gb116]? = some (.cells (cells24 a5_0 a5_1 a5_2 a5_3 a5_4 a5_5 a5_6 a5_7 a5_8 a5_9 a5_10 a5_11 a5_12 a5_13 a5_14 a5_15 a5_16 a5_17 a5_18 a5_19) 25 (0, 0))) ∧ Aside0 (Below w.heap.size w wc))
  case first =>
    have H := HC7.out
    clear HC7
    by_cases c10 : a1 = true
    · subst c10
      have H1 : (lease_Judge.j0 k a2 a3 a4 a0_0 a0_1 a0_2 a0_3 a5_0 a5_1 a5_2 a5_3 a5_4 a5_5 a5_6 a5_7 a5_8 a5_9 a5_10 a5_11 a5_12 a5_13 a5_14 a5_15 a5_16 a5_17 a5_18 a5_19) = some r := by rw [if_pos rfl] at H; exact H
      clear H
      have H := H1
      clear H1
      have H' := Aside0.mk H
      clear H
      go_wp2
      go_meet
      case rel => exact ⟨_, (a0_0), (a0_1), (a0_2), (a0_3), H', ⟨by first | omega | exact Nat.le_refl _⟩, ⟨by (with_reducible repeat (first | refine blk_drewN ?_ _ | refine blk_drew ?_ | refine blk_alloc ?_ _)); exact BK115.out⟩, ⟨by (with_reducible repeat (first | refine blk_drewN ?_ _ | refine blk_drew ?_ | refine blk_alloc ?_ _)); exact BK116.out⟩, ⟨by repeat (first | (with_reducible first | exact HB.out | apply below_alloc | apply pw_below_drewN | apply below_drew1 | refine below_set ?_ GE115.out | refine below_setRow ?_ GE115.out _ | refine below_set ?_ GE116.out | refine below_setRow ?_ GE116.out _) | exact HB.out)⟩⟩
    · replace c10 := Bool.eq_false_iff.mpr c10
      subst c10
      have H1 : ((lease_none.f a2).bind fun bt117 => (lease_Judge.j0 k a2 a3 a4 bt117.1 bt117.2.1 bt117.2.2.1 bt117.2.2.2 a5_0 a5_1 a5_2 a5_3 a5_4 a5_5 a5_6 a5_7 a5_8 a5_9 a5_10 a5_11 a5_12 a5_13 a5_14 a5_15 a5_16 a5_17 a5_18 a5_19)) = some r := by rw [if_neg (show ¬ (false = true) by decide)] at H; exact H
      clear H
      have H := H1
      clear H1
      replace H := Option.bind_eq_some_iff.mp H
      obtain ⟨⟨t117, t118, t119, t120⟩, A110, H⟩ := H
      replace H : (lease_Judge.j0 k a2 a3 a4 t117 t118 t119 t120 a5_0 a5_1 a5_2 a5_3 a5_4 a5_5 a5_6 a5_7 a5_8 a5_9 a5_10 a5_11 a5_12 a5_13 a5_14 a5_15 a5_16 a5_17 a5_18 a5_19) = some r := H
      have A11 := Aside0.mk A110
      clear A110
      have H' := Aside0.mk H
      clear H
      go_wp2_with (first | ((with_reducible refine gate_store (T := 25) rfl ?_); (try (refine gate_guard (by rfl) ?_; dsimp only)); refine wpList_store_row rfl 25 _ _ rfl gb116 _ rfl rfl 25 _ (by (with_reducible repeat (first | refine blk_drewN ?_ _ | refine blk_drew ?_ | refine blk_alloc ?_ _)); exact BK116.out) (by kernel_rfl) (by rfl) (by first | exact cells24_one .. | (simp [Value.oneCell']; done)) ?_) | ((with_reducible refine gate_load (T := 25) rfl ?_); (try (refine gate_guard (by rfl) ?_; dsimp only)); refine wpList_load_row rfl 25 _ rfl gb116 rfl 25 _ (0, 0) _ (by (with_reducible repeat (first | refine blk_drewN ?_ _ | refine blk_drew ?_ | refine blk_alloc ?_ _)); exact BK116.out) Try.underlying25 rfl (by kernel_rfl) ?_) | ((with_reducible refine gate_callee (f := 26) rfl ?_); refine goesL_ (some 18) rfl rfl Try.func26 (by kernel_rfl) rfl #[.string a2] rfl (by (try simp only [List.map_toArray, List.map_cons, List.map_nil]); first | done | rfl | (simp only [List.length_drop, List.length_take]; rfl)) ?_; (with_reducible refine (lease_none.calls a2 t117 t118 t119 t120 _ A11.out).mono ?_); rintro e w12 ⟨rfl, hb⟩; refine ⟨_, rfl, ?_⟩; have n0_ := Aside0.mk (blk_below (g := gb115) (o := .cells #[.string a0_0, .int .i64 a0_1, .int .i64 a0_2, .bool a0_3] 23 (0, 0)) (by (with_reducible repeat (first | refine blk_drewN ?_ _ | refine blk_drew ?_ | refine blk_alloc ?_ _)); exact BK115.out) hb); have n1_ := Aside0.mk (blk_below (g := gb116) (o := .cells (cells24 a5_0 a5_1 a5_2 a5_3 a5_4 a5_5 a5_6 a5_7 a5_8 a5_9 a5_10 a5_11 a5_12 a5_13 a5_14 a5_15 a5_16 a5_17 a5_18 a5_19) 25 (0, 0)) (by (with_reducible repeat (first | refine blk_drewN ?_ _ | refine blk_drew ?_ | refine blk_alloc ?_ _)); exact BK116.out) hb); have n2_ := Aside0.mk (below_step (by repeat (first | (with_reducible first | exact HB.out | apply below_alloc | apply pw_below_drewN | apply below_drew1 | refine below_set ?_ GE115.out | refine below_setRow ?_ GE115.out _ | refine below_set ?_ GE116.out | refine below_setRow ?_ GE116.out _) | exact HB.out)) hb); clear BK115; clear BK116; clear HB; have BK115 := n0_; have BK116 := n1_; have HB := n2_; clear n0_ n1_ n2_; (try clear hb); (try clear hb2); (try clear hk); (try clear hi); have hnb13 := NB115_116.out; have hnc13 := NB116_115.out; have hcz14_0 : w12.cell? ⟨gb115, 0, none⟩ = some (.string a0_0) := (blk_cell BK115.out 0).trans rfl; have hcz14_1 : w12.cell? ⟨gb115, 1, none⟩ = some (.int .i64 a0_1) := (blk_cell BK115.out 1).trans rfl; have hcz14_2 : w12.cell? ⟨gb115, 2, none⟩ = some (.int .i64 a0_2) := (blk_cell BK115.out 2).trans rfl; have hcz14_3 : w12.cell? ⟨gb115, 3, none⟩ = some (.bool a0_3) := (blk_cell BK115.out 3).trans rfl; have hfz14_0 := blk_frozen BK115.out 0; have hfz14_1 := blk_frozen BK115.out 1; have hfz14_2 := blk_frozen BK115.out 2; have hfz14_3 := blk_frozen BK115.out 3))
      go_meet
      case rel => exact ⟨_, (t117), (t118), (t119), (t120), H', ⟨by first | omega | exact Nat.le_refl _⟩, ⟨by (with_reducible repeat (first | refine blk_drewN ?_ _ | refine blk_drew ?_ | refine blk_alloc ?_ _)); refine blk_put (cs := #[.string t117, .int .i64 t118, .int .i64 t119, .bool a0_3]) ?_ 3 _ rfl; (with_reducible repeat (first | refine blk_drewN ?_ _ | refine blk_drew ?_ | refine blk_alloc ?_ _)); refine blk_put (cs := #[.string t117, .int .i64 t118, .int .i64 a0_2, .bool a0_3]) ?_ 2 _ rfl; (with_reducible repeat (first | refine blk_drewN ?_ _ | refine blk_drew ?_ | refine blk_alloc ?_ _)); refine blk_put (cs := #[.string t117, .int .i64 a0_1, .int .i64 a0_2, .bool a0_3]) ?_ 1 _ rfl; (with_reducible repeat (first | refine blk_drewN ?_ _ | refine blk_drew ?_ | refine blk_alloc ?_ _)); refine blk_put (cs := #[.string a0_0, .int .i64 a0_1, .int .i64 a0_2, .bool a0_3]) ?_ 0 _ rfl; (with_reducible repeat (first | refine blk_drewN ?_ _ | refine blk_drew ?_ | refine blk_alloc ?_ _)); exact BK115.out⟩, ⟨by (with_reducible repeat (first | refine blk_drewN ?_ _ | refine blk_drew ?_ | refine blk_alloc ?_ _)); refine blk_far ?_ NB116_115.out _; (with_reducible repeat (first | refine blk_drewN ?_ _ | refine blk_drew ?_ | refine blk_alloc ?_ _)); refine blk_far ?_ NB116_115.out _; (with_reducible repeat (first | refine blk_drewN ?_ _ | refine blk_drew ?_ | refine blk_alloc ?_ _)); refine blk_far ?_ NB116_115.out _; (with_reducible repeat (first | refine blk_drewN ?_ _ | refine blk_drew ?_ | refine blk_alloc ?_ _)); refine blk_far ?_ NB116_115.out _; (with_reducible repeat (first | refine blk_drewN ?_ _ | refine blk_drew ?_ | refine blk_alloc ?_ _)); exact BK116.out⟩, ⟨by repeat (first | (with_reducible first | exact HB.out | apply below_alloc | apply pw_below_drewN | apply below_drew1 | refine below_set ?_ GE115.out | refine below_setRow ?_ GE115.out _ | refine below_set ?_ GE116.out | refine below_setRow ?_ GE116.out _) | exact HB.out)⟩⟩
  case rest =>
    clear HC7
    try clear c1
    try clear c2
    try clear p2
    try clear c10
    try clear c13
    try clear hcz14_0
    try clear hcz14_1
    try clear hcz14_2
    try clear hcz14_3
    try clear hfz14_0
    try clear hfz14_1
    try clear hfz14_2
    try clear hfz14_3
    obtain ⟨kq, x116000_6, x116001_6, x116002_6, x116003_6, HA, HJ6, BK115, BK116, HB⟩ := hcut
    cases kq with
    | zero => exact absurd HA.out (by simp [lease_Judge.j0])
    | succ kj6 =>
      have H := HA.out
      clear HA
      simp only [lease_Judge.j0] at H
      have HC15 := Aside0.mk H
      clear H
      go_upto_region 3 with (fail)
      go_cut [36] (fun v36 wc => ∃ (kq : Nat) (x36_14 : Bool), v36 = .bool x36_14 ∧ Aside0 (lease_Judge.j1 kq a2 a3 a4 x36_14 x116000_6 x116001_6 x116002_6 x116003_6 a5_0 a5_1 a5_2 a5_3 a5_4 a5_5 a5_6 a5_7 a5_8 a5_9 a5_10 a5_11 a5_12 a5_13 a5_14 a5_15 a5_16 a5_17 a5_18 a5_19 = some r) ∧ Aside0 (kq ≤ kj6) ∧ Aside0 (wc.heap[gb115]? = some (.cells #[.string x116000_6, .int .i64 x116001_6, .int .i64 x116002_6, .bool x116003_6] 23 (0, 0))) ∧ Aside0 (wc.heap[gb116]? = some (.cells (cells24 a5_0 a5_1 a5_2 a5_3 a5_4 a5_5 a5_6 a5_7 a5_8 a5_9 a5_10 a5_11 a5_12 a5_13 a5_14 a5_15 a5_16 a5_17 a5_18 a5_19) 25 (0, 0))) ∧ Aside0 (Below w.heap.size w wc))
      case first =>
        have H := HC15.out
        clear HC15
        replace H := Option.bind_eq_some_iff.mp H
        obtain ⟨t121, A160, H⟩ := H
        replace H : (if t121 = true then ((lease_may.f kj6 x116000_6 x116001_6 x116002_6 x116003_6 a3 a5_0 a5_1 a5_2 a5_3 a5_4 a5_5 a5_6 a5_7 a5_8 a5_9 a5_10 a5_11 a5_12 a5_13 a5_14 a5_15 a5_16 a5_17 a5_18 a5_19).bind fun t122 => (if t122 = true then ((lease_bound_in.f a4 0 a5_4).bind fun t123 => (lease_Judge.j1 kj6 a2 a3 a4 (!t123) x116000_6 x116001_6 x116002_6 x116003_6 a5_0 a5_1 a5_2 a5_3 a5_4 a5_5 a5_6 a5_7 a5_8 a5_9 a5_10 a5_11 a5_12 a5_13 a5_14 a5_15 a5_16 a5_17 a5_18 a5_19)) else (lease_Judge.j1 kj6 a2 a3 a4 true x116000_6 x116001_6 x116002_6 x116003_6 a5_0 a5_1 a5_2 a5_3 a5_4 a5_5 a5_6 a5_7 a5_8 a5_9 a5_10 a5_11 a5_12 a5_13 a5_14 a5_15 a5_16 a5_17 a5_18 a5_19))) else (lease_Judge.j1 kj6 a2 a3 a4 true x116000_6 x116001_6 x116002_6 x116003_6 a5_0 a5_1 a5_2 a5_3 a5_4 a5_5 a5_6 a5_7 a5_8 a5_9 a5_10 a5_11 a5_12 a5_13 a5_14 a5_15 a5_16 a5_17 a5_18 a5_19)) = some r := H
        have A16 := Aside0.mk A160
        clear A160
        by_cases c17 : t121 = true
        · subst c17
          have H1 : ((lease_may.f kj6 x116000_6 x116001_6 x116002_6 x116003_6 a3 a5_0 a5_1 a5_2 a5_3 a5_4 a5_5 a5_6 a5_7 a5_8 a5_9 a5_10 a5_11 a5_12 a5_13 a5_14 a5_15 a5_16 a5_17 a5_18 a5_19).bind fun t122 => (if t122 = true then ((lease_bound_in.f a4 0 a5_4).bind fun t123 => (lease_Judge.j1 kj6 a2 a3 a4 (!t123) x116000_6 x116001_6 x116002_6 x116003_6 a5_0 a5_1 a5_2 a5_3 a5_4 a5_5 a5_6 a5_7 a5_8 a5_9 a5_10 a5_11 a5_12 a5_13 a5_14 a5_15 a5_16 a5_17 a5_18 a5_19)) else (lease_Judge.j1 kj6 a2 a3 a4 true x116000_6 x116001_6 x116002_6 x116003_6 a5_0 a5_1 a5_2 a5_3 a5_4 a5_5 a5_6 a5_7 a5_8 a5_9 a5_10 a5_11 a5_12 a5_13 a5_14 a5_15 a5_16 a5_17 a5_18 a5_19))) = some r := by rw [if_pos rfl] at H; exact H
          clear H
          have H := H1
          clear H1
          replace H := Option.bind_eq_some_iff.mp H
          obtain ⟨t122, A180, H⟩ := H
          replace H : (if t122 = true then ((lease_bound_in.f a4 0 a5_4).bind fun t123 => (lease_Judge.j1 kj6 a2 a3 a4 (!t123) x116000_6 x116001_6 x116002_6 x116003_6 a5_0 a5_1 a5_2 a5_3 a5_4 a5_5 a5_6 a5_7 a5_8 a5_9 a5_10 a5_11 a5_12 a5_13 a5_14 a5_15 a5_16 a5_17 a5_18 a5_19)) else (lease_Judge.j1 kj6 a2 a3 a4 true x116000_6 x116001_6 x116002_6 x116003_6 a5_0 a5_1 a5_2 a5_3 a5_4 a5_5 a5_6 a5_7 a5_8 a5_9 a5_10 a5_11 a5_12 a5_13 a5_14 a5_15 a5_16 a5_17 a5_18 a5_19)) = some r := H
          have A18 := Aside0.mk A180
          clear A180
          by_cases c19 : t122 = true
          · subst c19
            have H1 : ((lease_bound_in.f a4 0 a5_4).bind fun t123 => (lease_Judge.j1 kj6 a2 a3 a4 (!t123) x116000_6 x116001_6 x116002_6 x116003_6 a5_0 a5_1 a5_2 a5_3 a5_4 a5_5 a5_6 a5_7 a5_8 a5_9 a5_10 a5_11 a5_12 a5_13 a5_14 a5_15 a5_16 a5_17 a5_18 a5_19)) = some r := by rw [if_pos rfl] at H; exact H
            clear H
            have H := H1
            clear H1
            replace H := Option.bind_eq_some_iff.mp H
            obtain ⟨t123, A200, H⟩ := H
            replace H : (lease_Judge.j1 kj6 a2 a3 a4 (!t123) x116000_6 x116001_6 x116002_6 x116003_6 a5_0 a5_1 a5_2 a5_3 a5_4 a5_5 a5_6 a5_7 a5_8 a5_9 a5_10 a5_11 a5_12 a5_13 a5_14 a5_15 a5_16 a5_17 a5_18 a5_19) = some r := H
            have A20 := Aside0.mk A200
            clear A200
            have H' := Aside0.mk H
            clear H
            go_wp2_with (first | ((with_reducible refine gate_store (T := 25) rfl ?_); (try (refine gate_guard (by rfl) ?_; dsimp only)); refine wpList_store_row rfl 25 _ _ rfl gb116 _ rfl rfl 25 _ (by (with_reducible repeat (first | refine blk_drewN ?_ _ | refine blk_drew ?_ | refine blk_alloc ?_ _)); exact BK116.out) (by kernel_rfl) (by rfl) (by first | exact cells24_one .. | (simp [Value.oneCell']; done)) ?_) | ((with_reducible refine gate_load (T := 25) rfl ?_); (try (refine gate_guard (by rfl) ?_; dsimp only)); refine wpList_load_row rfl 25 _ rfl gb116 rfl 25 _ (0, 0) _ (by (with_reducible repeat (first | refine blk_drewN ?_ _ | refine blk_drew ?_ | refine blk_alloc ?_ _)); exact BK116.out) Try.underlying25 rfl (by kernel_rfl) ?_) | ((with_reducible refine gate_callee (f := 27) rfl ?_); refine goesL_ (some 20) rfl rfl Try.func27 (by kernel_rfl) rfl #[.string a2] rfl (by (try simp only [List.map_toArray, List.map_cons, List.map_nil]); first | done | rfl | (simp only [List.length_drop, List.length_take]; rfl)) ?_; (with_reducible refine (keys_Name.calls kj6 a2 true _ A16.out).mono ?_); rintro e w' ⟨rfl, ⟨nd, rfl⟩⟩; refine ⟨_, rfl, ?_⟩; have hnb21 := NB115_116.out; have hnc21 := NB116_115.out; have hcz22_0 : wc.cell? ⟨gb115, 0, none⟩ = some (.string x116000_6) := (blk_cell BK115.out 0).trans rfl; have hcz22_1 : wc.cell? ⟨gb115, 1, none⟩ = some (.int .i64 x116001_6) := (blk_cell BK115.out 1).trans rfl; have hcz22_2 : wc.cell? ⟨gb115, 2, none⟩ = some (.int .i64 x116002_6) := (blk_cell BK115.out 2).trans rfl; have hcz22_3 : wc.cell? ⟨gb115, 3, none⟩ = some (.bool x116003_6) := (blk_cell BK115.out 3).trans rfl; have hfz22_0 := blk_frozen BK115.out 0; have hfz22_1 := blk_frozen BK115.out 1; have hfz22_2 := blk_frozen BK115.out 2; have hfz22_3 := blk_frozen BK115.out 3; have hcz23_0 : wc.cell? ⟨gb116, 0, none⟩ = some (.int .i64 a5_0) := (blk_cell BK116.out 0).trans rfl; have hcz23_1 : wc.cell? ⟨gb116, 1, none⟩ = some (.int .i64 a5_1) := (blk_cell BK116.out 1).trans rfl; have hcz23_2 : wc.cell? ⟨gb116, 2, none⟩ = some (.int .i64 a5_2) := (blk_cell BK116.out 2).trans rfl; have hcz23_3 : wc.cell? ⟨gb116, 3, none⟩ = some (.int .i64 a5_3) := (blk_cell BK116.out 3).trans rfl; have hcz23_4 : wc.cell? ⟨gb116, 4, none⟩ = some (.int .i64 a5_4) := (blk_cell BK116.out 4).trans rfl; have hcz23_5 : wc.cell? ⟨gb116, 5, none⟩ = some (.int .i64 a5_5) := (blk_cell BK116.out 5).trans rfl; have hcz23_6 : wc.cell? ⟨gb116, 6, none⟩ = some (.int .i64 a5_6) := (blk_cell BK116.out 6).trans rfl; have hcz23_7 : wc.cell? ⟨gb116, 7, none⟩ = some (.int .i64 a5_7) := (blk_cell BK116.out 7).trans rfl; have hcz23_8 : wc.cell? ⟨gb116, 8, none⟩ = some (.int .i64 a5_8) := (blk_cell BK116.out 8).trans rfl; have hcz23_9 : wc.cell? ⟨gb116, 9, none⟩ = some (.int .i64 a5_9) := (blk_cell BK116.out 9).trans rfl; have hcz23_10 : wc.cell? ⟨gb116, 10, none⟩ = some (.int .i64 a5_10) := (blk_cell BK116.out 10).trans rfl; have hcz23_11 : wc.cell? ⟨gb116, 11, none⟩ = some (.int .i64 a5_11) := (blk_cell BK116.out 11).trans rfl; have hcz23_12 : wc.cell? ⟨gb116, 12, none⟩ = some (.int .i64 a5_12) := (blk_cell BK116.out 12).trans rfl; have hcz23_13 : wc.cell? ⟨gb116, 13, none⟩ = some (.int .i64 a5_13) := (blk_cell BK116.out 13).trans rfl; have hcz23_14 : wc.cell? ⟨gb116, 14, none⟩ = some (.int .i64 a5_14) := (blk_cell BK116.out 14).trans rfl; have hcz23_15 : wc.cell? ⟨gb116, 15, none⟩ = some (.int .i64 a5_15) := (blk_cell BK116.out 15).trans rfl; have hcz23_16 : wc.cell? ⟨gb116, 16, none⟩ = some (.int .i64 a5_16) := (blk_cell BK116.out 16).trans rfl; have hcz23_17 : wc.cell? ⟨gb116, 17, none⟩ = some (.int .i64 a5_17) := (blk_cell BK116.out 17).trans rfl; have hcz23_18 : wc.cell? ⟨gb116, 18, none⟩ = some (.string a5_18) := (blk_cell BK116.out 18).trans rfl; have hcz23_19 : wc.cell? ⟨gb116, 19, none⟩ = some (.string a5_19) := (blk_cell BK116.out 19).trans rfl; have hfz23_0 := blk_frozen BK116.out 0; have hfz23_1 := blk_frozen BK116.out 1; have hfz23_2 := blk_frozen BK116.out 2; have hfz23_3 := blk_frozen BK116.out 3; have hfz23_4 := blk_frozen BK116.out 4; have hfz23_5 := blk_frozen BK116.out 5; have hfz23_6 := blk_frozen BK116.out 6; have hfz23_7 := blk_frozen BK116.out 7; have hfz23_8 := blk_frozen BK116.out 8; have hfz23_9 := blk_frozen BK116.out 9; have hfz23_10 := blk_frozen BK116.out 10; have hfz23_11 := blk_frozen BK116.out 11; have hfz23_12 := blk_frozen BK116.out 12; have hfz23_13 := blk_frozen BK116.out 13; have hfz23_14 := blk_frozen BK116.out 14; have hfz23_15 := blk_frozen BK116.out 15; have hfz23_16 := blk_frozen BK116.out 16; have hfz23_17 := blk_frozen BK116.out 17; have hfz23_18 := blk_frozen BK116.out 18; have hfz23_19 := blk_frozen BK116.out 19) | (go_at_call 28; (with_reducible refine (lease_may.calls kj6 x116000_6 x116001_6 x116002_6 x116003_6 a3 a5_0 a5_1 a5_2 a5_3 a5_4 a5_5 a5_6 a5_7 a5_8 a5_9 a5_10 a5_11 a5_12 a5_13 a5_14 a5_15 a5_16 a5_17 a5_18 a5_19 true _ A18.out).mono ?_); rintro e w24 ⟨rfl, hb⟩; have n0_ := Aside0.mk (blk_below (g := gb115) (o := .cells #[.string x116000_6, .int .i64 x116001_6, .int .i64 x116002_6, .bool x116003_6] 23 (0, 0)) (by (with_reducible repeat (first | refine blk_drewN ?_ _ | refine blk_drew ?_ | refine blk_alloc ?_ _)); exact BK115.out) hb); have n1_ := Aside0.mk (blk_below (g := gb116) (o := .cells (cells24 a5_0 a5_1 a5_2 a5_3 a5_4 a5_5 a5_6 a5_7 a5_8 a5_9 a5_10 a5_11 a5_12 a5_13 a5_14 a5_15 a5_16 a5_17 a5_18 a5_19) 25 (0, 0)) (by (with_reducible repeat (first | refine blk_drewN ?_ _ | refine blk_drew ?_ | refine blk_alloc ?_ _)); exact BK116.out) hb); have n2_ := Aside0.mk (below_step (by repeat (first | (with_reducible first | exact HB.out | apply below_alloc | apply pw_below_drewN | apply below_drew1 | refine below_set ?_ GE115.out | refine below_setRow ?_ GE115.out _ | refine below_set ?_ GE116.out | refine below_setRow ?_ GE116.out _) | exact HB.out)) hb); clear BK115; clear BK116; clear HB; have BK115 := n0_; have BK116 := n1_; have HB := n2_; clear n0_ n1_ n2_; (try clear hb); (try clear hb2); (try clear hk); (try clear hi); have hcz25_0 : w24.cell? ⟨gb116, 0, none⟩ = some (.int .i64 a5_0) := (blk_cell BK116.out 0).trans rfl; have hcz25_1 : w24.cell? ⟨gb116, 1, none⟩ = some (.int .i64 a5_1) := (blk_cell BK116.out 1).trans rfl; have hcz25_2 : w24.cell? ⟨gb116, 2, none⟩ = some (.int .i64 a5_2) := (blk_cell BK116.out 2).trans rfl; have hcz25_3 : w24.cell? ⟨gb116, 3, none⟩ = some (.int .i64 a5_3) := (blk_cell BK116.out 3).trans rfl; have hcz25_4 : w24.cell? ⟨gb116, 4, none⟩ = some (.int .i64 a5_4) := (blk_cell BK116.out 4).trans rfl; have hcz25_5 : w24.cell? ⟨gb116, 5, none⟩ = some (.int .i64 a5_5) := (blk_cell BK116.out 5).trans rfl; have hcz25_6 : w24.cell? ⟨gb116, 6, none⟩ = some (.int .i64 a5_6) := (blk_cell BK116.out 6).trans rfl; have hcz25_7 : w24.cell? ⟨gb116, 7, none⟩ = some (.int .i64 a5_7) := (blk_cell BK116.out 7).trans rfl; have hcz25_8 : w24.cell? ⟨gb116, 8, none⟩ = some (.int .i64 a5_8) := (blk_cell BK116.out 8).trans rfl; have hcz25_9 : w24.cell? ⟨gb116, 9, none⟩ = some (.int .i64 a5_9) := (blk_cell BK116.out 9).trans rfl; have hcz25_10 : w24.cell? ⟨gb116, 10, none⟩ = some (.int .i64 a5_10) := (blk_cell BK116.out 10).trans rfl; have hcz25_11 : w24.cell? ⟨gb116, 11, none⟩ = some (.int .i64 a5_11) := (blk_cell BK116.out 11).trans rfl; have hcz25_12 : w24.cell? ⟨gb116, 12, none⟩ = some (.int .i64 a5_12) := (blk_cell BK116.out 12).trans rfl; have hcz25_13 : w24.cell? ⟨gb116, 13, none⟩ = some (.int .i64 a5_13) := (blk_cell BK116.out 13).trans rfl; have hcz25_14 : w24.cell? ⟨gb116, 14, none⟩ = some (.int .i64 a5_14) := (blk_cell BK116.out 14).trans rfl; have hcz25_15 : w24.cell? ⟨gb116, 15, none⟩ = some (.int .i64 a5_15) := (blk_cell BK116.out 15).trans rfl; have hcz25_16 : w24.cell? ⟨gb116, 16, none⟩ = some (.int .i64 a5_16) := (blk_cell BK116.out 16).trans rfl; have hcz25_17 : w24.cell? ⟨gb116, 17, none⟩ = some (.int .i64 a5_17) := (blk_cell BK116.out 17).trans rfl; have hcz25_18 : w24.cell? ⟨gb116, 18, none⟩ = some (.string a5_18) := (blk_cell BK116.out 18).trans rfl; have hcz25_19 : w24.cell? ⟨gb116, 19, none⟩ = some (.string a5_19) := (blk_cell BK116.out 19).trans rfl; have hfz25_0 := blk_frozen BK116.out 0; have hfz25_1 := blk_frozen BK116.out 1; have hfz25_2 := blk_frozen BK116.out 2; have hfz25_3 := blk_frozen BK116.out 3; have hfz25_4 := blk_frozen BK116.out 4; have hfz25_5 := blk_frozen BK116.out 5; have hfz25_6 := blk_frozen BK116.out 6; have hfz25_7 := blk_frozen BK116.out 7; have hfz25_8 := blk_frozen BK116.out 8; have hfz25_9 := blk_frozen BK116.out 9; have hfz25_10 := blk_frozen BK116.out 10; have hfz25_11 := blk_frozen BK116.out 11; have hfz25_12 := blk_frozen BK116.out 12; have hfz25_13 := blk_frozen BK116.out 13; have hfz25_14 := blk_frozen BK116.out 14; have hfz25_15 := blk_frozen BK116.out 15; have hfz25_16 := blk_frozen BK116.out 16; have hfz25_17 := blk_frozen BK116.out 17; have hfz25_18 := blk_frozen BK116.out 18; have hfz25_19 := blk_frozen BK116.out 19) | (go_at_call 29; (with_reducible refine (lease_bound_in.calls a4 0 a5_4 t123 _ A20.out).mono ?_); rintro e w26 ⟨rfl, hb⟩; have n0_ := Aside0.mk (blk_below (g := gb115) (o := .cells #[.string x116000_6, .int .i64 x116001_6, .int .i64 x116002_6, .bool x116003_6] 23 (0, 0)) (by (with_reducible repeat (first | refine blk_drewN ?_ _ | refine blk_drew ?_ | refine blk_alloc ?_ _)); exact BK115.out) hb); have n1_ := Aside0.mk (blk_below (g := gb116) (o := .cells (cells24 a5_0 a5_1 a5_2 a5_3 a5_4 a5_5 a5_6 a5_7 a5_8 a5_9 a5_10 a5_11 a5_12 a5_13 a5_14 a5_15 a5_16 a5_17 a5_18 a5_19) 25 (0, 0)) (by (with_reducible repeat (first | refine blk_drewN ?_ _ | refine blk_drew ?_ | refine blk_alloc ?_ _)); exact BK116.out) hb); have n2_ := Aside0.mk (below_step (by repeat (first | (with_reducible first | exact HB.out | apply below_alloc | apply pw_below_drewN | apply below_drew1 | refine below_set ?_ GE115.out | refine below_setRow ?_ GE115.out _ | refine below_set ?_ GE116.out | refine below_setRow ?_ GE116.out _) | exact HB.out)) hb); clear BK115; clear BK116; clear HB; have BK115 := n0_; have BK116 := n1_; have HB := n2_; clear n0_ n1_ n2_; (try clear hb); (try clear hb2); (try clear hk); (try clear hi)))
            go_meet
            case rel => exact ⟨_, (!t123), (by first | rfl | (simp; done) | (simp [*]; done) | (simp [wrap64, wrap32]; done)), H', ⟨by have := HJ6.out; first | omega | exact Nat.le_refl _⟩, ⟨by (with_reducible repeat (first | refine blk_drewN ?_ _ | refine blk_drew ?_ | refine blk_alloc ?_ _)); exact BK115.out⟩, ⟨by (with_reducible repeat (first | refine blk_drewN ?_ _ | refine blk_drew ?_ | refine blk_alloc ?_ _)); exact BK116.out⟩, ⟨by repeat (first | (with_reducible first | exact HB.out | apply below_alloc | apply pw_below_drewN | apply below_drew1 | refine below_set ?_ GE115.out | refine below_setRow ?_ GE115.out _ | refine below_set ?_ GE116.out | refine below_setRow ?_ GE116.out _) | exact HB.out)⟩⟩
          · replace c19 := Bool.eq_false_iff.mpr c19
            subst c19
            have H1 : (lease_Judge.j1 kj6 a2 a3 a4 true x116000_6 x116001_6 x116002_6 x116003_6 a5_0 a5_1 a5_2 a5_3 a5_4 a5_5 a5_6 a5_7 a5_8 a5_9 a5_10 a5_11 a5_12 a5_13 a5_14 a5_15 a5_16 a5_17 a5_18 a5_19) = some r := by rw [if_neg (show ¬ (false = true) by decide)] at H; exact H
            clear H
            have H := H1
            clear H1
            have H' := Aside0.mk H
            clear H
            go_wp2_with (first | ((with_reducible refine gate_store (T := 25) rfl ?_); (try (refine gate_guard (by rfl) ?_; dsimp only)); refine wpList_store_row rfl 25 _ _ rfl gb116 _ rfl rfl 25 _ (by (with_reducible repeat (first | refine blk_drewN ?_ _ | refine blk_drew ?_ | refine blk_alloc ?_ _)); exact BK116.out) (by kernel_rfl) (by rfl) (by first | exact cells24_one .. | (simp [Value.oneCell']; done)) ?_) | ((with_reducible refine gate_load (T := 25) rfl ?_); (try (refine gate_guard (by rfl) ?_; dsimp only)); refine wpList_load_row rfl 25 _ rfl gb116 rfl 25 _ (0, 0) _ (by (with_reducible repeat (first | refine blk_drewN ?_ _ | refine blk_drew ?_ | refine blk_alloc ?_ _)); exact BK116.out) Try.underlying25 rfl (by kernel_rfl) ?_) | ((with_reducible refine gate_callee (f := 27) rfl ?_); refine goesL_ (some 20) rfl rfl Try.func27 (by kernel_rfl) rfl #[.string a2] rfl (by (try simp only [List.map_toArray, List.map_cons, List.map_nil]); first | done | rfl | (simp only [List.length_drop, List.length_take]; rfl)) ?_; (with_reducible refine (keys_Name.calls kj6 a2 true _ A16.out).mono ?_); rintro e w' ⟨rfl, ⟨nd, rfl⟩⟩; refine ⟨_, rfl, ?_⟩; have hnb27 := NB115_116.out; have hnc27 := NB116_115.out; have hcz28_0 : wc.cell? ⟨gb115, 0, none⟩ = some (.string x116000_6) := (blk_cell BK115.out 0).trans rfl; have hcz28_1 : wc.cell? ⟨gb115, 1, none⟩ = some (.int .i64 x116001_6) := (blk_cell BK115.out 1).trans rfl; have hcz28_2 : wc.cell? ⟨gb115, 2, none⟩ = some (.int .i64 x116002_6) := (blk_cell BK115.out 2).trans rfl; have hcz28_3 : wc.cell? ⟨gb115, 3, none⟩ = some (.bool x116003_6) := (blk_cell BK115.out 3).trans rfl; have hfz28_0 := blk_frozen BK115.out 0; have hfz28_1 := blk_frozen BK115.out 1; have hfz28_2 := blk_frozen BK115.out 2; have hfz28_3 := blk_frozen BK115.out 3; have hcz29_0 : wc.cell? ⟨gb116, 0, none⟩ = some (.int .i64 a5_0) := (blk_cell BK116.out 0).trans rfl; have hcz29_1 : wc.cell? ⟨gb116, 1, none⟩ = some (.int .i64 a5_1) := (blk_cell BK116.out 1).trans rfl; have hcz29_2 : wc.cell? ⟨gb116, 2, none⟩ = some (.int .i64 a5_2) := (blk_cell BK116.out 2).trans rfl; have hcz29_3 : wc.cell? ⟨gb116, 3, none⟩ = some (.int .i64 a5_3) := (blk_cell BK116.out 3).trans rfl; have hcz29_4 : wc.cell? ⟨gb116, 4, none⟩ = some (.int .i64 a5_4) := (blk_cell BK116.out 4).trans rfl; have hcz29_5 : wc.cell? ⟨gb116, 5, none⟩ = some (.int .i64 a5_5) := (blk_cell BK116.out 5).trans rfl; have hcz29_6 : wc.cell? ⟨gb116, 6, none⟩ = some (.int .i64 a5_6) := (blk_cell BK116.out 6).trans rfl; have hcz29_7 : wc.cell? ⟨gb116, 7, none⟩ = some (.int .i64 a5_7) := (blk_cell BK116.out 7).trans rfl; have hcz29_8 : wc.cell? ⟨gb116, 8, none⟩ = some (.int .i64 a5_8) := (blk_cell BK116.out 8).trans rfl; have hcz29_9 : wc.cell? ⟨gb116, 9, none⟩ = some (.int .i64 a5_9) := (blk_cell BK116.out 9).trans rfl; have hcz29_10 : wc.cell? ⟨gb116, 10, none⟩ = some (.int .i64 a5_10) := (blk_cell BK116.out 10).trans rfl; have hcz29_11 : wc.cell? ⟨gb116, 11, none⟩ = some (.int .i64 a5_11) := (blk_cell BK116.out 11).trans rfl; have hcz29_12 : wc.cell? ⟨gb116, 12, none⟩ = some (.int .i64 a5_12) := (blk_cell BK116.out 12).trans rfl; have hcz29_13 : wc.cell? ⟨gb116, 13, none⟩ = some (.int .i64 a5_13) := (blk_cell BK116.out 13).trans rfl; have hcz29_14 : wc.cell? ⟨gb116, 14, none⟩ = some (.int .i64 a5_14) := (blk_cell BK116.out 14).trans rfl; have hcz29_15 : wc.cell? ⟨gb116, 15, none⟩ = some (.int .i64 a5_15) := (blk_cell BK116.out 15).trans rfl; have hcz29_16 : wc.cell? ⟨gb116, 16, none⟩ = some (.int .i64 a5_16) := (blk_cell BK116.out 16).trans rfl; have hcz29_17 : wc.cell? ⟨gb116, 17, none⟩ = some (.int .i64 a5_17) := (blk_cell BK116.out 17).trans rfl; have hcz29_18 : wc.cell? ⟨gb116, 18, none⟩ = some (.string a5_18) := (blk_cell BK116.out 18).trans rfl; have hcz29_19 : wc.cell? ⟨gb116, 19, none⟩ = some (.string a5_19) := (blk_cell BK116.out 19).trans rfl; have hfz29_0 := blk_frozen BK116.out 0; have hfz29_1 := blk_frozen BK116.out 1; have hfz29_2 := blk_frozen BK116.out 2; have hfz29_3 := blk_frozen BK116.out 3; have hfz29_4 := blk_frozen BK116.out 4; have hfz29_5 := blk_frozen BK116.out 5; have hfz29_6 := blk_frozen BK116.out 6; have hfz29_7 := blk_frozen BK116.out 7; have hfz29_8 := blk_frozen BK116.out 8; have hfz29_9 := blk_frozen BK116.out 9; have hfz29_10 := blk_frozen BK116.out 10; have hfz29_11 := blk_frozen BK116.out 11; have hfz29_12 := blk_frozen BK116.out 12; have hfz29_13 := blk_frozen BK116.out 13; have hfz29_14 := blk_frozen BK116.out 14; have hfz29_15 := blk_frozen BK116.out 15; have hfz29_16 := blk_frozen BK116.out 16; have hfz29_17 := blk_frozen BK116.out 17; have hfz29_18 := blk_frozen BK116.out 18; have hfz29_19 := blk_frozen BK116.out 19) | (go_at_call 28; (with_reducible refine (lease_may.calls kj6 x116000_6 x116001_6 x116002_6 x116003_6 a3 a5_0 a5_1 a5_2 a5_3 a5_4 a5_5 a5_6 a5_7 a5_8 a5_9 a5_10 a5_11 a5_12 a5_13 a5_14 a5_15 a5_16 a5_17 a5_18 a5_19 false _ A18.out).mono ?_); rintro e w30 ⟨rfl, hb⟩; have n0_ := Aside0.mk (blk_below (g := gb115) (o := .cells #[.string x116000_6, .int .i64 x116001_6, .int .i64 x116002_6, .bool x116003_6] 23 (0, 0)) (by (with_reducible repeat (first | refine blk_drewN ?_ _ | refine blk_drew ?_ | refine blk_alloc ?_ _)); exact BK115.out) hb); have n1_ := Aside0.mk (blk_below (g := gb116) (o := .cells (cells24 a5_0 a5_1 a5_2 a5_3 a5_4 a5_5 a5_6 a5_7 a5_8 a5_9 a5_10 a5_11 a5_12 a5_13 a5_14 a5_15 a5_16 a5_17 a5_18 a5_19) 25 (0, 0)) (by (with_reducible repeat (first | refine blk_drewN ?_ _ | refine blk_drew ?_ | refine blk_alloc ?_ _)); exact BK116.out) hb); have n2_ := Aside0.mk (below_step (by repeat (first | (with_reducible first | exact HB.out | apply below_alloc | apply pw_below_drewN | apply below_drew1 | refine below_set ?_ GE115.out | refine below_setRow ?_ GE115.out _ | refine below_set ?_ GE116.out | refine below_setRow ?_ GE116.out _) | exact HB.out)) hb); clear BK115; clear BK116; clear HB; have BK115 := n0_; have BK116 := n1_; have HB := n2_; clear n0_ n1_ n2_; (try clear hb); (try clear hb2); (try clear hk); (try clear hi)))
            go_meet
            case rel => exact ⟨_, (true), (by first | rfl | (simp; done) | (simp [*]; done) | (simp [wrap64, wrap32]; done)), H', ⟨by have := HJ6.out; first | omega | exact Nat.le_refl _⟩, ⟨by (with_reducible repeat (first | refine blk_drewN ?_ _ | refine blk_drew ?_ | refine blk_alloc ?_ _)); exact BK115.out⟩, ⟨by (with_reducible repeat (first | refine blk_drewN ?_ _ | refine blk_drew ?_ | refine blk_alloc ?_ _)); exact BK116.out⟩, ⟨by repeat (first | (with_reducible first | exact HB.out | apply below_alloc | apply pw_below_drewN | apply below_drew1 | refine below_set ?_ GE115.out | refine below_setRow ?_ GE115.out _ | refine below_set ?_ GE116.out | refine below_setRow ?_ GE116.out _) | exact HB.out)⟩⟩
        · replace c17 := Bool.eq_false_iff.mpr c17
          subst c17
          have H1 : (lease_Judge.j1 kj6 a2 a3 a4 true x116000_6 x116001_6 x116002_6 x116003_6 a5_0 a5_1 a5_2 a5_3 a5_4 a5_5 a5_6 a5_7 a5_8 a5_9 a5_10 a5_11 a5_12 a5_13 a5_14 a5_15 a5_16 a5_17 a5_18 a5_19) = some r := by rw [if_neg (show ¬ (false = true) by decide)] at H; exact H
          clear H
          have H := H1
          clear H1
          have H' := Aside0.mk H
          clear H
          go_wp2_with (first | ((with_reducible refine gate_store (T := 25) rfl ?_); (try (refine gate_guard (by rfl) ?_; dsimp only)); refine wpList_store_row rfl 25 _ _ rfl gb116 _ rfl rfl 25 _ (by (with_reducible repeat (first | refine blk_drewN ?_ _ | refine blk_drew ?_ | refine blk_alloc ?_ _)); exact BK116.out) (by kernel_rfl) (by rfl) (by first | exact cells24_one .. | (simp [Value.oneCell']; done)) ?_) | ((with_reducible refine gate_load (T := 25) rfl ?_); (try (refine gate_guard (by rfl) ?_; dsimp only)); refine wpList_load_row rfl 25 _ rfl gb116 rfl 25 _ (0, 0) _ (by (with_reducible repeat (first | refine blk_drewN ?_ _ | refine blk_drew ?_ | refine blk_alloc ?_ _)); exact BK116.out) Try.underlying25 rfl (by kernel_rfl) ?_) | ((with_reducible refine gate_callee (f := 27) rfl ?_); refine goesL_ (some 20) rfl rfl Try.func27 (by kernel_rfl) rfl #[.string a2] rfl (by (try simp only [List.map_toArray, List.map_cons, List.map_nil]); first | done | rfl | (simp only [List.length_drop, List.length_take]; rfl)) ?_; (with_reducible refine (keys_Name.calls kj6 a2 false _ A16.out).mono ?_); rintro e w' ⟨rfl, ⟨nd, rfl⟩⟩; refine ⟨_, rfl, ?_⟩))
          go_meet
          case rel => exact ⟨_, (true), (by first | rfl | (simp; done) | (simp [*]; done) | (simp [wrap64, wrap32]; done)), H', ⟨by have := HJ6.out; first | omega | exact Nat.le_refl _⟩, ⟨by (with_reducible repeat (first | refine blk_drewN ?_ _ | refine blk_drew ?_ | refine blk_alloc ?_ _)); exact BK115.out⟩, ⟨by (with_reducible repeat (first | refine blk_drewN ?_ _ | refine blk_drew ?_ | refine blk_alloc ?_ _)); exact BK116.out⟩, ⟨by repeat (first | (with_reducible first | exact HB.out | apply below_alloc | apply pw_below_drewN | apply below_drew1 | refine below_set ?_ GE115.out | refine below_setRow ?_ GE115.out _ | refine below_set ?_ GE116.out | refine below_setRow ?_ GE116.out _) | exact HB.out)⟩⟩
      case rest =>
        clear HC15
        try clear c1
        try clear c2
        try clear p2
        try clear c10
        try clear c13
        try clear c17
        try clear c19
        try clear c21
        try clear c26
        try clear c27
        try clear hcz14_0
        try clear hcz14_1
        try clear hcz14_2
        try clear hcz14_3
        try clear hcz22_0
        try clear hcz22_1
        try clear hcz22_2
        try clear hcz22_3
        try clear hcz23_0
        try clear hcz23_1
        try clear hcz23_10
        try clear hcz23_11
        try clear hcz23_12
        try clear hcz23_13
        try clear hcz23_14
        try clear hcz23_15
        try clear hcz23_16
        try clear hcz23_17
        try clear hcz23_18
        try clear hcz23_19
        try clear hcz23_2
        try clear hcz23_3
        try clear hcz23_4
        try clear hcz23_5
        try clear hcz23_6
        try clear hcz23_7
        try clear hcz23_8
        try clear hcz23_9
        try clear hcz25_0
        try clear hcz25_1
        try clear hcz25_10
        try clear hcz25_11
        try clear hcz25_12
        try clear hcz25_13
        try clear hcz25_14
        try clear hcz25_15
        try clear hcz25_16
        try clear hcz25_17
        try clear hcz25_18
        try clear hcz25_19
        try clear hcz25_2
        try clear hcz25_3
        try clear hcz25_4
        try clear hcz25_5
        try clear hcz25_6
        try clear hcz25_7
        try clear hcz25_8
        try clear hcz25_9
        try clear hcz28_0
        try clear hcz28_1
        try clear hcz28_2
        try clear hcz28_3
        try clear hcz29_0
        try clear hcz29_1
        try clear hcz29_10
        try clear hcz29_11
        try clear hcz29_12
        try clear hcz29_13
        try clear hcz29_14
        try clear hcz29_15
        try clear hcz29_16
        try clear hcz29_17
        try clear hcz29_18
        try clear hcz29_19
        try clear hcz29_2
        try clear hcz29_3
        try clear hcz29_4
        try clear hcz29_5
        try clear hcz29_6
        try clear hcz29_7
        try clear hcz29_8
        try clear hcz29_9
        try clear hfz14_0
        try clear hfz14_1
        try clear hfz14_2
        try clear hfz14_3
        try clear hfz22_0
        try clear hfz22_1
        try clear hfz22_2
        try clear hfz22_3
        try clear hfz23_0
        try clear hfz23_1
        try clear hfz23_10
        try clear hfz23_11
        try clear hfz23_12
        try clear hfz23_13
        try clear hfz23_14
        try clear hfz23_15
        try clear hfz23_16
        try clear hfz23_17
        try clear hfz23_18
        try clear hfz23_19
        try clear hfz23_2
        try clear hfz23_3
        try clear hfz23_4
        try clear hfz23_5
        try clear hfz23_6
        try clear hfz23_7
        try clear hfz23_8
        try clear hfz23_9
        try clear hfz25_0
        try clear hfz25_1
        try clear hfz25_10
        try clear hfz25_11
        try clear hfz25_12
        try clear hfz25_13
        try clear hfz25_14
        try clear hfz25_15
        try clear hfz25_16
        try clear hfz25_17
        try clear hfz25_18
        try clear hfz25_19
        try clear hfz25_2
        try clear hfz25_3
        try clear hfz25_4
        try clear hfz25_5
        try clear hfz25_6
        try clear hfz25_7
        try clear hfz25_8
        try clear hfz25_9
        try clear hfz28_0
        try clear hfz28_1
        try clear hfz28_2
        try clear hfz28_3
        try clear hfz29_0
        try clear hfz29_1
        try clear hfz29_10
        try clear hfz29_11
        try clear hfz29_12
        try clear hfz29_13
        try clear hfz29_14
        try clear hfz29_15
        try clear hfz29_16
        try clear hfz29_17
        try clear hfz29_18
        try clear hfz29_19
        try clear hfz29_2
        try clear hfz29_3
        try clear hfz29_4
        try clear hfz29_5
        try clear hfz29_6
        try clear hfz29_7
        try clear hfz29_8
        try clear hfz29_9
        try clear p2
        obtain ⟨kq, x36_14, rfl, HA, HJ14, BK115, BK116, HB⟩ := hcut
        cases kq with
        | zero => exact absurd HA.out (by simp [lease_Judge.j1])
        | succ kj14 =>
          have H := HA.out
          clear HA
          simp only [lease_Judge.j1] at H
          by_cases c31 : x36_14 = true
          · subst c31
            have H1 : (some 0) = some r := by rw [if_pos rfl] at H; exact H
            clear H
            have H := H1
            clear H1
            obtain rfl := Option.some.inj H
            go_wp2
            go_ret
            exact ⟨by first | rfl | (simp [errW_none, errW_some] <;> rfl) | (simp [*, errW_none, errW_some] <;> rfl), by repeat (first | (with_reducible first | exact HB.out | apply below_alloc | apply pw_below_drewN | apply below_drew1 | refine below_set ?_ GE115.out | refine below_setRow ?_ GE115.out _ | refine below_set ?_ GE116.out | refine below_setRow ?_ GE116.out _) | exact HB.out)⟩
          · replace c31 := Bool.eq_false_iff.mpr c31
            subst c31
            have H1 : (if x116003_6 = true then (lease_Judge.j2 kj14 a2 a4 (wrap64 (a3 - x116002_6)) 0 true x116000_6 x116001_6 x116002_6 x116003_6 a5_0 a5_1 a5_2 a5_3 a5_4 a5_5 a5_6 a5_7 a5_8 a5_9 a5_10 a5_11 a5_12 a5_13 a5_14 a5_15 a5_16 a5_17 a5_18 a5_19) else (if x116000_6.toList = a2.toList then (lease_Judge.j2 kj14 a2 a4 (wrap64 (a3 - x116002_6)) 0 false x116000_6 x116001_6 x116002_6 x116003_6 a5_0 a5_1 a5_2 a5_3 a5_4 a5_5 a5_6 a5_7 a5_8 a5_9 a5_10 a5_11 a5_12 a5_13 a5_14 a5_15 a5_16 a5_17 a5_18 a5_19) else (lease_Judge.j2 kj14 a2 a4 (wrap64 (a3 - x116002_6)) 0 (decide ((wrap64 (a3 - x116002_6)) ≥ a5_2)) x116000_6 x116001_6 x116002_6 x116003_6 a5_0 a5_1 a5_2 a5_3 a5_4 a5_5 a5_6 a5_7 a5_8 a5_9 a5_10 a5_11 a5_12 a5_13 a5_14 a5_15 a5_16 a5_17 a5_18 a5_19))) = some r := by rw [if_neg (show ¬ (false = true) by decide)] at H; exact H
            clear H
            have H := H1
            clear H1
            have HC32 := Aside0.mk H
            clear H
            have hnb33 := NB115_116.out
            have hnc33 := NB116_115.out
            have hcz34_0 : wc.cell? ⟨gb115, 0, none⟩ = some (.string x116000_6) := (blk_cell BK115.out 0).trans rfl
            have hcz34_1 : wc.cell? ⟨gb115, 1, none⟩ = some (.int .i64 x116001_6) := (blk_cell BK115.out 1).trans rfl
            have hcz34_2 : wc.cell? ⟨gb115, 2, none⟩ = some (.int .i64 x116002_6) := (blk_cell BK115.out 2).trans rfl
            have hcz34_3 : wc.cell? ⟨gb115, 3, none⟩ = some (.bool x116003_6) := (blk_cell BK115.out 3).trans rfl
            have hfz34_0 := blk_frozen BK115.out 0
            have hfz34_1 := blk_frozen BK115.out 1
            have hfz34_2 := blk_frozen BK115.out 2
            have hfz34_3 := blk_frozen BK115.out 3
            go_upto_region 7 with (fail)
            go_cut [41] (fun v41 wc => ∃ (kq : Nat) (x41_31 : Bool), v41 = .bool x41_31 ∧ Aside0 (lease_Judge.j2 kq a2 a4 (wrap64 (a3 - x116002_6)) 0 x41_31 x116000_6 x116001_6 x116002_6 x116003_6 a5_0 a5_1 a5_2 a5_3 a5_4 a5_5 a5_6 a5_7 a5_8 a5_9 a5_10 a5_11 a5_12 a5_13 a5_14 a5_15 a5_16 a5_17 a5_18 a5_19 = some r) ∧ Aside0 (kq ≤ kj14) ∧ Aside0 (wc.heap[gb115]? = some (.cells #[.string x116000_6, .int .i64 x116001_6, .int .i64 x116002_6, .bool x116003_6] 23 (0, 0))) ∧ Aside0 (wc.heap[gb116]? = some (.cells (cells24 a5_0 a5_1 a5_2 a5_3 a5_4 a5_5 a5_6 a5_7 a5_8 a5_9 a5_10 a5_11 a5_12 a5_13 a5_14 a5_15 a5_16 a5_17 a5_18 a5_19) 25 (0, 0))) ∧ Aside0 (Below w.heap.size w wc))
            case first =>
              have H := HC32.out
              clear HC32
              by_cases c35 : x116003_6 = true
              · subst c35
                have H1 : (lease_Judge.j2 kj14 a2 a4 (wrap64 (a3 - x116002_6)) 0 true x116000_6 x116001_6 x116002_6 true a5_0 a5_1 a5_2 a5_3 a5_4 a5_5 a5_6 a5_7 a5_8 a5_9 a5_10 a5_11 a5_12 a5_13 a5_14 a5_15 a5_16 a5_17 a5_18 a5_19) = some r := by rw [if_pos rfl] at H; exact H
                clear H
                have H := H1
                clear H1
                have H' := Aside0.mk H
                clear H
                have hnb36 := NB115_116.out
                have hnc36 := NB116_115.out
                have hcz37_0 : wc.cell? ⟨gb115, 0, none⟩ = some (.string x116000_6) := (blk_cell BK115.out 0).trans rfl
                have hcz37_1 : wc.cell? ⟨gb115, 1, none⟩ = some (.int .i64 x116001_6) := (blk_cell BK115.out 1).trans rfl
                have hcz37_2 : wc.cell? ⟨gb115, 2, none⟩ = some (.int .i64 x116002_6) := (blk_cell BK115.out 2).trans rfl
                have hcz37_3 : wc.cell? ⟨gb115, 3, none⟩ = some (.bool true) := (blk_cell BK115.out 3).trans rfl
                have hfz37_0 := blk_frozen BK115.out 0
                have hfz37_1 := blk_frozen BK115.out 1
                have hfz37_2 := blk_frozen BK115.out 2
                have hfz37_3 := blk_frozen BK115.out 3
                go_wp2
                go_meet
                case rel => exact ⟨_, (true), (by first | rfl | (simp; done) | (simp [*]; done) | (simp [wrap64, wrap32]; done)), H', ⟨by have := HJ6.out; have := HJ14.out; first | omega | exact Nat.le_refl _⟩, ⟨by (with_reducible repeat (first | refine blk_drewN ?_ _ | refine blk_drew ?_ | refine blk_alloc ?_ _)); exact BK115.out⟩, ⟨by (with_reducible repeat (first | refine blk_drewN ?_ _ | refine blk_drew ?_ | refine blk_alloc ?_ _)); exact BK116.out⟩, ⟨by repeat (first | (with_reducible first | exact HB.out | apply below_alloc | apply pw_below_drewN | apply below_drew1 | refine below_set ?_ GE115.out | refine below_setRow ?_ GE115.out _ | refine below_set ?_ GE116.out | refine below_setRow ?_ GE116.out _) | exact HB.out)⟩⟩
              · replace c35 := Bool.eq_false_iff.mpr c35
                subst c35
                have H1 : (if x116000_6.toList = a2.toList then (lease_Judge.j2 kj14 a2 a4 (wrap64 (a3 - x116002_6)) 0 false x116000_6 x116001_6 x116002_6 false a5_0 a5_1 a5_2 a5_3 a5_4 a5_5 a5_6 a5_7 a5_8 a5_9 a5_10 a5_11 a5_12 a5_13 a5_14 a5_15 a5_16 a5_17 a5_18 a5_19) else (lease_Judge.j2 kj14 a2 a4 (wrap64 (a3 - x116002_6)) 0 (decide ((wrap64 (a3 - x116002_6)) ≥ a5_2)) x116000_6 x116001_6 x116002_6 false a5_0 a5_1 a5_2 a5_3 a5_4 a5_5 a5_6 a5_7 a5_8 a5_9 a5_10 a5_11 a5_12 a5_13 a5_14 a5_15 a5_16 a5_17 a5_18 a5_19)) = some r := by rw [if_neg (show ¬ (false = true) by decide)] at H; exact H
                clear H
                have H := H1
                clear H1
                by_cases c38 : x116000_6.toList = a2.toList
                · rw [if_pos c38] at H
                  have c38b0 : (x116000_6.toList == a2.toList) = true := beq_iff_eq.mpr c38
                  have c38b1 : (x116000_6.toList != a2.toList) = false := bne_eq_false_iff_eq.mpr c38
                  clear c38
                  (first | rw [c38b0] | (simp only [i64_w, i32_w]; rw [c38b0]) | skip)
                  have H' := Aside0.mk H
                  clear H
                  have hnb39 := NB115_116.out
                  have hnc39 := NB116_115.out
                  have hcz40_0 : wc.cell? ⟨gb115, 0, none⟩ = some (.string x116000_6) := (blk_cell BK115.out 0).trans rfl
                  have hcz40_1 : wc.cell? ⟨gb115, 1, none⟩ = some (.int .i64 x116001_6) := (blk_cell BK115.out 1).trans rfl
                  have hcz40_2 : wc.cell? ⟨gb115, 2, none⟩ = some (.int .i64 x116002_6) := (blk_cell BK115.out 2).trans rfl
                  have hcz40_3 : wc.cell? ⟨gb115, 3, none⟩ = some (.bool false) := (blk_cell BK115.out 3).trans rfl
                  have hfz40_0 := blk_frozen BK115.out 0
                  have hfz40_1 := blk_frozen BK115.out 1
                  have hfz40_2 := blk_frozen BK115.out 2
                  have hfz40_3 := blk_frozen BK115.out 3
                  go_wp2
                  go_meet
                  case rel => exact ⟨_, (false), (by first | rfl | (simp; done) | (simp [*]; done) | (simp [wrap64, wrap32]; done)), H', ⟨by have := HJ6.out; have := HJ14.out; first | omega | exact Nat.le_refl _⟩, ⟨by (with_reducible repeat (first | refine blk_drewN ?_ _ | refine blk_drew ?_ | refine blk_alloc ?_ _)); exact BK115.out⟩, ⟨by (with_reducible repeat (first | refine blk_drewN ?_ _ | refine blk_drew ?_ | refine blk_alloc ?_ _)); exact BK116.out⟩, ⟨by repeat (first | (with_reducible first | exact HB.out | apply below_alloc | apply pw_below_drewN | apply below_drew1 | refine below_set ?_ GE115.out | refine below_setRow ?_ GE115.out _ | refine below_set ?_ GE116.out | refine below_setRow ?_ GE116.out _) | exact HB.out)⟩⟩
                · rw [if_neg c38] at H
                  have c38b0 : (x116000_6.toList == a2.toList) = false := beq_eq_false_iff_ne.mpr c38
                  have c38b1 : (x116000_6.toList != a2.toList) = true := bne_iff_ne.mpr c38
                  (first | rw [c38b0] | (simp only [i64_w, i32_w]; rw [c38b0]) | skip)
                  have H' := Aside0.mk H
                  clear H
                  have hnb41 := NB115_116.out
                  have hnc41 := NB116_115.out
                  have hcz42_0 : wc.cell? ⟨gb115, 0, none⟩ = some (.string x116000_6) := (blk_cell BK115.out 0).trans rfl
                  have hcz42_1 : wc.cell? ⟨gb115, 1, none⟩ = some (.int .i64 x116001_6) := (blk_cell BK115.out 1).trans rfl
                  have hcz42_2 : wc.cell? ⟨gb115, 2, none⟩ = some (.int .i64 x116002_6) := (blk_cell BK115.out 2).trans rfl
                  have hcz42_3 : wc.cell? ⟨gb115, 3, none⟩ = some (.bool false) := (blk_cell BK115.out 3).trans rfl
                  have hfz42_0 := blk_frozen BK115.out 0
                  have hfz42_1 := blk_frozen BK115.out 1
                  have hfz42_2 := blk_frozen BK115.out 2
                  have hfz42_3 := blk_frozen BK115.out 3
                  have hcz43_0 : wc.cell? ⟨gb116, 0, none⟩ = some (.int .i64 a5_0) := (blk_cell BK116.out 0).trans rfl
                  have hcz43_1 : wc.cell? ⟨gb116, 1, none⟩ = some (.int .i64 a5_1) := (blk_cell BK116.out 1).trans rfl
                  have hcz43_2 : wc.cell? ⟨gb116, 2, none⟩ = some (.int .i64 a5_2) := (blk_cell BK116.out 2).trans rfl
                  have hcz43_3 : wc.cell? ⟨gb116, 3, none⟩ = some (.int .i64 a5_3) := (blk_cell BK116.out 3).trans rfl
                  have hcz43_4 : wc.cell? ⟨gb116, 4, none⟩ = some (.int .i64 a5_4) := (blk_cell BK116.out 4).trans rfl
                  have hcz43_5 : wc.cell? ⟨gb116, 5, none⟩ = some (.int .i64 a5_5) := (blk_cell BK116.out 5).trans rfl
                  have hcz43_6 : wc.cell? ⟨gb116, 6, none⟩ = some (.int .i64 a5_6) := (blk_cell BK116.out 6).trans rfl
                  have hcz43_7 : wc.cell? ⟨gb116, 7, none⟩ = some (.int .i64 a5_7) := (blk_cell BK116.out 7).trans rfl
                  have hcz43_8 : wc.cell? ⟨gb116, 8, none⟩ = some (.int .i64 a5_8) := (blk_cell BK116.out 8).trans rfl
                  have hcz43_9 : wc.cell? ⟨gb116, 9, none⟩ = some (.int .i64 a5_9) := (blk_cell BK116.out 9).trans rfl
                  have hcz43_10 : wc.cell? ⟨gb116, 10, none⟩ = some (.int .i64 a5_10) := (blk_cell BK116.out 10).trans rfl
                  have hcz43_11 : wc.cell? ⟨gb116, 11, none⟩ = some (.int .i64 a5_11) := (blk_cell BK116.out 11).trans rfl
                  have hcz43_12 : wc.cell? ⟨gb116, 12, none⟩ = some (.int .i64 a5_12) := (blk_cell BK116.out 12).trans rfl
                  have hcz43_13 : wc.cell? ⟨gb116, 13, none⟩ = some (.int .i64 a5_13) := (blk_cell BK116.out 13).trans rfl
                  have hcz43_14 : wc.cell? ⟨gb116, 14, none⟩ = some (.int .i64 a5_14) := (blk_cell BK116.out 14).trans rfl
                  have hcz43_15 : wc.cell? ⟨gb116, 15, none⟩ = some (.int .i64 a5_15) := (blk_cell BK116.out 15).trans rfl
                  have hcz43_16 : wc.cell? ⟨gb116, 16, none⟩ = some (.int .i64 a5_16) := (blk_cell BK116.out 16).trans rfl
                  have hcz43_17 : wc.cell? ⟨gb116, 17, none⟩ = some (.int .i64 a5_17) := (blk_cell BK116.out 17).trans rfl
                  have hcz43_18 : wc.cell? ⟨gb116, 18, none⟩ = some (.string a5_18) := (blk_cell BK116.out 18).trans rfl
                  have hcz43_19 : wc.cell? ⟨gb116, 19, none⟩ = some (.string a5_19) := (blk_cell BK116.out 19).trans rfl
                  have hfz43_0 := blk_frozen BK116.out 0
                  have hfz43_1 := blk_frozen BK116.out 1
                  have hfz43_2 := blk_frozen BK116.out 2
                  have hfz43_3 := blk_frozen BK116.out 3
                  have hfz43_4 := blk_frozen BK116.out 4
                  have hfz43_5 := blk_frozen BK116.out 5
                  have hfz43_6 := blk_frozen BK116.out 6
                  have hfz43_7 := blk_frozen BK116.out 7
                  have hfz43_8 := blk_frozen BK116.out 8
                  have hfz43_9 := blk_frozen BK116.out 9
                  have hfz43_10 := blk_frozen BK116.out 10
                  have hfz43_11 := blk_frozen BK116.out 11
                  have hfz43_12 := blk_frozen BK116.out 12
                  have hfz43_13 := blk_frozen BK116.out 13
                  have hfz43_14 := blk_frozen BK116.out 14
                  have hfz43_15 := blk_frozen BK116.out 15
                  have hfz43_16 := blk_frozen BK116.out 16
                  have hfz43_17 := blk_frozen BK116.out 17
                  have hfz43_18 := blk_frozen BK116.out 18
                  have hfz43_19 := blk_frozen BK116.out 19
                  go_wp2
                  go_meet
                  case rel => exact ⟨_, (decide ((wrap64 (a3 - x116002_6)) ≥ a5_2)), (by first | rfl | (simp; done) | (simp [*]; done) | (simp [wrap64, wrap32]; done)), H', ⟨by have := HJ6.out; have := HJ14.out; first | omega | exact Nat.le_refl _⟩, ⟨by (with_reducible repeat (first | refine blk_drewN ?_ _ | refine blk_drew ?_ | refine blk_alloc ?_ _)); exact BK115.out⟩, ⟨by (with_reducible repeat (first | refine blk_drewN ?_ _ | refine blk_drew ?_ | refine blk_alloc ?_ _)); exact BK116.out⟩, ⟨by repeat (first | (with_reducible first | exact HB.out | apply below_alloc | apply pw_below_drewN | apply below_drew1 | refine below_set ?_ GE115.out | refine below_setRow ?_ GE115.out _ | refine below_set ?_ GE116.out | refine below_setRow ?_ GE116.out _) | exact HB.out)⟩⟩
            case rest =>
              clear HC32
              try clear c1
              try clear c2
              try clear p2
              try clear c3
              try clear c4
              try clear p6
              try clear c10
              try clear c13
              try clear c17
              try clear c19
              try clear c21
              try clear c26
              try clear c27
              try clear c31
              try clear c33
              try clear c35
              try clear c36
              try clear c38
              try clear c38b0
              try clear c38b1
              try clear c39
              try clear c41
              try clear hcz14_0
              try clear hcz14_1
              try clear hcz14_2
              try clear hcz14_3
              try clear hcz22_0
              try clear hcz22_1
              try clear hcz22_2
              try clear hcz22_3
              try clear hcz23_0
              try clear hcz23_1
              try clear hcz23_10
              try clear hcz23_11
              try clear hcz23_12
              try clear hcz23_13
              try clear hcz23_14
              try clear hcz23_15
              try clear hcz23_16
              try clear hcz23_17
              try clear hcz23_18
              try clear hcz23_19
              try clear hcz23_2
              try clear hcz23_3
              try clear hcz23_4
              try clear hcz23_5
              try clear hcz23_6
              try clear hcz23_7
              try clear hcz23_8
              try clear hcz23_9
              try clear hcz25_0
              try clear hcz25_1
              try clear hcz25_10
              try clear hcz25_11
              try clear hcz25_12
              try clear hcz25_13
              try clear hcz25_14
              try clear hcz25_15
              try clear hcz25_16
              try clear hcz25_17
              try clear hcz25_18
              try clear hcz25_19
              try clear hcz25_2
              try clear hcz25_3
              try clear hcz25_4
              try clear hcz25_5
              try clear hcz25_6
              try clear hcz25_7
              try clear hcz25_8
              try clear hcz25_9
              try clear hcz28_0
              try clear hcz28_1
              try clear hcz28_2
              try clear hcz28_3
              try clear hcz29_0
              try clear hcz29_1
              try clear hcz29_10
              try clear hcz29_11
              try clear hcz29_12
              try clear hcz29_13
              try clear hcz29_14
              try clear hcz29_15
              try clear hcz29_16
              try clear hcz29_17
              try clear hcz29_18
              try clear hcz29_19
              try clear hcz29_2
              try clear hcz29_3
              try clear hcz29_4
              try clear hcz29_5
              try clear hcz29_6
              try clear hcz29_7
              try clear hcz29_8
              try clear hcz29_9
              try clear hcz34_0
              try clear hcz34_1
              try clear hcz34_2
              try clear hcz34_3
              try clear hcz37_0
              try clear hcz37_1
              try clear hcz37_2
              try clear hcz37_3
              try clear hcz40_0
              try clear hcz40_1
              try clear hcz40_2
              try clear hcz40_3
              try clear hcz42_0
              try clear hcz42_1
              try clear hcz42_2
              try clear hcz42_3
              try clear hcz43_0
              try clear hcz43_1
              try clear hcz43_10
              try clear hcz43_11
              try clear hcz43_12
              try clear hcz43_13
              try clear hcz43_14
              try clear hcz43_15
              try clear hcz43_16
              try clear hcz43_17
              try clear hcz43_18
              try clear hcz43_19
              try clear hcz43_2
              try clear hcz43_3
              try clear hcz43_4
              try clear hcz43_5
              try clear hcz43_6
              try clear hcz43_7
              try clear hcz43_8
              try clear hcz43_9
              try clear hfz14_0
              try clear hfz14_1
              try clear hfz14_2
              try clear hfz14_3
              try clear hfz22_0
              try clear hfz22_1
              try clear hfz22_2
              try clear hfz22_3
              try clear hfz23_0
              try clear hfz23_1
              try clear hfz23_10
              try clear hfz23_11
              try clear hfz23_12
              try clear hfz23_13
              try clear hfz23_14
              try clear hfz23_15
              try clear hfz23_16
              try clear hfz23_17
              try clear hfz23_18
              try clear hfz23_19
              try clear hfz23_2
              try clear hfz23_3
              try clear hfz23_4
              try clear hfz23_5
              try clear hfz23_6
              try clear hfz23_7
              try clear hfz23_8
              try clear hfz23_9
              try clear hfz25_0
              try clear hfz25_1
              try clear hfz25_10
              try clear hfz25_11
              try clear hfz25_12
              try clear hfz25_13
              try clear hfz25_14
              try clear hfz25_15
              try clear hfz25_16
              try clear hfz25_17
              try clear hfz25_18
              try clear hfz25_19
              try clear hfz25_2
              try clear hfz25_3
              try clear hfz25_4
              try clear hfz25_5
              try clear hfz25_6
              try clear hfz25_7
              try clear hfz25_8
              try clear hfz25_9
              try clear hfz28_0
              try clear hfz28_1
              try clear hfz28_2
              try clear hfz28_3
              try clear hfz29_0
              try clear hfz29_1
              try clear hfz29_10
              try clear hfz29_11
              try clear hfz29_12
              try clear hfz29_13
              try clear hfz29_14
              try clear hfz29_15
              try clear hfz29_16
              try clear hfz29_17
              try clear hfz29_18
              try clear hfz29_19
              try clear hfz29_2
              try clear hfz29_3
              try clear hfz29_4
              try clear hfz29_5
              try clear hfz29_6
              try clear hfz29_7
              try clear hfz29_8
              try clear hfz29_9
              try clear hfz34_0
              try clear hfz34_1
              try clear hfz34_2
              try clear hfz34_3
              try clear hfz37_0
              try clear hfz37_1
              try clear hfz37_2
              try clear hfz37_3
              try clear hfz40_0
              try clear hfz40_1
              try clear hfz40_2
              try clear hfz40_3
              try clear hfz42_0
              try clear hfz42_1
              try clear hfz42_2
              try clear hfz42_3
              try clear hfz43_0
              try clear hfz43_1
              try clear hfz43_10
              try clear hfz43_11
              try clear hfz43_12
              try clear hfz43_13
              try clear hfz43_14
              try clear hfz43_15
              try clear hfz43_16
              try clear hfz43_17
              try clear hfz43_18
              try clear hfz43_19
              try clear hfz43_2
              try clear hfz43_3
              try clear hfz43_4
              try clear hfz43_5
              try clear hfz43_6
              try clear hfz43_7
              try clear hfz43_8
              try clear hfz43_9
              try clear p2
              obtain ⟨kq, x41_31, rfl, HA, HJ31, BK115, BK116, HB⟩ := hcut
              cases kq with
              | zero => exact absurd HA.out (by simp [lease_Judge.j2])
              | succ kj31 =>
                have H := HA.out
                clear HA
                simp only [lease_Judge.j2] at H
                by_cases c44 : x41_31 = true
                · subst c44
                  have H1 : (some 1) = some r := by rw [if_pos rfl] at H; exact H
                  clear H
                  have H := H1
                  clear H1
                  obtain rfl := Option.some.inj H
                  go_wp2
                  go_ret
                  exact ⟨by first | rfl | (simp [errW_none, errW_some] <;> rfl) | (simp [*, errW_none, errW_some] <;> rfl), by repeat (first | (with_reducible first | exact HB.out | apply below_alloc | apply pw_below_drewN | apply below_drew1 | refine below_set ?_ GE115.out | refine below_setRow ?_ GE115.out _ | refine below_set ?_ GE116.out | refine below_setRow ?_ GE116.out _) | exact HB.out)⟩
                · replace c44 := Bool.eq_false_iff.mpr c44
                  subst c44
                  have H1 : (if x116000_6.toList = a2.toList then (if (wrap64 (a3 - x116002_6)) ≥ a5_1 then (some ((((((0 + 1) % 256) + 1) % 256) + 2) % 256)) else (if (wrap64 (a3 - x116002_6)) ≥ (wrap64 (a5_3 + a4)) then (some ((((0 + 1) % 256) + 2) % 256)) else (some ((0 + 2) % 256)))) else (some 5)) = some r := by rw [if_neg (show ¬ (false = true) by decide)] at H; exact H
                  clear H
                  have H := H1
                  clear H1
                  by_cases c45 : x116000_6.toList = a2.toList
                  · rw [if_pos c45] at H
                    have c45b0 : (x116000_6.toList == a2.toList) = true := beq_iff_eq.mpr c45
                    have c45b1 : (x116000_6.toList != a2.toList) = false := bne_eq_false_iff_eq.mpr c45
                    clear c45
                    by_cases c46 : (wrap64 (a3 - x116002_6)) ≥ a5_1
                    · rw [if_pos c46] at H
                      have c46b0 : decide (a5_1 ≤ (wrap64 (a3 - x116002_6))) = true := decide_eq_true c46
                      clear c46
                      obtain rfl := Option.some.inj H
                      have hnb47 := NB115_116.out
                      have hnc47 := NB116_115.out
                      have hcz48_0 : wc.cell? ⟨gb115, 0, none⟩ = some (.string x116000_6) := (blk_cell BK115.out 0).trans rfl
                      have hcz48_1 : wc.cell? ⟨gb115, 1, none⟩ = some (.int .i64 x116001_6) := (blk_cell BK115.out 1).trans rfl
                      have hcz48_2 : wc.cell? ⟨gb115, 2, none⟩ = some (.int .i64 x116002_6) := (blk_cell BK115.out 2).trans rfl
                      have hcz48_3 : wc.cell? ⟨gb115, 3, none⟩ = some (.bool x116003_6) := (blk_cell BK115.out 3).trans rfl
                      have hfz48_0 := blk_frozen BK115.out 0
                      have hfz48_1 := blk_frozen BK115.out 1
                      have hfz48_2 := blk_frozen BK115.out 2
                      have hfz48_3 := blk_frozen BK115.out 3
                      have hcz49_0 : wc.cell? ⟨gb116, 0, none⟩ = some (.int .i64 a5_0) := (blk_cell BK116.out 0).trans rfl
                      have hcz49_1 : wc.cell? ⟨gb116, 1, none⟩ = some (.int .i64 a5_1) := (blk_cell BK116.out 1).trans rfl
                      have hcz49_2 : wc.cell? ⟨gb116, 2, none⟩ = some (.int .i64 a5_2) := (blk_cell BK116.out 2).trans rfl
                      have hcz49_3 : wc.cell? ⟨gb116, 3, none⟩ = some (.int .i64 a5_3) := (blk_cell BK116.out 3).trans rfl
                      have hcz49_4 : wc.cell? ⟨gb116, 4, none⟩ = some (.int .i64 a5_4) := (blk_cell BK116.out 4).trans rfl
                      have hcz49_5 : wc.cell? ⟨gb116, 5, none⟩ = some (.int .i64 a5_5) := (blk_cell BK116.out 5).trans rfl
                      have hcz49_6 : wc.cell? ⟨gb116, 6, none⟩ = some (.int .i64 a5_6) := (blk_cell BK116.out 6).trans rfl
                      have hcz49_7 : wc.cell? ⟨gb116, 7, none⟩ = some (.int .i64 a5_7) := (blk_cell BK116.out 7).trans rfl
                      have hcz49_8 : wc.cell? ⟨gb116, 8, none⟩ = some (.int .i64 a5_8) := (blk_cell BK116.out 8).trans rfl
                      have hcz49_9 : wc.cell? ⟨gb116, 9, none⟩ = some (.int .i64 a5_9) := (blk_cell BK116.out 9).trans rfl
                      have hcz49_10 : wc.cell? ⟨gb116, 10, none⟩ = some (.int .i64 a5_10) := (blk_cell BK116.out 10).trans rfl
                      have hcz49_11 : wc.cell? ⟨gb116, 11, none⟩ = some (.int .i64 a5_11) := (blk_cell BK116.out 11).trans rfl
                      have hcz49_12 : wc.cell? ⟨gb116, 12, none⟩ = some (.int .i64 a5_12) := (blk_cell BK116.out 12).trans rfl
                      have hcz49_13 : wc.cell? ⟨gb116, 13, none⟩ = some (.int .i64 a5_13) := (blk_cell BK116.out 13).trans rfl
                      have hcz49_14 : wc.cell? ⟨gb116, 14, none⟩ = some (.int .i64 a5_14) := (blk_cell BK116.out 14).trans rfl
                      have hcz49_15 : wc.cell? ⟨gb116, 15, none⟩ = some (.int .i64 a5_15) := (blk_cell BK116.out 15).trans rfl
                      have hcz49_16 : wc.cell? ⟨gb116, 16, none⟩ = some (.int .i64 a5_16) := (blk_cell BK116.out 16).trans rfl
                      have hcz49_17 : wc.cell? ⟨gb116, 17, none⟩ = some (.int .i64 a5_17) := (blk_cell BK116.out 17).trans rfl
                      have hcz49_18 : wc.cell? ⟨gb116, 18, none⟩ = some (.string a5_18) := (blk_cell BK116.out 18).trans rfl
                      have hcz49_19 : wc.cell? ⟨gb116, 19, none⟩ = some (.string a5_19) := (blk_cell BK116.out 19).trans rfl
                      have hfz49_0 := blk_frozen BK116.out 0
                      have hfz49_1 := blk_frozen BK116.out 1
                      have hfz49_2 := blk_frozen BK116.out 2
                      have hfz49_3 := blk_frozen BK116.out 3
                      have hfz49_4 := blk_frozen BK116.out 4
                      have hfz49_5 := blk_frozen BK116.out 5
                      have hfz49_6 := blk_frozen BK116.out 6
                      have hfz49_7 := blk_frozen BK116.out 7
                      have hfz49_8 := blk_frozen BK116.out 8
                      have hfz49_9 := blk_frozen BK116.out 9
                      have hfz49_10 := blk_frozen BK116.out 10
                      have hfz49_11 := blk_frozen BK116.out 11
                      have hfz49_12 := blk_frozen BK116.out 12
                      have hfz49_13 := blk_frozen BK116.out 13
                      have hfz49_14 := blk_frozen BK116.out 14
                      have hfz49_15 := blk_frozen BK116.out 15
                      have hfz49_16 := blk_frozen BK116.out 16
                      have hfz49_17 := blk_frozen BK116.out 17
                      have hfz49_18 := blk_frozen BK116.out 18
                      have hfz49_19 := blk_frozen BK116.out 19
                      go_wp2
                      go_ret
                      exact ⟨by first | rfl | (simp [errW_none, errW_some] <;> rfl) | (simp [*, errW_none, errW_some] <;> rfl), by repeat (first | (with_reducible first | exact HB.out | apply below_alloc | apply pw_below_drewN | apply below_drew1 | refine below_set ?_ GE115.out | refine below_setRow ?_ GE115.out _ | refine below_set ?_ GE116.out | refine below_setRow ?_ GE116.out _) | exact HB.out)⟩
                    · rw [if_neg c46] at H
                      have c46b0 : decide (a5_1 ≤ (wrap64 (a3 - x116002_6))) = false := decide_eq_false c46
                      clear c46
                      by_cases c50 : (wrap64 (a3 - x116002_6)) ≥ (wrap64 (a5_3 + a4))
                      · rw [if_pos c50] at H
                        have c50b0 : decide ((wrap64 (a5_3 + a4)) ≤ (wrap64 (a3 - x116002_6))) = true := decide_eq_true c50
                        clear c50
                        obtain rfl := Option.some.inj H
                        have hnb51 := NB115_116.out
                        have hnc51 := NB116_115.out
                        have hcz52_0 : wc.cell? ⟨gb115, 0, none⟩ = some (.string x116000_6) := (blk_cell BK115.out 0).trans rfl
                        have hcz52_1 : wc.cell? ⟨gb115, 1, none⟩ = some (.int .i64 x116001_6) := (blk_cell BK115.out 1).trans rfl
                        have hcz52_2 : wc.cell? ⟨gb115, 2, none⟩ = some (.int .i64 x116002_6) := (blk_cell BK115.out 2).trans rfl
                        have hcz52_3 : wc.cell? ⟨gb115, 3, none⟩ = some (.bool x116003_6) := (blk_cell BK115.out 3).trans rfl
                        have hfz52_0 := blk_frozen BK115.out 0
                        have hfz52_1 := blk_frozen BK115.out 1
                        have hfz52_2 := blk_frozen BK115.out 2
                        have hfz52_3 := blk_frozen BK115.out 3
                        have hcz53_0 : wc.cell? ⟨gb116, 0, none⟩ = some (.int .i64 a5_0) := (blk_cell BK116.out 0).trans rfl
                        have hcz53_1 : wc.cell? ⟨gb116, 1, none⟩ = some (.int .i64 a5_1) := (blk_cell BK116.out 1).trans rfl
                        have hcz53_2 : wc.cell? ⟨gb116, 2, none⟩ = some (.int .i64 a5_2) := (blk_cell BK116.out 2).trans rfl
                        have hcz53_3 : wc.cell? ⟨gb116, 3, none⟩ = some (.int .i64 a5_3) := (blk_cell BK116.out 3).trans rfl
                        have hcz53_4 : wc.cell? ⟨gb116, 4, none⟩ = some (.int .i64 a5_4) := (blk_cell BK116.out 4).trans rfl
                        have hcz53_5 : wc.cell? ⟨gb116, 5, none⟩ = some (.int .i64 a5_5) := (blk_cell BK116.out 5).trans rfl
                        have hcz53_6 : wc.cell? ⟨gb116, 6, none⟩ = some (.int .i64 a5_6) := (blk_cell BK116.out 6).trans rfl
                        have hcz53_7 : wc.cell? ⟨gb116, 7, none⟩ = some (.int .i64 a5_7) := (blk_cell BK116.out 7).trans rfl
                        have hcz53_8 : wc.cell? ⟨gb116, 8, none⟩ = some (.int .i64 a5_8) := (blk_cell BK116.out 8).trans rfl
                        have hcz53_9 : wc.cell? ⟨gb116, 9, none⟩ = some (.int .i64 a5_9) := (blk_cell BK116.out 9).trans rfl
                        have hcz53_10 : wc.cell? ⟨gb116, 10, none⟩ = some (.int .i64 a5_10) := (blk_cell BK116.out 10).trans rfl
                        have hcz53_11 : wc.cell? ⟨gb116, 11, none⟩ = some (.int .i64 a5_11) := (blk_cell BK116.out 11).trans rfl
                        have hcz53_12 : wc.cell? ⟨gb116, 12, none⟩ = some (.int .i64 a5_12) := (blk_cell BK116.out 12).trans rfl
                        have hcz53_13 : wc.cell? ⟨gb116, 13, none⟩ = some (.int .i64 a5_13) := (blk_cell BK116.out 13).trans rfl
                        have hcz53_14 : wc.cell? ⟨gb116, 14, none⟩ = some (.int .i64 a5_14) := (blk_cell BK116.out 14).trans rfl
                        have hcz53_15 : wc.cell? ⟨gb116, 15, none⟩ = some (.int .i64 a5_15) := (blk_cell BK116.out 15).trans rfl
                        have hcz53_16 : wc.cell? ⟨gb116, 16, none⟩ = some (.int .i64 a5_16) := (blk_cell BK116.out 16).trans rfl
                        have hcz53_17 : wc.cell? ⟨gb116, 17, none⟩ = some (.int .i64 a5_17) := (blk_cell BK116.out 17).trans rfl
                        have hcz53_18 : wc.cell? ⟨gb116, 18, none⟩ = some (.string a5_18) := (blk_cell BK116.out 18).trans rfl
                        have hcz53_19 : wc.cell? ⟨gb116, 19, none⟩ = some (.string a5_19) := (blk_cell BK116.out 19).trans rfl
                        have hfz53_0 := blk_frozen BK116.out 0
                        have hfz53_1 := blk_frozen BK116.out 1
                        have hfz53_2 := blk_frozen BK116.out 2
                        have hfz53_3 := blk_frozen BK116.out 3
                        have hfz53_4 := blk_frozen BK116.out 4
                        have hfz53_5 := blk_frozen BK116.out 5
                        have hfz53_6 := blk_frozen BK116.out 6
                        have hfz53_7 := blk_frozen BK116.out 7
                        have hfz53_8 := blk_frozen BK116.out 8
                        have hfz53_9 := blk_frozen BK116.out 9
                        have hfz53_10 := blk_frozen BK116.out 10
                        have hfz53_11 := blk_frozen BK116.out 11
                        have hfz53_12 := blk_frozen BK116.out 12
                        have hfz53_13 := blk_frozen BK116.out 13
                        have hfz53_14 := blk_frozen BK116.out 14
                        have hfz53_15 := blk_frozen BK116.out 15
                        have hfz53_16 := blk_frozen BK116.out 16
                        have hfz53_17 := blk_frozen BK116.out 17
                        have hfz53_18 := blk_frozen BK116.out 18
                        have hfz53_19 := blk_frozen BK116.out 19
                        go_wp2
                        go_ret
                        exact ⟨by first | rfl | (simp [errW_none, errW_some] <;> rfl) | (simp [*, errW_none, errW_some] <;> rfl), by repeat (first | (with_reducible first | exact HB.out | apply below_alloc | apply pw_below_drewN | apply below_drew1 | refine below_set ?_ GE115.out | refine below_setRow ?_ GE115.out _ | refine below_set ?_ GE116.out | refine below_setRow ?_ GE116.out _) | exact HB.out)⟩
                      · rw [if_neg c50] at H
                        have c50b0 : decide ((wrap64 (a5_3 + a4)) ≤ (wrap64 (a3 - x116002_6))) = false := decide_eq_false c50
                        clear c50
                        obtain rfl := Option.some.inj H
                        have hnb54 := NB115_116.out
                        have hnc54 := NB116_115.out
                        have hcz55_0 : wc.cell? ⟨gb115, 0, none⟩ = some (.string x116000_6) := (blk_cell BK115.out 0).trans rfl
                        have hcz55_1 : wc.cell? ⟨gb115, 1, none⟩ = some (.int .i64 x116001_6) := (blk_cell BK115.out 1).trans rfl
                        have hcz55_2 : wc.cell? ⟨gb115, 2, none⟩ = some (.int .i64 x116002_6) := (blk_cell BK115.out 2).trans rfl
                        have hcz55_3 : wc.cell? ⟨gb115, 3, none⟩ = some (.bool x116003_6) := (blk_cell BK115.out 3).trans rfl
                        have hfz55_0 := blk_frozen BK115.out 0
                        have hfz55_1 := blk_frozen BK115.out 1
                        have hfz55_2 := blk_frozen BK115.out 2
                        have hfz55_3 := blk_frozen BK115.out 3
                        have hcz56_0 : wc.cell? ⟨gb116, 0, none⟩ = some (.int .i64 a5_0) := (blk_cell BK116.out 0).trans rfl
                        have hcz56_1 : wc.cell? ⟨gb116, 1, none⟩ = some (.int .i64 a5_1) := (blk_cell BK116.out 1).trans rfl
                        have hcz56_2 : wc.cell? ⟨gb116, 2, none⟩ = some (.int .i64 a5_2) := (blk_cell BK116.out 2).trans rfl
                        have hcz56_3 : wc.cell? ⟨gb116, 3, none⟩ = some (.int .i64 a5_3) := (blk_cell BK116.out 3).trans rfl
                        have hcz56_4 : wc.cell? ⟨gb116, 4, none⟩ = some (.int .i64 a5_4) := (blk_cell BK116.out 4).trans rfl
                        have hcz56_5 : wc.cell? ⟨gb116, 5, none⟩ = some (.int .i64 a5_5) := (blk_cell BK116.out 5).trans rfl
                        have hcz56_6 : wc.cell? ⟨gb116, 6, none⟩ = some (.int .i64 a5_6) := (blk_cell BK116.out 6).trans rfl
                        have hcz56_7 : wc.cell? ⟨gb116, 7, none⟩ = some (.int .i64 a5_7) := (blk_cell BK116.out 7).trans rfl
                        have hcz56_8 : wc.cell? ⟨gb116, 8, none⟩ = some (.int .i64 a5_8) := (blk_cell BK116.out 8).trans rfl
                        have hcz56_9 : wc.cell? ⟨gb116, 9, none⟩ = some (.int .i64 a5_9) := (blk_cell BK116.out 9).trans rfl
                        have hcz56_10 : wc.cell? ⟨gb116, 10, none⟩ = some (.int .i64 a5_10) := (blk_cell BK116.out 10).trans rfl
                        have hcz56_11 : wc.cell? ⟨gb116, 11, none⟩ = some (.int .i64 a5_11) := (blk_cell BK116.out 11).trans rfl
                        have hcz56_12 : wc.cell? ⟨gb116, 12, none⟩ = some (.int .i64 a5_12) := (blk_cell BK116.out 12).trans rfl
                        have hcz56_13 : wc.cell? ⟨gb116, 13, none⟩ = some (.int .i64 a5_13) := (blk_cell BK116.out 13).trans rfl
                        have hcz56_14 : wc.cell? ⟨gb116, 14, none⟩ = some (.int .i64 a5_14) := (blk_cell BK116.out 14).trans rfl
                        have hcz56_15 : wc.cell? ⟨gb116, 15, none⟩ = some (.int .i64 a5_15) := (blk_cell BK116.out 15).trans rfl
                        have hcz56_16 : wc.cell? ⟨gb116, 16, none⟩ = some (.int .i64 a5_16) := (blk_cell BK116.out 16).trans rfl
                        have hcz56_17 : wc.cell? ⟨gb116, 17, none⟩ = some (.int .i64 a5_17) := (blk_cell BK116.out 17).trans rfl
                        have hcz56_18 : wc.cell? ⟨gb116, 18, none⟩ = some (.string a5_18) := (blk_cell BK116.out 18).trans rfl
                        have hcz56_19 : wc.cell? ⟨gb116, 19, none⟩ = some (.string a5_19) := (blk_cell BK116.out 19).trans rfl
                        have hfz56_0 := blk_frozen BK116.out 0
                        have hfz56_1 := blk_frozen BK116.out 1
                        have hfz56_2 := blk_frozen BK116.out 2
                        have hfz56_3 := blk_frozen BK116.out 3
                        have hfz56_4 := blk_frozen BK116.out 4
                        have hfz56_5 := blk_frozen BK116.out 5
                        have hfz56_6 := blk_frozen BK116.out 6
                        have hfz56_7 := blk_frozen BK116.out 7
                        have hfz56_8 := blk_frozen BK116.out 8
                        have hfz56_9 := blk_frozen BK116.out 9
                        have hfz56_10 := blk_frozen BK116.out 10
                        have hfz56_11 := blk_frozen BK116.out 11
                        have hfz56_12 := blk_frozen BK116.out 12
                        have hfz56_13 := blk_frozen BK116.out 13
                        have hfz56_14 := blk_frozen BK116.out 14
                        have hfz56_15 := blk_frozen BK116.out 15
                        have hfz56_16 := blk_frozen BK116.out 16
                        have hfz56_17 := blk_frozen BK116.out 17
                        have hfz56_18 := blk_frozen BK116.out 18
                        have hfz56_19 := blk_frozen BK116.out 19
                        go_wp2
                        go_ret
                        exact ⟨by first | rfl | (simp [errW_none, errW_some] <;> rfl) | (simp [*, errW_none, errW_some] <;> rfl), by repeat (first | (with_reducible first | exact HB.out | apply below_alloc | apply pw_below_drewN | apply below_drew1 | refine below_set ?_ GE115.out | refine below_setRow ?_ GE115.out _ | refine below_set ?_ GE116.out | refine below_setRow ?_ GE116.out _) | exact HB.out)⟩
                  · rw [if_neg c45] at H
                    have c45b0 : (x116000_6.toList == a2.toList) = false := beq_eq_false_iff_ne.mpr c45
                    have c45b1 : (x116000_6.toList != a2.toList) = true := bne_iff_ne.mpr c45
                    obtain rfl := Option.some.inj H
                    have hnb57 := NB115_116.out
                    have hnc57 := NB116_115.out
                    have hcz58_0 : wc.cell? ⟨gb115, 0, none⟩ = some (.string x116000_6) := (blk_cell BK115.out 0).trans rfl
                    have hcz58_1 : wc.cell? ⟨gb115, 1, none⟩ = some (.int .i64 x116001_6) := (blk_cell BK115.out 1).trans rfl
                    have hcz58_2 : wc.cell? ⟨gb115, 2, none⟩ = some (.int .i64 x116002_6) := (blk_cell BK115.out 2).trans rfl
                    have hcz58_3 : wc.cell? ⟨gb115, 3, none⟩ = some (.bool x116003_6) := (blk_cell BK115.out 3).trans rfl
                    have hfz58_0 := blk_frozen BK115.out 0
                    have hfz58_1 := blk_frozen BK115.out 1
                    have hfz58_2 := blk_frozen BK115.out 2
                    have hfz58_3 := blk_frozen BK115.out 3
                    go_wp2
                    go_ret
                    exact ⟨by first | rfl | (simp [errW_none, errW_some] <;> rfl) | (simp [*, errW_none, errW_some] <;> rfl), by repeat (first | (with_reducible first | exact HB.out | apply below_alloc | apply pw_below_drewN | apply below_drew1 | refine below_set ?_ GE115.out | refine below_setRow ?_ GE115.out _ | refine below_set ?_ GE116.out | refine below_setRow ?_ GE116.out _) | exact HB.out)⟩

end Go.Proofs.Ytijjdgmcjienlaa.Q
