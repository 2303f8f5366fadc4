/- Zt: texts of this claim, laid together. -/
import Derived.Test.YtagkobpbhfkmdaaZt11
import Derived.Test.YtagkobpbhfkmdaaZt12
import Derived.Test.YtagkobpbhfkmdaaZt13
import Derived.Test.YtagkobpbhfkmdaaZt15
import Derived.Test.YtagkobpbhfkmdaaZt16
import Derived.Test.YtagkobpbhfkmdaaZt17
/-! from SI -/
namespace Go.Proofs.Ytagkobpbhfkmdaa.C
open Go.RowKit Go.Proofs.Ytagkobpbhfkmdaa.Q Go.Proofs.YtagkobpbhfkmdaaW.PrintLast Go.Proofs.YtagkobpbhfkmdaaW.PrintWords
set_option linter.unusedVariables false
set_option linter.unusedSimpArgs false
abbrev Evn := S75
def sinceM (X : Tre) (fr : Int) : List Evn × Int :=
  if fr < 1 ∨ X.rev + 1 < fr then ([], 1) else if fr ≤ X.low then ([], 52) else (X.hap.filter (fun x => decide (fr ≤ x.f0)), 0)
theorem prefixNil_calls (w : World) : Calls Try.prog 51 #[.string (ByteArray.mk #[])] w fun e w' => e = .returned (.bool true) ∧ ∃ q, w' = w.drewN q := by
  have hc := fun w => keys_all.calls 1 (ByteArray.mk #[]) 1 64 true w (by decide +kernel)
  go_enter Try.func51, Try.ntmps51
  go_wp2_with fail
  refine (hc _).mono ?_
  rintro e w' ⟨rfl, h⟩
  obtain ⟨q, rfl⟩ := drawn_fr h
  go_wp2_with fail
  go_ret
  exact ⟨rfl, q, rfl⟩
theorem fil_take {l : List Evn} {p : Evn → Bool} {k : Nat} {o : Evn} (h : l[k]? = some o) : (l.take (k + 1)).filter p = (l.take k).filter p ++ (if p o = true then [o] else []) := by
  rw [List.take_add_one, h, List.filter_append]
  by_cases hp : p o = true
  · simp [hp]
  · simp [hp]
set_option maxHeartbeats 8000000 in
set_option maxRecDepth 100000 in
theorem since_calls (T : Nat) (X : Tre) (fr : Int) (w : World) (h : TR w T X) (hh : X.hap.length ≤ 100000000) (hr : 0 ≤ X.rev ∧ X.rev ≤ 1099511627776) :
    Calls Try.prog 26 #[.pointer (some ⟨T, 0, none⟩), .string (ByteArray.mk #[]), .int .i64 fr] w fun e w' => ∃ V, e = .returned (.tuple #[V, .int .i64 (sinceM X fr).2]) ∧ k75.R 75 w' w.heap.size (fun k => w.heap.size ≤ k) V (sinceM X fr).1 ∧ Below w.heap.size w w' := by
  obtain ⟨Y, hY⟩ : ∃ Y, sinceM X fr = Y := ⟨_, rfl⟩
  rw [hY]
  unfold sinceM at hY
  obtain ⟨A, c, hx⟩ := h
  have HX := Aside.mk (And.intro hx hh)
  have hwr : wrap64 (X.rev + 1) = X.rev + 1 := by unfold wrap64; omega
  obtain ⟨B0, hB0⟩ : ∃ b, w.heap.size = b := ⟨_, rfl⟩
  rw [hB0]
  have HB0 := Aside.mk hB0
  have hpn := prefixNil_calls w
  clear hx hh hB0
  go_enter Try.func26, Try.ntmps26
  go_wp2_with fail
  refine hpn.mono ?_
  rintro e w1 ⟨rfl, q, hw1⟩
  have hb1 : Below w.heap.size w w1 := by rw [hw1]; exact pw_below_drewN (Below.refl _ _) q
  have hx1 := HX.out.1.below hb1
  obtain ⟨v, m, hT, h2, h3, h4, h5⟩ := hx1
  have e2 := cell_at hT 2
  have e3 := cell_at hT 3
  have e4 := cell_at hT 4
  have HY := Aside.mk hY
  have H1 := Aside.mk (And.intro hb1 (And.intro h3 h4))
  clear hw1 hb1 h2 h3 h4 h5 hpn hY
  by_cases hc1 : fr < 1 ∨ X.rev + 1 < fr
  · have HY1 := HY.out
    rw [if_pos hc1] at HY1
    by_cases hc2 : fr < 1
    · go_wp2_with fail
      go_returns
      rw [← HY1]
      exact ⟨_, rfl, Kd.R_nil _ _ _ _ _, by rw [← HB0.out]; exact H1.out.1⟩
    · have hc3 : X.rev + 1 < fr := by omega
      go_wp2_with fail
      go_returns
      rw [← HY1]
      exact ⟨_, rfl, Kd.R_nil _ _ _ _ _, by rw [← HB0.out]; exact H1.out.1⟩
  · have HY1 := HY.out
    rw [if_neg hc1] at HY1
    have hc2 : ¬ fr < 1 := by omega
    have hc3 : ¬ X.rev + 1 < fr := by omega
    by_cases hlo : fr ≤ X.low
    · rw [if_pos hlo] at HY1
      go_wp2_with fail
      go_returns
      rw [← HY1]
      exact ⟨_, rfl, Kd.R_nil _ _ _ _ _, by rw [← HB0.out]; exact H1.out.1⟩
    · rw [if_neg hlo] at HY1
      have HYY := Aside.mk HY1
      obtain ⟨n, hn⟩ : ∃ n, X.hap.length = n := ⟨_, rfl⟩
      rw [hn] at e4 hT
      have HN := Aside.mk hn
      have hnb : n ≤ 100000000 := by have := HX.out.2; omega
      clear HY1 HY hn
      go_wp2_with fail
      simp only [decide_eq_false (Int.not_lt.2 hc2), decide_eq_false (Int.not_lt.2 hc3), decide_eq_false (Int.not_le.2 hlo), Bool.or_false]
      clear hc1 hc2 hc3 hlo
      go_loopw [8, 42] (fun v8 v42 wr => ∃ k : Nat, k ≤ n ∧ v42 = .int .i64 k ∧ Aside (k75.R 75 wr B0 (fun k => B0 ≤ k) v8 ((X.hap.take k).filter (fun x => decide (fr ≤ x.f0))) ∧ Below w.heap.size w wr)) (fun _ v42 _ => n - (intOf v42).toNat)
      case atStart => exact ⟨0, by omega, rfl, ⟨Kd.R_nil _ _ _ _ _, H1.out.1⟩⟩
      case round =>
        obtain ⟨k, hk, rfl, HI⟩ := hrel
        by_cases hkn : k < n
        · obtain ⟨o, ho⟩ : ∃ o, X.hap[k]? = some o := ⟨_, List.getElem?_eq_getElem (by rw [HN.out]; exact hkn)⟩
          obtain ⟨v', m', hT', h2', h3', h4', h5'⟩ := HX.out.1.below HI.out.2
          rw [HN.out] at h3'
          obtain ⟨ad, he, f0, f1, f2, f3⟩ := at_T75 h3' (k : Int) (by omega) (by omega)
          rw [rd_get ho] at f0 f1 f2 f3
          simp only [Int.toNat_natCast] at f0 f1 f2 f3
          have htk := fil_take (p := fun x => decide (fr ≤ x.f0)) ho
          obtain ⟨evs, hevs⟩ : ∃ e, (X.hap.take k).filter (fun x => decide (fr ≤ x.f0)) = e := ⟨_, rfl⟩
          have hel : evs.length ≤ 100000000 := by
            have h1 := List.length_filter_le (fun x : Evn => decide (fr ≤ x.f0)) (X.hap.take k)
            rw [hevs, List.length_take] at h1
            omega
          obtain ⟨o0, o1, o2, o3⟩ := o
          dsimp only at f0 f1 f2 f3
          have HI2 := HI.out
          rw [hevs] at HI2 htk
          obtain ⟨V, hV⟩ : ∃ v, u8 = v := ⟨_, rfl⟩
          have hsz : B0 ≤ wr.heap.size := by rw [← HB0.out]; exact HI2.2.size
          subst he
          have hbw := Obj.cells #[Value.int .i64 o0, Value.bool o1, Value.string o2, Value.string o3] 75 (0, 0)
          have HEL := Aside.mk hel
          have HTK := Aside.mk htk
          clear hbw ho h2' h3' h4' h5' hT' hel htk
          have HBq : ∀ q, Below wr.heap.size wr ((wr.alloc (Obj.cells #[Value.int .i64 o0, Value.bool o1, Value.string o2, Value.string o3] 75 (0, 0))).drewN q) := fun q => pw_below_drewN ((Below.refl _ wr).alloc (Nat.le_refl _) _) q
          have hbq := fun W => begins_calls o2 (ByteArray.mk #[]) W
          rw [begins_nil] at hbq
          have HBQ := Aside.mk HBq
          clear HBq
          by_cases hge : fr ≤ o0
          · go_wp2_with fail
            refine (hbq _).mono ?_
            rintro e w4 ⟨rfl, q, hw4⟩
            have hb4 := HBQ.out q
            rw [← hw4] at hb4
            have HBO : Aside (w4.heap[wr.heap.size]? = some (Obj.cells #[Value.int .i64 o0, Value.bool o1, Value.string o2, Value.string o3] 75 (0, 0))) := ⟨by rw [hw4]; exact World.alloc_heap_new wr _⟩
            have g0 := cell_at HBO.out 0
            have g1 := cell_at HBO.out 1
            have g2 := cell_at HBO.out 2
            have g3 := cell_at HBO.out 3
            have HEV : Aside (k75.R 75 w4 B0 (fun k => B0 ≤ k) V evs) := ⟨by rw [← hV]; exact Kd.R_below HI2.1 hb4⟩
            have HBZ : Aside (B0 ≤ w4.heap.size) := ⟨Nat.le_trans hsz hb4.size⟩
            have HW4 := Aside.mk (HI2.2.trans (hb4.mono HI2.2.size))
            clear hb4 hw4 HBQ HI2 hbq
            try rw [hV]
            clear hV
            go_wp2_with (refine Kd.R_append k75 B0 rfl _ _ 31 75 (.agg #[.int .i64 0, .bool false, .string (ByteArray.mk #[]), .string (ByteArray.mk #[])]) 48 rfl Try.underlying31 ev_infoH rfl (by decide) (by decide) V evs ⟨o0, o1, o2, o3⟩ [.int .i64 o0, .bool o1, .string o2, .string o3] (fun k => B0 ≤ k) (fun _ => False) rfl rfl (k75_mkM _ _ _ ⟨o0, o1, o2, o3⟩) (fun _ h => h.elim) (fun k hk => by have := HBZ.out; omega) HEV.out (Below.refl B0 _) HBZ.out (by have := HEL.out; omega) ?_; rintro V1 W2 hr2 hb2 hg2 -)
            go_roundw
            case rel => exact ⟨k + 1, by omega, by go_num, ⟨by rw [HTK.out, if_pos (decide_eq_true hge)]; exact hr2, HW4.out.trans (by rw [HB0.out]; exact hb2)⟩⟩
            case measure => simp [intOf]; omega
          · go_wp2_with fail
            go_roundw
            case rel => exact ⟨k + 1, by omega, by go_num, ⟨by rw [HTK.out, if_neg (by simpa using hge), List.append_nil]; exact Kd.R_below HI2.1 ((Below.refl _ wr).alloc (Nat.le_refl _) _), HI2.2.alloc HI2.2.size _⟩⟩
            case measure => simp [intOf]; omega
        · obtain rfl : n = k := by omega
          have htk : X.hap.take n = X.hap := List.take_of_length_le (by rw [HN.out]; exact Nat.le_refl _)
          have HI2 := HI.out
          rw [htk] at HI2
          have HI := Aside.mk HI2
          clear htk HI2
          go_wp2_with fail
          go_returns
          rw [← HYY.out]
          exact ⟨_, rfl, HI.out.1, by rw [← HB0.out]; exact HI.out.2⟩
end Go.Proofs.Ytagkobpbhfkmdaa.C
/-! from PC -/
namespace Go.Proofs.Ytagkobpbhfkmdaa.C
open Go.RowKit Go.Proofs.Ytagkobpbhfkmdaa.Q
set_option linter.unusedVariables false
set_option linter.unusedSimpArgs false
/-- What an event makes of what stands at its key. -/
def stepP (p : Ent × Bool) (x : Evn) : Ent × Bool := if x.f1 = true then (entZ0, false) else (⟨x.f2, x.f3, if p.2 = true then p.1.made else x.f0, x.f0⟩, true)
def fil (κ : ByteArray) (l : List Evn) : List Evn := l.filter (fun x => eqT x.f2 κ)
theorem fil_app (κ : ByteArray) (a b : List Evn) : fil κ (a ++ b) = fil κ a ++ fil κ b := List.filter_append ..
/-- A tree is well made. -/
structure WF (X : Tre) : Prop where
  ok : X.t.ok
  srt : SrtO X.t.ord
  good : ∀ x ∈ X.t.ord, x.2.key = x.1 ∧ mayOpB false x.1 x.2.val = true ∧ 1 ≤ x.2.made ∧ x.2.made ≤ x.2.mod ∧ x.2.mod ≤ X.rev
def evOK (x : Evn) : Prop := mayOpB x.f1 x.f2 x.f3 = true
theorem mayOpB_put {k v : ByteArray} {b : Bool} (h : mayOpB b k v = true) : mayOpB false k v = true := by
  unfold mayOpB at h ⊢
  simp only [Bool.and_eq_true, Bool.not_false, Bool.true_or] at h ⊢
  exact ⟨h.1, h.2.1, trivial⟩
theorem WF.get {X : Tre} (h : WF X) (k : ByteArray) (hg : (Shf.get k X.t).2 = true) : (k, (Shf.get k X.t).1) ∈ X.t.ord := by
  obtain ⟨g1, g2⟩ := Shf.get_mem (k := k) h.srt
  by_cases hx : ∃ e, (k, e) ∈ X.t.ord
  · obtain ⟨e, he⟩ := hx
    rw [g1 e he]
    exact he
  · rw [g2 (fun e he => hx ⟨e, he⟩)] at hg
    cases hg
theorem opM_wf {X : Tre} {o : Opn} (h : WF X) (hr : 1 ≤ X.rev) (hm : mayOpB o.f0 o.f1 o.f2 = true) : WF (opM X o).1 ∧ (opM X o).1.rev = X.rev ∧
    ∀ κ, Shf.get κ (opM X o).1.t = if (opM X o).2 = true ∧ κ = o.f1 then stepP (Shf.get κ X.t) ⟨X.rev, o.f0, o.f1, o.f2⟩ else Shf.get κ X.t := by
  unfold opM
  by_cases c1 : o.f0 = true
  · rw [if_pos c1]
    by_cases c2 : (Shf.get o.f1 X.t).2 = true
    · rw [if_pos c2]
      refine ⟨⟨(Shf.drop_ok _ h.ok).1, drop_srt h.ok h.srt, fun x hx => h.good x ((drop_mem h.ok h.srt _).1 hx).2⟩, rfl, fun κ => ?_⟩
      show Shf.get κ (Shf.drop o.f1 X.t) = _
      rw [get_drop h.ok h.srt]
      by_cases hk : κ = o.f1
      · rw [if_pos hk, if_pos ⟨rfl, hk⟩]
        unfold stepP
        rw [if_pos c1]
      · rw [if_neg hk, if_neg (fun hh => hk hh.2)]
    · rw [if_neg c2]
      exact ⟨h, rfl, fun κ => by rw [if_neg (fun hh => by cases hh.1)]⟩
  · rw [if_neg c1]
    refine ⟨⟨(Shf.put_ok _ _ h.ok).1, put_srt h.ok h.srt, fun x hx => ?_⟩, rfl, fun κ => ?_⟩
    · rcases (put_mem h.ok h.srt _).1 hx with rfl | ⟨_, hx⟩
      · refine ⟨rfl, mayOpB_put hm, ?_⟩
        dsimp only
        by_cases c2 : (Shf.get o.f1 X.t).2 = true
        · rw [if_pos c2]
          have := h.good _ (h.get _ c2)
          dsimp only at this
          omega
        · rw [if_neg c2]
          omega
      · exact h.good x hx
    · show Shf.get κ (Shf.put o.f1 _ X.t) = _
      rw [get_put h.ok h.srt]
      by_cases hk : κ = o.f1
      · rw [if_pos hk]
        show _ = if (true = true ∧ κ = o.f1) then _ else _
        rw [if_pos (show true = true ∧ κ = o.f1 from ⟨rfl, hk⟩)]
        unfold stepP
        rw [if_neg c1, hk]
      · rw [if_neg hk]
        show _ = if (true = true ∧ κ = o.f1) then _ else _
        rw [if_neg (fun hh : true = true ∧ κ = o.f1 => hk hh.2)]
/-- What operations leave. -/
structure Ops1 (X X' : Tre) (evs : List Evn) (l : List Opn) : Prop where
  wf : WF X'
  rev : X'.rev = X.rev
  low : X'.low = X.low
  hap : X'.hap = X.hap
  cnt : X'.t.cnt ≤ X.t.cnt + l.length
  len : evs.length ≤ l.length
  ev : ∀ x ∈ evs, x.f0 = X.rev ∧ evOK x
  sub : (evs.map (·.f2)).Sublist (l.map (·.f1))
  get : ∀ κ, Shf.get κ X'.t = (fil κ evs).foldl stepP (Shf.get κ X.t)
theorem stepD_fold : ∀ (l : List Opn) (X : Tre) (ev0 : List Evn), WF X → 1 ≤ X.rev → (∀ o ∈ l, mayOpB o.f0 o.f1 o.f2 = true) → ∃ X' evs, l.foldl stepD (X, ev0) = (X', ev0 ++ evs) ∧ Ops1 X X' evs l
  | [], X, ev0, h, _, _ => ⟨X, [], by simp, ⟨h, rfl, rfl, rfl, Nat.le_refl _, Nat.le_refl _, fun x hx => (by cases hx), List.Sublist.refl _, fun _ => rfl⟩⟩
  | o :: l, X, ev0, h, hr, hm => by
    have hmo := hm o List.mem_cons_self
    obtain ⟨w1, w2, w3⟩ := opM_wf h hr hmo
    obtain ⟨_, k2, k3, k4, k5⟩ := opM_ok o h.ok
    obtain ⟨X', evs, he, hO⟩ := stepD_fold l (opM X o).1 (if (opM X o).2 = true then ev0 ++ [⟨(opM X o).1.rev, o.f0, o.f1, o.f2⟩] else ev0) w1 (by rw [w2]; exact hr) (fun p hp => hm p (List.mem_cons_of_mem _ hp))
    rw [List.foldl_cons]
    have hst : stepD (X, ev0) o = ((opM X o).1, if (opM X o).2 = true then ev0 ++ [⟨(opM X o).1.rev, o.f0, o.f1, o.f2⟩] else ev0) := rfl
    rw [hst, he]
    by_cases hq : (opM X o).2 = true
    · rw [if_pos hq, List.append_assoc]
      refine ⟨X', [⟨(opM X o).1.rev, o.f0, o.f1, o.f2⟩] ++ evs, rfl, hO.wf, hO.rev.trans k3, hO.low.trans k4, hO.hap.trans k5, ?_, ?_, ?_, ?_, ?_⟩
      · have := hO.cnt; simp only [List.length_cons]; omega
      · have := hO.len; simp only [List.length_append, List.length_cons, List.length_nil]; omega
      · intro x hx
        rcases List.mem_append.1 hx with hx | hx
        · rw [List.mem_singleton] at hx
          subst hx
          exact ⟨k3, hmo⟩
        · have := hO.ev x hx
          exact ⟨this.1.trans k3, this.2⟩
      · rw [List.singleton_append, List.map_cons, List.map_cons]
        exact List.Sublist.cons_cons _ hO.sub
      · intro κ
        rw [hO.get κ, fil_app, List.foldl_append, w3 κ]
        congr 1
        by_cases hk : κ = o.f1
        · rw [if_pos ⟨hq, hk⟩]
          have : fil κ [⟨(opM X o).1.rev, o.f0, o.f1, o.f2⟩] = [⟨(opM X o).1.rev, o.f0, o.f1, o.f2⟩] := by
            unfold fil
            rw [List.filter_cons, if_pos (eqT_iff.2 hk.symm)]
            rfl
          rw [this, k3]
          rfl
        · rw [if_neg (fun hh => hk hh.2)]
          have : fil κ [⟨(opM X o).1.rev, o.f0, o.f1, o.f2⟩] = [] := by
            unfold fil
            rw [List.filter_cons, if_neg (fun hh => hk (eqT_iff.1 hh).symm)]
            rfl
          rw [this]
          rfl
    · rw [if_neg hq]
      refine ⟨X', evs, rfl, hO.wf, hO.rev.trans k3, hO.low.trans k4, hO.hap.trans k5, ?_, ?_, ?_, ?_, ?_⟩
      · have := hO.cnt; simp only [List.length_cons]; omega
      · have := hO.len; simp only [List.length_cons]; omega
      · intro x hx
        have := hO.ev x hx
        exact ⟨this.1.trans k3, this.2⟩
      · rw [List.map_cons]
        exact List.Sublist.cons _ hO.sub
      · intro κ
        rw [hO.get κ, w3 κ, if_neg (fun hh => hq hh.1)]
theorem opsTo_good {l : List Opn} : ∀ {n : Nat}, n ≤ l.length → opsTo l n = true → (∀ o ∈ l.take n, mayOpB o.f0 o.f1 o.f2 = true) ∧ ((l.take n).map (·.f1)).Nodup
  | 0, _, _ => ⟨fun o ho => by simp at ho, by simp⟩
  | n + 1, hn, h => by
    have hh : (opsTo l n && (match l[n]? with | none => true | some o => mayOpB o.f0 o.f1 o.f2 && !((l.take n).any (sameO o)))) = true := h
    rw [List.getElem?_eq_getElem (by omega)] at hh
    simp only [Bool.and_eq_true, Bool.not_eq_true'] at hh
    obtain ⟨h1, h2, h3⟩ := hh
    obtain ⟨g1, g2⟩ := opsTo_good (by omega) h1
    rw [List.take_succ_eq_append_getElem (by omega)]
    refine ⟨fun o ho => ?_, ?_⟩
    · rcases List.mem_append.1 ho with ho | ho
      · exact g1 o ho
      · rw [List.mem_singleton] at ho; subst ho; exact h2
    · rw [List.map_append, List.nodup_append]
      refine ⟨g2, by simp, fun a ha b hb => ?_⟩
      rw [List.map_cons, List.map_nil, List.mem_singleton] at hb
      subst hb
      rintro rfl
      obtain ⟨p, hp, hpe⟩ := List.mem_map.1 ha
      have := List.any_eq_false.1 h3 p hp
      exact this (eqT_iff.2 hpe)
theorem mayTxn_good {x : Txn'} (h : mayTxnB x = true) : (∀ o ∈ x.f1, mayOpB o.f0 o.f1 o.f2 = true) ∧ (x.f1.map (·.f1)).Nodup ∧ x.f1.length ≤ 8 := by
  unfold mayTxnB at h
  simp only [Bool.and_eq_true, decide_eq_true_iff] at h
  have := opsTo_good (Nat.le_refl _) h.2.2.2
  rw [List.take_length] at this
  exact ⟨this.1, this.2, h.2.1⟩
/-- One revision on. -/
structure Next (X X' : Tre) : Prop where
  ev : ∃ evs, X'.hap = X.hap ++ evs ∧ (∀ x ∈ evs, x.f0 = X.rev + 1 ∧ evOK x) ∧ (evs.map (·.f2)).Nodup ∧ evs.length ≤ 8 ∧ ∀ κ, Shf.get κ X'.t = (fil κ evs).foldl stepP (Shf.get κ X.t)
  wf : WF X'
  rev : X'.rev = X.rev + 1
  low : X'.low = X.low
  cnt : X'.t.cnt ≤ X.t.cnt + 8
theorem WF.up {X : Tre} (h : WF X) : WF { X with rev := X.rev + 1 } := ⟨h.ok, h.srt, fun x hx => by
  obtain ⟨h1, h2, h3, h4, h5⟩ := h.good x hx
  exact ⟨h1, h2, h3, h4, by show x.2.mod ≤ X.rev + 1; omega⟩⟩
theorem doM_next {X : Tre} {x : Txn'} (h : WF X) (hr : 0 ≤ X.rev) : ((doM X x).1 = X ∧ ∃ b e, (doM X x).2 = (b, e)) ∨ (Next X (doM X x).1 ∧ (doM X x).2 = (true, 0)) := by
  unfold doM
  by_cases c1 : mayTxnB x = false
  · rw [if_pos c1]; exact .inl ⟨rfl, _, _, rfl⟩
  · rw [if_neg c1]
    by_cases c2 : x.f0.any (offB X.t) = true
    · rw [if_pos c2]; exact .inl ⟨rfl, _, _, rfl⟩
    · rw [if_neg c2]
      by_cases c3 : x.f1.length = 0
      · rw [if_pos c3]; exact .inl ⟨rfl, _, _, rfl⟩
      · rw [if_neg c3]
        by_cases c4 : X.rev = 1099511627776
        · rw [if_pos c4]; exact .inl ⟨rfl, _, _, rfl⟩
        · rw [if_neg c4]
          right
          obtain ⟨m1, m2, m3⟩ := mayTxn_good (by simpa using c1)
          obtain ⟨X', evs, he, hO⟩ := stepD_fold x.f1 { X with rev := X.rev + 1 } [] h.up (by show 1 ≤ X.rev + 1; omega) m1
          have he' : opsM X x.f1 = (X', evs) := by unfold opsM; rw [he]; rfl
          rw [he']
          refine ⟨⟨⟨evs, rfl, hO.ev, hO.sub.nodup m2, Nat.le_trans hO.len m3, hO.get⟩, ⟨hO.wf.ok, hO.wf.srt, hO.wf.good⟩, hO.rev, hO.low, ?_⟩, rfl⟩
          have := hO.cnt
          show X'.t.cnt ≤ X.t.cnt + 8
          have h2 : ({ X with rev := X.rev + 1 } : Tre).t.cnt = X.t.cnt := rfl
          omega
end Go.Proofs.Ytagkobpbhfkmdaa.C
/-! from PD -/
namespace Go.Proofs.Ytagkobpbhfkmdaa.C
open Go.RowKit Go.Proofs.Ytagkobpbhfkmdaa.Q
set_option linter.unusedVariables false
set_option linter.unusedSimpArgs false
def stepC (P : Tre × List Tre) (x : Txn') : Tre × List Tre :=
  ((doM P.1 x).1, if (doM P.1 x).2.2 = 0 ∧ (doM P.1 x).2.1 = true ∧ (doM P.1 x).1.rev = P.2.length then P.2 ++ [(doM P.1 x).1] else P.2)
def courseM (l : List Txn') : Tre × List Tre := l.foldl stepC (treZ, [treZ])
structure Crs (X : Tre) (L : List Tre) (n : Nat) : Prop where
  pos : 0 < L.length
  last : L[L.length - 1]? = some X
  len : L.length ≤ n + 1
  at_ : ∀ (i : Nat) (Y : Tre), L[i]? = some Y → Y.rev = i ∧ Y.low = 0 ∧ WF Y ∧ Y.t.cnt ≤ 8 * n ∧ Y.hap.length ≤ 8 * n
  next : ∀ (i : Nat) (Y Z : Tre), L[i]? = some Y → L[i + 1]? = some Z → Next Y Z
  zero : L[0]? = some treZ
theorem Crs.start : Crs treZ [treZ] 0 := by
  refine ⟨by decide, rfl, by decide, fun i Y h => ?_, fun i Y Z h1 h2 => ?_, rfl⟩
  · rcases i with _ | i
    · cases h
      exact ⟨rfl, rfl, ⟨trivial, List.Pairwise.nil, fun x hx => (by cases hx)⟩, Nat.le_refl _, Nat.le_refl _⟩
    · simp at h
  · simp at h2
theorem Crs.step {X : Tre} {L : List Tre} {n : Nat} (h : Crs X L n) (x : Txn') : Crs (stepC (X, L) x).1 (stepC (X, L) x).2 (n + 1) := by
  obtain ⟨r1, r2, r3, r4, r5⟩ := h.at_ _ X h.last
  have hp := h.pos
  unfold stepC
  dsimp only
  rcases doM_next (x := x) r3 (by rw [r1]; omega) with ⟨e1, b, e, e2⟩ | ⟨hN, e2⟩
  · rw [e1, if_neg (fun hh => by have := hh.2.2; rw [r1] at this; omega)]
    exact ⟨h.pos, h.last, Nat.le_succ_of_le h.len, fun i Y hi => by have := h.at_ i Y hi; exact ⟨this.1, this.2.1, this.2.2.1, by omega, by omega⟩, h.next, h.zero⟩
  · rw [e2, if_pos ⟨rfl, rfl, by rw [hN.rev, r1]; omega⟩]
    obtain ⟨evs, e3, e4, e5, e6, e7⟩ := hN.ev
    refine ⟨by simp, by simp, by simp; exact h.len, fun i Y hi => ?_, fun i Y Z h1 h2 => ?_, ?_⟩
    · by_cases hl : i < L.length
      · rw [List.getElem?_append_left hl] at hi
        have := h.at_ i Y hi
        exact ⟨this.1, this.2.1, this.2.2.1, by omega, by omega⟩
      · rw [List.getElem?_append_right (by omega)] at hi
        have hz : i - L.length = 0 := by
          rcases Nat.eq_zero_or_pos (i - L.length) with hz | hz
          · exact hz
          · rw [List.getElem?_eq_none (by simp; omega)] at hi; cases hi
        rw [hz] at hi
        cases hi
        refine ⟨by rw [hN.rev, r1]; omega, hN.low.trans r2, hN.wf, by have := hN.cnt; omega, ?_⟩
        rw [e3, List.length_append]; omega
    · by_cases hl : i + 1 < L.length
      · rw [List.getElem?_append_left (by omega)] at h1
        rw [List.getElem?_append_left hl] at h2
        exact h.next i Y Z h1 h2
      · have hl2 : i < L.length := by
          rcases Nat.lt_or_ge i L.length with hh | hh
          · exact hh
          · rw [List.getElem?_eq_none (by simp; omega)] at h2; cases h2
        rw [List.getElem?_append_left hl2] at h1
        rw [List.getElem?_append_right (by omega), show i + 1 - L.length = 0 by omega] at h2
        cases h2
        rw [show i = L.length - 1 by omega, h.last] at h1
        cases h1
        exact hN
    · rw [List.getElem?_append_left h.pos]
      exact h.zero
theorem Crs.fold : ∀ (l : List Txn') {X : Tre} {L : List Tre} {n : Nat}, Crs X L n → Crs (l.foldl stepC (X, L)).1 (l.foldl stepC (X, L)).2 (n + l.length)
  | [], _, _, _, h => h
  | x :: l, X, L, n, h => by
    rw [List.foldl_cons]
    have := Crs.fold l (h.step x)
    rw [List.length_cons, show n + (l.length + 1) = n + 1 + l.length by omega]
    exact this
theorem asof_congr {f g : Fcts} {u : Int} {k : ByteArray} (h : f k = g k) : asofM f u k = asofM g u k := by unfold asofM; rw [h]
theorem get_congr {f g : Fcts} {k : ByteArray} (h : f k = g k) : getM f k = getM g k := by unfold getM; rw [h]
theorem stepW_ne {u : Int} {f : Fcts} {x : Evn} {k : ByteArray} (h : x.f2 ≠ k) : (stepW u f x) k = f k := by
  unfold stepW
  split
  · unfold happM upd
    rw [if_neg (fun e => h e.symm)]
  · rfl
theorem stepW_at {u : Int} {f : Fcts} {x : Evn} (h : asofM f u x.f2 < x.f0) (hu : u ≤ x.f0) : asofM (stepW u f x) u x.f2 = x.f0 ∧ getM (stepW u f x) x.f2 = stepP (getM f x.f2) x := by
  unfold stepW
  rw [if_pos h]
  unfold happM
  have e : upd f x.f2 (some (if x.f1 then ⟨x.f0, false, entZ⟩ else ⟨x.f0, true, ⟨x.f2, x.f3, if (getM f x.f2).2 then (getM f x.f2).1.made else x.f0, x.f0⟩⟩)) x.f2 = some (if x.f1 then ⟨x.f0, false, entZ⟩ else ⟨x.f0, true, ⟨x.f2, x.f3, if (getM f x.f2).2 then (getM f x.f2).1.made else x.f0, x.f0⟩⟩) := by unfold upd; rw [if_pos rfl]
  constructor
  · unfold asofM
    rw [e]
    dsimp only
    cases x.f1 <;> simp <;> omega
  · rw [show getM (upd f x.f2 _) x.f2 = (((upd f x.f2 _ x.f2).getD fctZ).x, ((upd f x.f2 _ x.f2).getD fctZ).there) from rfl, e]
    unfold stepP
    cases x.f1 <;> rfl
theorem stepW_skip {u : Int} {f : Fcts} {x : Evn} (h : ¬ asofM f u x.f2 < x.f0) : stepW u f x = f := by unfold stepW; rw [if_neg h]
/-- A revision's events, told: at each key. -/
theorem blk_none {u : Int} {k : ByteArray} : ∀ {E : List Evn} {f : Fcts}, (∀ x ∈ E, x.f2 ≠ k) → (E.foldl (stepW u) f) k = f k
  | [], _, _ => rfl
  | x :: E, f, h => by
    rw [List.foldl_cons, blk_none (fun y hy => h y (List.mem_cons_of_mem _ hy))]
    exact stepW_ne (h x List.mem_cons_self)
theorem blk_fil {k : ByteArray} {E : List Evn} (hn : (E.map (·.f2)).Nodup) : (fil k E = [] ∧ ∀ x ∈ E, x.f2 ≠ k) ∨ ∃ a x b, E = a ++ x :: b ∧ x.f2 = k ∧ fil k E = [x] ∧ (∀ y ∈ a, y.f2 ≠ k) ∧ ∀ y ∈ b, y.f2 ≠ k := by
  by_cases h : ∃ x ∈ E, x.f2 = k
  · right
    obtain ⟨x, hx, hk⟩ := h
    obtain ⟨a, b, hab⟩ := List.append_of_mem hx
    subst hab
    rw [List.map_append, List.map_cons, List.nodup_append] at hn
    obtain ⟨n1, n2, n3⟩ := hn
    have h1 : ∀ y ∈ a, y.f2 ≠ k := fun y hy e => n3 y.f2 (List.mem_map_of_mem hy) x.f2 List.mem_cons_self (e.trans hk.symm)
    have h2 : ∀ y ∈ b, y.f2 ≠ k := fun y hy e => (List.nodup_cons.1 n2).1 (by rw [hk, ← e]; exact List.mem_map_of_mem hy)
    refine ⟨a, x, b, rfl, hk, ?_, h1, h2⟩
    have f1 : fil k a = [] := by
      unfold fil; rw [List.filter_eq_nil_iff]; exact fun y hy e => h1 y hy (eqT_iff.1 e)
    have f2 : fil k b = [] := by
      unfold fil; rw [List.filter_eq_nil_iff]; exact fun y hy e => h2 y hy (eqT_iff.1 e)
    rw [fil_app, f1, show x :: b = [x] ++ b from rfl, fil_app, f2]
    unfold fil
    rw [List.filter_cons, if_pos (eqT_iff.2 hk)]
    rfl
  · left
    have h1 : ∀ y ∈ E, y.f2 ≠ k := fun y hy e => h ⟨y, hy, e⟩
    refine ⟨?_, h1⟩
    unfold fil; rw [List.filter_eq_nil_iff]; exact fun y hy e => h1 y hy (eqT_iff.1 e)
theorem asof_ge (f : Fcts) (u : Int) (k : ByteArray) : u ≤ asofM f u k := by
  unfold asofM
  split
  · exact Int.le_refl _
  · split <;> omega
/-- One revision's events, told to a cache that knows a key as of a, got as of b: then as of ... -/
theorem blk_know {u r : Int} {E : List Evn} {f : Fcts} {k : ByteArray} (hr : ∀ x ∈ E, x.f0 = r) (hn : (E.map (·.f2)).Nodup) (hu : u ≤ asofM f u k) :
    (r ≤ asofM f u k → (E.foldl (stepW u) f) k = f k) ∧
    (asofM f u k < r → asofM f u k ≤ asofM (E.foldl (stepW u) f) u k ∧ asofM (E.foldl (stepW u) f) u k ≤ r ∧ getM (E.foldl (stepW u) f) k = (fil k E).foldl stepP (getM f k)) := by
  rcases blk_fil (k := k) hn with ⟨h1, h2⟩ | ⟨a, x, b, rfl, hk, h1, h2, h3⟩
  · have e := blk_none (u := u) (f := f) h2
    refine ⟨fun _ => e, fun hlt => ?_⟩
    rw [asof_congr e, get_congr e, h1]
    exact ⟨Int.le_refl _, Int.le_of_lt hlt, rfl⟩
  · have hx := hr x (List.mem_append_right _ List.mem_cons_self)
    rw [h1, List.foldl_append, List.foldl_cons]
    have ea := blk_none (u := u) (f := f) h2
    have eb := blk_none (u := u) (f := stepW u (a.foldl (stepW u) f) x) h3
    subst hk
    constructor
    · intro hge
      rw [eb, stepW_skip (by rw [asof_congr ea, hx]; omega), ea]
    · intro hlt
      obtain ⟨s1, s2⟩ := stepW_at (u := u) (f := a.foldl (stepW u) f) (x := x) (by rw [asof_congr ea, hx]; exact hlt) (by rw [hx]; omega)
      rw [asof_congr eb, get_congr eb, s1, s2, get_congr ea, hx]
      exact ⟨Int.le_of_lt hlt, Int.le_refl _, rfl⟩
/-- Known: each key as a tree of the course has it. -/
def Know (L : List Tre) (f : Fcts) (u : Int) : Prop := ∀ k, (asofM f u k < 0 → (getM f k).2 = false) ∧ (0 ≤ asofM f u k → ∃ (b : Nat) (W : Tre), (b : Int) = asofM f u k ∧ L[b]? = some W ∧ getM f k = Shf.get k W.t)
theorem span {X : Tre} {L : List Tre} {n : Nat} (hC : Crs X L n) {i : Nat} {Y : Tre} (hY : L[i]? = some Y) {f : Fcts} {u : Int} (hi : (i : Int) ≤ u) (hK : Know L f u) :
    ∀ (d : Nat) (Z : Tre), L[i + d]? = some Z → ∃ evs, Z.hap = Y.hap ++ evs ∧ (∀ x ∈ evs, (i : Int) < x.f0 ∧ x.f0 ≤ i + d ∧ evOK x) ∧ evs.Pairwise (fun a b => a.f0 ≤ b.f0) ∧
      ∀ k, asofM f u k ≤ asofM (evs.foldl (stepW u) f) u k ∧ (asofM (evs.foldl (stepW u) f) u k ≤ asofM f u k ∨ asofM (evs.foldl (stepW u) f) u k ≤ i + d) ∧
        ∃ (b : Nat) (W : Tre), (b : Int) = max (asofM f u k) (i + d) ∧ L[b]? = some W ∧ getM (evs.foldl (stepW u) f) k = Shf.get k W.t
  | 0, Z, hZ => by
    rw [Nat.add_zero, hY] at hZ
    cases hZ
    refine ⟨[], by simp, fun x hx => (by cases hx), List.Pairwise.nil, fun k => ⟨Int.le_refl _, .inl (Int.le_refl _), ?_⟩⟩
    have hg := asof_ge f u k
    obtain ⟨b, W, h1, h2, h3⟩ := (hK k).2 (by omega)
    exact ⟨b, W, by simp only [Int.natCast_zero, Int.add_zero]; omega, h2, h3⟩
  | d + 1, Z', hZ' => by
    have hlt : i + d < L.length := by
      rcases Nat.lt_or_ge (i + d) L.length with h | h
      · exact h
      · rw [List.getElem?_eq_none (by omega)] at hZ'; cases hZ'
    obtain ⟨Z, hZ⟩ : ∃ Z, L[i + d]? = some Z := ⟨_, List.getElem?_eq_getElem hlt⟩
    obtain ⟨evs, e1, e2, e3, e4⟩ := span hC hY hi hK d Z hZ
    have hN := hC.next _ Z Z' hZ hZ'
    obtain ⟨E, n1, n2, n3, n4, n5⟩ := hN.ev
    have hrev := (hC.at_ _ Z hZ).1
    have hE : ∀ x ∈ E, x.f0 = ((i + d + 1 : Nat) : Int) := fun x hx => by rw [(n2 x hx).1, hrev]; omega
    refine ⟨evs ++ E, by rw [n1, e1, List.append_assoc], fun x hx => ?_, ?_, fun k => ?_⟩
    · rcases List.mem_append.1 hx with hx | hx
      · have := e2 x hx; exact ⟨this.1, by omega, this.2.2⟩
      · have := hE x hx; exact ⟨by omega, by omega, (n2 x hx).2⟩
    · rw [List.pairwise_append]
      refine ⟨e3, ?_, fun a ha b hb => by have := (e2 a ha).2.1; have := hE b hb; omega⟩
      exact List.pairwise_of_forall_mem_list (fun a ha b hb => by rw [hE a ha, hE b hb]; exact Int.le_refl _)
    · rw [List.foldl_append]
      obtain ⟨g1, g2, b, W, g3, g4, g5⟩ := e4 k
      obtain ⟨q1, q2⟩ := blk_know (u := u) (f := evs.foldl (stepW u) f) (k := k) hE n3 (asof_ge _ _ _)
      generalize evs.foldl (stepW u) f = f1 at g1 g2 g5 q1 q2 ⊢
      by_cases hc : ((i + d + 1 : Nat) : Int) ≤ asofM f1 u k
      · have e := q1 hc
        rw [asof_congr e, get_congr e]
        have hc2 : asofM f1 u k ≤ asofM f u k := by rcases g2 with h | h; exact h; omega
        refine ⟨g1, .inl hc2, b, W, by omega, g4, g5⟩
      · obtain ⟨s1, s2, s3⟩ := q2 (by omega)
        refine ⟨by omega, .inr (by omega), ?_⟩
        have hb : b = i + d := by omega
        subst hb
        rw [hZ] at g4
        cases g4
        exact ⟨i + d + 1, Z', by omega, hZ', by rw [s3, g5, n5]⟩
end Go.Proofs.Ytagkobpbhfkmdaa.C
/-! from PE -/
namespace Go.Proofs.Ytagkobpbhfkmdaa.C
open Go.RowKit Go.Proofs.Ytagkobpbhfkmdaa.Q
set_option linter.unusedVariables false
set_option linter.unusedSimpArgs false
theorem keyB_ne {s : ByteArray} (h : keyB s = true) : s.toList ≠ [] := by
  unfold keyB at h
  simp only [Bool.and_eq_true, Bool.not_eq_true'] at h
  intro e
  rw [e] at h
  cases h.1
theorem mayOpB_key {b : Bool} {k v : ByteArray} (h : mayOpB b k v = true) : keyB k = true := by
  unfold mayOpB at h
  simp only [Bool.and_eq_true] at h
  exact h.1
def GoodEn (rev : Int) (x : En) : Prop := mayOpB false x.f0 x.f1 = true ∧ 1 ≤ x.f2 ∧ x.f2 ≤ x.f3 ∧ x.f3 ≤ rev
theorem good_to {l : List En} {rev : Int} (hs : l.Pairwise (fun a b => ltB a.f0 b.f0)) (hg : ∀ x ∈ l, GoodEn rev x) : ∀ k, k ≤ l.length → goodTo l rev k = true
  | 0, _ => rfl
  | k + 1, hk => by
    have hx : l[k]? = some l[k] := List.getElem?_eq_getElem (by omega)
    show (goodTo l rev k && goodE (lastK l k) rev (entOf (rd_T46 l k))) = true
    rw [good_to hs hg k (by omega), Bool.true_and, rd_getE hx]
    obtain ⟨g1, g2, g3, g4⟩ := hg l[k] (List.getElem_mem _)
    unfold goodE entOf
    dsimp only
    rw [g1, decide_eq_true g2, decide_eq_true g3, decide_eq_true g4]
    simp only [Bool.and_true, Bool.not_eq_true', Bool.or_eq_false_iff]
    rcases k with _ | k
    · have hne := keyB_ne (mayOpB_key g1)
      show Op.bytesLess _ (ByteArray.mk #[]).toList = false ∧ (_ == (ByteArray.mk #[]).toList) = false
      rw [show (ByteArray.mk #[]).toList = [] by decide +kernel]
      refine ⟨less_nil _, ?_⟩
      cases hb : (l[0].f0.toList == []) with
      | false => rfl
      | true => exact absurd (by simpa using hb) hne
    · have hy : l[k]? = some l[k] := List.getElem?_eq_getElem (by omega)
      have hlt := List.pairwise_iff_getElem.1 hs k (k + 1) (by omega) (by omega) (by omega)
      show Op.bytesLess _ (rd_T46 l k).f0.toList = false ∧ (_ == (rd_T46 l k).f0.toList) = false
      rw [rd_getE hy]
      refine ⟨slt_false.2 (ltB_asymm hlt), ?_⟩
      cases hb : (l[k + 1].f0.toList == l[k].f0.toList) with
      | false => rfl
      | true => exact absurd (eqL_iff.1 hb).symm (ltB_ne hlt)
theorem of_ok {l : List En} {rev : Int} (h0 : 0 ≤ rev) (h1 : rev ≤ 1099511627776) (hs : l.Pairwise (fun a b => ltB a.f0 b.f0)) (hg : ∀ x ∈ l, GoodEn rev x) : ofOK l rev = true := by
  unfold ofOK
  rw [decide_eq_true h0, decide_eq_true h1, good_to hs hg _ (Nat.le_refl _)]
  rfl
theorem WF.list {X : Tre} (h : WF X) : (tlsM X.t).Pairwise (fun a b => ltB a.f0 b.f0) ∧ ∀ x ∈ tlsM X.t, GoodEn X.rev x := by
  unfold tlsM
  constructor
  · rw [List.pairwise_map]
    refine List.Pairwise.imp_of_mem (fun {a b} ha hb hab => ?_) h.srt
    show ltB a.2.key b.2.key
    rw [(h.good a ha).1, (h.good b hb).1]
    exact hab
  · intro x hx
    obtain ⟨y, hy, rfl⟩ := List.mem_map.1 hx
    obtain ⟨g1, g2, g3⟩ := h.good y hy
    refine ⟨?_, g3⟩
    show mayOpB false y.2.key y.2.val = true
    rw [g1]
    exact g2
theorem WF.find {X : Tre} (h : WF X) (k : ByteArray) : (∃ x ∈ tlsM X.t, x.f0 = k ∧ Shf.get k X.t = (entOfE x, true)) ∨ ((∀ x ∈ tlsM X.t, x.f0 ≠ k) ∧ Shf.get k X.t = (entZ0, false)) := by
  obtain ⟨g1, g2⟩ := Shf.get_mem (k := k) h.srt
  by_cases hx : ∃ e, (k, e) ∈ X.t.ord
  · obtain ⟨e, he⟩ := hx
    refine .inl ⟨enOf e, List.mem_map.2 ⟨(k, e), he, rfl⟩, (h.good _ he).1, ?_⟩
    rw [g1 e he]
    rfl
  · refine .inr ⟨fun x hm e => ?_, g2 (fun e he => hx ⟨e, he⟩)⟩
    obtain ⟨y, hy, rfl⟩ := List.mem_map.1 hm
    refine hx ⟨y.2, ?_⟩
    have : y.2.key = k := e
    rw [← this, (h.good _ hy).1]
    exact hy
theorem upd_same' (f : Fcts) (k : ByteArray) (v : Option Fct) : upd f k v k = v := if_pos rfl
theorem upd_ne' (f : Fcts) {k i : ByteArray} (v : Option Fct) (h : i ≠ k) : upd f k v i = f i := if_neg h
theorem addL_at {rev : Int} {k : ByteArray} : ∀ {l : List En} {f : Fcts}, (∀ v, f k = some v → (l.foldl (addL rev) f) k = some v) ∧
    (f k = none → ((∀ x ∈ l, x.f0 ≠ k) → (l.foldl (addL rev) f) k = none) ∧ (l.Pairwise (fun a b => ltB a.f0 b.f0) → ∀ x ∈ l, x.f0 = k → (l.foldl (addL rev) f) k = some ⟨rev, true, entOfE x⟩))
  | [], f => ⟨fun v h => h, fun h => ⟨fun _ => h, fun _ x hx => by cases hx⟩⟩
  | y :: l, f => by
    have ih := addL_at (rev := rev) (k := k) (l := l) (f := addL rev f y)
    by_cases hy : y.f0 = k
    · constructor
      · intro v hv
        rw [List.foldl_cons]
        refine ih.1 v ?_
        unfold addL
        rw [hy, hv]
        exact hv
      · intro hn
        have hk : (addL rev f y) k = some ⟨rev, true, entOfE y⟩ := by
          have hn' : f y.f0 = none := by rw [hy]; exact hn
          unfold addL
          rw [hn', if_neg (by decide), ← hy]
          exact upd_same' _ _ _
        refine ⟨fun h => absurd hy (h y List.mem_cons_self), fun hs x hx hxk => ?_⟩
        rw [List.foldl_cons, ih.1 _ hk]
        rcases List.mem_cons.1 hx with rfl | hx
        · rfl
        · have := (List.pairwise_cons.1 hs).1 x hx
          rw [hy, hxk] at this
          exact absurd this (ltB_irrefl _)
    · have hk : (addL rev f y) k = f k := by
        unfold addL
        split
        · rfl
        · exact upd_ne' _ _ (fun e => hy e.symm)
      rw [hk] at ih
      refine ⟨fun v hv => ?_, fun hn => ⟨fun h => ?_, fun hs x hx hxk => ?_⟩⟩
      · rw [List.foldl_cons]; exact ih.1 v hv
      · rw [List.foldl_cons]; exact (ih.2 hn).1 (fun x hx => h x (List.mem_cons_of_mem _ hx))
      · rw [List.foldl_cons]
        rcases List.mem_cons.1 hx with rfl | hx
        · exact absurd hxk hy
        · exact (ih.2 hn).2 (List.pairwise_cons.1 hs).2 x hx hxk
/-- What a told thing leaves: what is known is so; nothing falls. -/
structure Told1 (L : List Tre) (f : Fcts) (u : Int) (f' : Fcts) (u' : Int) : Prop where
  know : Know L f' u'
  up : u ≤ u'
  asr : ∀ k, asofM f u k ≤ asofM f' u' k
theorem asof_cases (f : Fcts) (u : Int) (k : ByteArray) : (f k = none ∧ asofM f u k = u) ∨ ∃ v, f k = some v ∧ asofM f u k = max v.asof u := by
  unfold asofM
  cases h : f k with
  | none => exact .inl ⟨rfl, rfl⟩
  | some v => exact .inr ⟨v, rfl, by dsimp only; split <;> omega⟩
theorem list_told {L : List Tre} {f : Fcts} {u : Int} {i : Nat} {Y : Tre} (hY : L[i]? = some Y) (hw : WF Y) (hr : Y.rev = i) (hm : (i : Int) ≤ 1099511627776) (hu : -1 ≤ u) (hK : Know L f u) :
    (listM f u i (tlsM Y.t)).2 = 0 ∧ Told1 L f u (listM f u i (tlsM Y.t)).1.1 (listM f u i (tlsM Y.t)).1.2 ∧ (i : Int) ≤ (listM f u i (tlsM Y.t)).1.2 ∧
    (u < i → (listM f u i (tlsM Y.t)).1.2 = i ∧ ∀ k, (∀ v, f k = some v → v.asof ≤ i) → asofM (listM f u i (tlsM Y.t)).1.1 i k = i) := by
  obtain ⟨hs, hg⟩ := hw.list
  rw [hr] at hg
  have hof := of_ok (by omega) hm hs hg
  unfold listM
  rw [if_pos hof]
  by_cases hc : (i : Int) ≤ u
  · rw [if_pos hc]
    exact ⟨rfl, ⟨hK, Int.le_refl _, fun k => Int.le_refl _⟩, hc, fun h => by omega⟩
  · rw [if_neg hc]
    dsimp only
    have key : ∀ k, (∃ v, f k = some v ∧ (i : Int) < v.asof ∧ ((tlsM Y.t).foldl (addL i) (dropM f i)) k = some v) ∨
        ((∀ v, f k = some v → v.asof ≤ (i : Int)) ∧ asofM ((tlsM Y.t).foldl (addL i) (dropM f i)) i k = i ∧ getM ((tlsM Y.t).foldl (addL i) (dropM f i)) k = Shf.get k Y.t) := fun k => by
      obtain ⟨a1, a2⟩ := addL_at (rev := (i : Int)) (k := k) (l := tlsM Y.t) (f := dropM f i)
      by_cases hd : ∃ v, f k = some v ∧ (i : Int) < v.asof
      · obtain ⟨v, h1, h2⟩ := hd
        refine .inl ⟨v, h1, h2, a1 v ?_⟩
        unfold dropM
        rw [h1]
        exact if_neg (by omega)
      · have hle : ∀ v, f k = some v → v.asof ≤ (i : Int) := fun v hv => by
          by_cases h : v.asof ≤ (i : Int)
          · exact h
          · exact absurd ⟨v, hv, by omega⟩ hd
        refine .inr ⟨hle, ?_⟩
        have hn : (dropM f i) k = none := by
          unfold dropM
          cases h : f k with
          | none => rfl
          | some v => exact if_pos (hle v h)
        obtain ⟨b1, b2⟩ := a2 hn
        rcases hw.find k with ⟨x, hx, hxk, hget⟩ | ⟨hno, hget⟩
        · have e := b2 hs x hx hxk
          constructor
          · unfold asofM; rw [e]; dsimp only; rw [if_neg (by omega)]
          · unfold getM; rw [e, hget]; rfl
        · have e := b1 hno
          constructor
          · unfold asofM; rw [e]
          · unfold getM; rw [e, hget]; rfl
    refine ⟨rfl, ⟨fun k => ?_, by omega, fun k => ?_⟩, by omega, fun _ => ⟨rfl, fun k hk => ?_⟩⟩
    · rcases key k with ⟨v, h1, h2, h3⟩ | ⟨h1, h2, h3⟩
      · have e1 : asofM ((tlsM Y.t).foldl (addL i) (dropM f i)) i k = asofM f u k := by
          unfold asofM; rw [h1, h3]; dsimp only; rw [if_neg (by omega), if_neg (by omega)]
        have e2 : getM ((tlsM Y.t).foldl (addL i) (dropM f i)) k = getM f k := get_congr (h3.trans h1.symm)
        rw [e1, e2]
        exact hK k
      · rw [h2, h3]
        exact ⟨fun h => by omega, fun _ => ⟨i, Y, rfl, hY, rfl⟩⟩
    · rcases key k with ⟨v, h1, h2, h3⟩ | ⟨h1, h2, h3⟩
      · have e1 : asofM ((tlsM Y.t).foldl (addL i) (dropM f i)) i k = asofM f u k := by
          unfold asofM; rw [h1, h3]; dsimp only; rw [if_neg (by omega), if_neg (by omega)]
        omega
      · rw [h2]
        rcases asof_cases f u k with ⟨_, e⟩ | ⟨v, e1, e2⟩
        · omega
        · have := h1 v e1; omega
    · rcases key k with ⟨v, h1, h2, h3⟩ | ⟨h1, h2, h3⟩
      · have := hk v h1; omega
      · exact h2
theorem evs_ok {rev : Int} : ∀ {l : List Evn} {last : Int}, (∀ x ∈ l, last ≤ x.f0 ∧ x.f0 ≤ rev ∧ evOK x) → l.Pairwise (fun a b => a.f0 ≤ b.f0) → evsB rev last l = true
  | [], _, _, _ => rfl
  | x :: l, last, h, hp => by
    obtain ⟨h1, h2, h3⟩ := h x List.mem_cons_self
    obtain ⟨p1, p2⟩ := List.pairwise_cons.1 hp
    show (evB last rev x && evsB rev x.f0 l) = true
    rw [evs_ok (fun y hy => ⟨p1 y hy, (h y (List.mem_cons_of_mem _ hy)).2⟩) p2, Bool.and_true]
    unfold evOK mayOpB at h3
    simp only [Bool.and_eq_true, decide_eq_true_iff] at h3
    obtain ⟨k1, k2, k3⟩ := h3
    unfold evB
    rw [k1, k3, decide_eq_false (by omega), decide_eq_false (by omega), decide_eq_false (by omega)]
    rfl
theorem since_is {X : Tre} {L : List Tre} {n : Nat} (hC : Crs X L n) {i d : Nat} {Y Z : Tre} (hY : L[i]? = some Y) (hZ : L[i + d]? = some Z) {evs : List Evn} (h1 : Z.hap = Y.hap ++ evs) (h2 : ∀ x ∈ evs, (i : Int) < x.f0) (h3 : ∀ x ∈ Y.hap, x.f0 ≤ (i : Int)) :
    sinceM Z (i + 1) = (evs, 0) := by
  obtain ⟨r1, r2, _⟩ := hC.at_ _ Z hZ
  unfold sinceM
  rw [if_neg (by rw [r1]; omega), if_neg (by rw [r2]; omega), h1, List.filter_append]
  have e1 : Y.hap.filter (fun x => decide ((i : Int) + 1 ≤ x.f0)) = [] := by
    rw [List.filter_eq_nil_iff]
    intro x hx
    have := h3 x hx
    simp only [decide_eq_true_iff]
    omega
  have e2 : evs.filter (fun x => decide ((i : Int) + 1 ≤ x.f0)) = evs := by
    rw [List.filter_eq_self]
    intro x hx
    have := h2 x hx
    simp only [decide_eq_true_iff]
    omega
  rw [e1, e2]
  rfl
/-- All that happened up to a tree is no later than it. -/
theorem hap_le {X : Tre} {L : List Tre} {n : Nat} (hC : Crs X L n) : ∀ (i : Nat) (Y : Tre), L[i]? = some Y → ∀ x ∈ Y.hap, x.f0 ≤ (i : Int)
  | 0, Y, h => by
    rw [hC.zero] at h
    cases h
    intro x hx
    cases hx
  | i + 1, Y, h => by
    have hlt : i < L.length := by
      rcases Nat.lt_or_ge i L.length with h1 | h1
      · exact h1
      · rw [List.getElem?_eq_none (by omega)] at h; cases h
    have hZ : L[i]? = some L[i] := List.getElem?_eq_getElem hlt
    obtain ⟨evs, e1, e2, _⟩ := (hC.next i _ _ hZ h).ev
    have hr := (hC.at_ _ _ hZ).1
    intro x hx
    rw [e1] at hx
    rcases List.mem_append.1 hx with hx | hx
    · have := hap_le hC i _ hZ x hx; omega
    · have := (e2 x hx).1; omega
theorem watch_told {X : Tre} {L : List Tre} {n : Nat} (hC : Crs X L n) (hn : L.length ≤ 1000000) {f : Fcts} {u : Int} {i d : Nat} {Y Z : Tre} (hY : L[i]? = some Y) (hZ : L[i + d]? = some Z) (hu : -1 ≤ u) (hK : Know L f u) :
    (sinceM Z (i + 1)).2 = 0 ∧ Told1 L f u (watchM f u (i + 1) (i + d : Nat) (sinceM Z (i + 1)).1).1.1 (watchM f u (i + 1) (i + d : Nat) (sinceM Z (i + 1)).1).1.2 ∧
    ((watchM f u (i + 1) (i + d : Nat) (sinceM Z (i + 1)).1).2 = 0 ∨ u < 0 ∨ u + 1 < (i : Int) + 1) ∧
    ((watchM f u (i + 1) (i + d : Nat) (sinceM Z (i + 1)).1).2 ≠ 0 → (watchM f u (i + 1) (i + d : Nat) (sinceM Z (i + 1)).1).1 = (f, u)) ∧
    ((watchM f u (i + 1) (i + d : Nat) (sinceM Z (i + 1)).1).2 = 0 → ((i + d : Nat) : Int) ≤ (watchM f u (i + 1) (i + d : Nat) (sinceM Z (i + 1)).1).1.2) ∧
    ((i : Int) = u → (∀ k, asofM f u k = u) → (watchM f u (i + 1) (i + d : Nat) (sinceM Z (i + 1)).1).2 = 0 ∧ (watchM f u (i + 1) (i + d : Nat) (sinceM Z (i + 1)).1).1.2 = ((i + d : Nat) : Int) ∧ ∀ k, asofM (watchM f u (i + 1) (i + d : Nat) (sinceM Z (i + 1)).1).1.1 ((i + d : Nat) : Int) k = ((i + d : Nat) : Int)) := by
  have hlt : i + d < L.length := by
    rcases Nat.lt_or_ge (i + d) L.length with h | h
    · exact h
    · rw [List.getElem?_eq_none (by omega)] at hZ; cases hZ
  have hle := hap_le hC i Y hY
  -- the events, whatever is known
  have hE : ∃ evs, Z.hap = Y.hap ++ evs ∧ (∀ x ∈ evs, (i : Int) < x.f0 ∧ x.f0 ≤ i + d ∧ evOK x) ∧ evs.Pairwise (fun a b => a.f0 ≤ b.f0) ∧ ((i : Int) ≤ u → ∀ k, asofM f u k ≤ asofM (evs.foldl (stepW u) f) u k ∧ (asofM (evs.foldl (stepW u) f) u k ≤ asofM f u k ∨ asofM (evs.foldl (stepW u) f) u k ≤ i + d) ∧
        ∃ (b : Nat) (W : Tre), (b : Int) = max (asofM f u k) (i + d) ∧ L[b]? = some W ∧ getM (evs.foldl (stepW u) f) k = Shf.get k W.t) := by
    by_cases hiu : (i : Int) ≤ u
    · obtain ⟨evs, e1, e2, e3, e4⟩ := span hC hY hiu hK d Z hZ
      exact ⟨evs, e1, e2, e3, fun _ => e4⟩
    · have hK0 : Know L (fun k => some ⟨i, (Shf.get k Y.t).2, (Shf.get k Y.t).1⟩) i := fun k => by
        have ha : asofM (fun k => some ⟨i, (Shf.get k Y.t).2, (Shf.get k Y.t).1⟩) i k = i := by unfold asofM; dsimp only; rw [if_neg (by omega)]
        rw [ha]
        exact ⟨fun h => by omega, fun _ => ⟨i, Y, rfl, hY, rfl⟩⟩
      obtain ⟨evs, e1, e2, e3, _⟩ := span hC hY (Int.le_refl _) hK0 d Z hZ
      exact ⟨evs, e1, e2, e3, fun h => absurd h hiu⟩
  obtain ⟨evs, e1, e2, e3, e4⟩ := hE
  have hS := since_is hC hY hZ e1 (fun x hx => (e2 x hx).1) hle
  rw [hS]
  dsimp only
  have hmay : cmayB ((i : Int) + 1) ((i + d : Nat) : Int) evs = true := by
    unfold cmayB
    rw [evs_ok (fun x hx => by have := e2 x hx; exact ⟨by omega, by omega, this.2.2⟩) e3, Bool.and_true, decide_eq_true_iff]
    omega
  unfold watchM
  rw [if_pos hmay]
  by_cases hc : u = -1 ∨ u + 1 < (i : Int) + 1
  · rw [if_pos hc]
    refine ⟨rfl, ⟨hK, Int.le_refl _, fun k => Int.le_refl _⟩, .inr (by omega), fun _ => rfl, fun h => (by cases h), fun h _ => (by omega)⟩
  · rw [if_neg hc]
    dsimp only
    have hiu : (i : Int) ≤ u := by omega
    have hg := e4 hiu
    have hmax : maxI u ((i + d : Nat) : Int) = max u ((i + d : Nat) : Int) := by unfold maxI; split <;> omega
    rw [hmax]
    have has : ∀ k, asofM (evs.foldl (stepW u) f) (max u ((i + d : Nat) : Int)) k = max (asofM f u k) ((i + d : Nat) : Int) := fun k => by
      obtain ⟨g1, g2, b, W, g3, g4, g5⟩ := hg k
      generalize evs.foldl (stepW u) f = f1 at g1 g2 ⊢
      have hge := asof_ge f u k
      rcases asof_cases f1 u k with ⟨c1, c2⟩ | ⟨v, c1, c2⟩ <;> rcases asof_cases f1 (max u ((i + d : Nat) : Int)) k with ⟨c3, c4⟩ | ⟨v', c3, c4⟩
      · omega
      · rw [c1] at c3; cases c3
      · rw [c1] at c3; cases c3
      · rw [c1] at c3; cases c3; omega
    refine ⟨rfl, ⟨fun k => ?_, by omega, fun k => by rw [has]; omega⟩, .inl rfl, fun h => absurd rfl h, fun _ => by omega, fun h1 h2 => ⟨rfl, by omega, fun k => ?_⟩⟩
    · rw [has k]
      obtain ⟨g1, g2, b, W, g3, g4, g5⟩ := hg k
      have hge := asof_ge f u k
      exact ⟨fun h => by omega, fun _ => ⟨b, W, by omega, g4, g5⟩⟩
    · have := has k
      rw [h2 k] at this
      rw [show max u ((i + d : Nat) : Int) = ((i + d : Nat) : Int) by omega] at this
      exact this
def namedB (names : List ByteArray) (x : En) : Bool := names.any (fun k => eqT k x.f0)
theorem any_eqT (names : List ByteArray) (k : ByteArray) : names.any (eqT k) = names.any (fun n => eqT n k) := by
  congr 1
  funext n
  unfold eqT
  exact Bool.eq_iff_iff.2 ⟨fun h => by simpa using (by simpa using h : k.toList = n.toList).symm, fun h => by simpa using (by simpa using h : n.toList = k.toList).symm⟩
theorem fnd_at {Y : Tre} (hw : WF Y) {names : List ByteArray} {k : ByteArray} (hk : k ∈ names) (rev : Int) : (fndF rev ((tlsM Y.t).filter (namedB names)) k).asof = rev ∧ ((fndF rev ((tlsM Y.t).filter (namedB names)) k).x, (fndF rev ((tlsM Y.t).filter (namedB names)) k).there) = Shf.get k Y.t := by
  have hnk : ∀ x : En, x.f0 = k → namedB names x = true := fun x hx => by
    unfold namedB
    rw [List.any_eq_true]
    exact ⟨k, hk, eqT_iff.2 hx.symm⟩
  obtain ⟨hs, _⟩ := hw.list
  unfold fndF
  cases hf : ((tlsM Y.t).filter (namedB names)).find? (fun x => eqT x.f0 k) with
  | none =>
    refine ⟨rfl, ?_⟩
    rcases hw.find k with ⟨x, hx, hxk, hget⟩ | ⟨hno, hget⟩
    · have := List.find?_eq_none.1 hf x (List.mem_filter.2 ⟨hx, hnk x hxk⟩)
      exact absurd (eqT_iff.2 hxk) this
    · rw [hget]; rfl
  | some y =>
    refine ⟨rfl, ?_⟩
    have hy1 := List.mem_of_find?_eq_some hf
    have hy2 : eqT y.f0 k = true := by simpa using List.find?_some hf
    have hy3 := (List.mem_filter.1 hy1).1
    rcases hw.find k with ⟨x, hx, hxk, hget⟩ | ⟨hno, hget⟩
    · have hxy : x = y := by
        obtain ⟨a, ha, rfl⟩ := List.getElem_of_mem hx
        obtain ⟨b, hb, rfl⟩ := List.getElem_of_mem hy3
        have hab : a = b := by
          rcases Nat.lt_trichotomy a b with h | h | h
          · have := List.pairwise_iff_getElem.1 hs a b ha hb h
            rw [hxk, eqT_iff.1 hy2] at this
            exact absurd this (ltB_irrefl _)
          · exact h
          · have := List.pairwise_iff_getElem.1 hs b a hb ha h
            rw [hxk, eqT_iff.1 hy2] at this
            exact absurd this (ltB_irrefl _)
        subst hab
        rfl
      rw [hget, hxy]
    · exact absurd (eqT_iff.1 hy2) (hno y hy3)
theorem addN_fold {u rev : Int} {l : List En} (hu : u ≤ rev) {k : ByteArray} : ∀ {names : List ByteArray} {f : Fcts}, ((k ∉ names ∨ rev ≤ asofM f u k) → (names.foldl (addN u rev l) f) k = f k) ∧ (k ∈ names → asofM f u k < rev → (fndF rev l k).asof = rev → (names.foldl (addN u rev l) f) k = some (fndF rev l k))
  | [], f => ⟨fun _ => rfl, fun h => by cases h⟩
  | y :: names, f => by
    have ih := addN_fold (u := u) (rev := rev) (l := l) hu (k := k) (names := names) (f := addN u rev l f y)
    by_cases hy : y = k
    · subst hy
      constructor
      · rintro (h | h)
        · exact absurd List.mem_cons_self h
        · have e : addN u rev l f y = f := by unfold addN; rw [if_pos h]
          rw [List.foldl_cons, e]
          rw [e] at ih
          exact ih.1 (.inr h)
      · intro _ hlt hfn
        have e : (addN u rev l f y) y = some (fndF rev l y) := by
          unfold addN
          rw [if_neg (by omega)]
          exact upd_same' _ _ _
        have ha : rev ≤ asofM (addN u rev l f y) u y := by
          unfold asofM
          rw [e]
          dsimp only
          rw [hfn]
          split <;> omega
        rw [List.foldl_cons, ih.1 (.inr ha), e]
    · have e : (addN u rev l f y) k = f k := by
        unfold addN
        split
        · rfl
        · exact upd_ne' _ _ (fun e => hy e.symm)
      have ea := asof_congr (u := u) e
      rw [e, ea] at ih
      refine ⟨fun h => ?_, fun h hlt hfn => ?_⟩
      · rw [List.foldl_cons]
        exact ih.1 (h.imp (fun h hk => h (List.mem_cons_of_mem _ hk)) id)
      · rw [List.foldl_cons]
        rcases List.mem_cons.1 h with h | h
        · exact absurd h.symm hy
        · exact ih.2 h hlt hfn
theorem learn_told {L : List Tre} {f : Fcts} {u : Int} {i : Nat} {Y : Tre} {names : List ByteArray} (hY : L[i]? = some Y) (hw : WF Y) (hr : Y.rev = i) (hm : (i : Int) ≤ 1099511627776) (hu : -1 ≤ u) (hK : Know L f u) :
    (learnM f u i names ((tlsM Y.t).filter (namedB names))).2 = 0 ∧ Told1 L f u (learnM f u i names ((tlsM Y.t).filter (namedB names))).1 u ∧
    (learnM (learnM f u i names ((tlsM Y.t).filter (namedB names))).1 u i names ((tlsM Y.t).filter (namedB names))).1 = (learnM f u i names ((tlsM Y.t).filter (namedB names))).1 := by
  obtain ⟨hs, hg⟩ := hw.list
  rw [hr] at hg
  have hof := of_ok (l := (tlsM Y.t).filter (namedB names)) (by omega) hm (List.Pairwise.filter _ hs) (fun x hx => hg x (List.mem_filter.1 hx).1)
  have hany : ((tlsM Y.t).filter (namedB names)).any (fun x => !names.any (eqT x.f0)) = false := by
    rw [List.any_eq_false]
    intro x hx
    have := (List.mem_filter.1 hx).2
    unfold namedB at this
    rw [any_eqT, this]
    decide
  have e0 : ∀ g, learnM g u i names ((tlsM Y.t).filter (namedB names)) = (names.foldl (addN u i ((tlsM Y.t).filter (namedB names))) g, 0) := fun g => by
    unfold learnM
    rw [if_pos hof, hany, if_neg (by decide)]
  rw [e0, e0]
  dsimp only
  by_cases hui : u ≤ (i : Int)
  · have key : ∀ k, (((k ∉ names ∨ (i : Int) ≤ asofM f u k)) ∧ (names.foldl (addN u i ((tlsM Y.t).filter (namedB names))) f) k = f k) ∨ (k ∈ names ∧ asofM f u k < i ∧ (names.foldl (addN u i ((tlsM Y.t).filter (namedB names))) f) k = some (fndF i ((tlsM Y.t).filter (namedB names)) k)) := fun k => by
      obtain ⟨a1, a2⟩ := addN_fold (u := u) (rev := (i : Int)) (l := (tlsM Y.t).filter (namedB names)) hui (k := k) (names := names) (f := f)
      by_cases h : k ∉ names ∨ (i : Int) ≤ asofM f u k
      · exact .inl ⟨h, a1 h⟩
      · have h1 : k ∈ names := by
          by_cases hh : k ∈ names
          · exact hh
          · exact absurd (.inl hh) h
        have h2 : asofM f u k < i := by
          by_cases hh : (i : Int) ≤ asofM f u k
          · exact absurd (.inr hh) h
          · omega
        exact .inr ⟨h1, h2, a2 h1 h2 (fnd_at hw h1 _).1⟩
    have has : ∀ k, ((names.foldl (addN u i ((tlsM Y.t).filter (namedB names))) f) k = f k) ∨ (k ∈ names ∧ asofM f u k < i ∧ asofM (names.foldl (addN u i ((tlsM Y.t).filter (namedB names))) f) u k = i ∧ getM (names.foldl (addN u i ((tlsM Y.t).filter (namedB names))) f) k = Shf.get k Y.t) := fun k => by
      rcases key k with ⟨_, h⟩ | ⟨h1, h2, h3⟩
      · exact .inl h
      · obtain ⟨q1, q2⟩ := fnd_at hw h1 (i : Int)
        refine .inr ⟨h1, h2, ?_, ?_⟩
        · unfold asofM; rw [h3]; dsimp only; rw [q1]; split <;> omega
        · unfold getM; rw [h3]; exact q2
    refine ⟨rfl, ⟨fun k => ?_, Int.le_refl _, fun k => ?_⟩, ?_⟩
    · rcases has k with h | ⟨h1, h2, h3, h4⟩
      · rw [asof_congr h, get_congr h]; exact hK k
      · rw [h3, h4]; exact ⟨fun h => by omega, fun _ => ⟨i, Y, rfl, hY, rfl⟩⟩
    · rcases has k with h | ⟨h1, h2, h3, h4⟩
      · rw [asof_congr h]; exact Int.le_refl _
      · rw [h3]; omega
    · funext k
      obtain ⟨b1, _⟩ := addN_fold (u := u) (rev := (i : Int)) (l := (tlsM Y.t).filter (namedB names)) hui (k := k) (names := names) (f := names.foldl (addN u i ((tlsM Y.t).filter (namedB names))) f)
      refine b1 ?_
      rcases key k with ⟨h, he⟩ | ⟨h1, h2, h3⟩
      · rw [asof_congr he]; exact h
      · rcases has k with h | ⟨_, _, h4, _⟩
        · rw [asof_congr h] 
          rw [h3] at h
          have q := (fnd_at hw h1 (i : Int)).1
          unfold asofM
          rw [← h]
          dsimp only
          rw [q]
          right
          split <;> omega
        · right; omega
  · have hid : ∀ g : Fcts, (names.foldl (addN u i ((tlsM Y.t).filter (namedB names))) g) = g := fun g => by
      have : ∀ (ns : List ByteArray), ns.foldl (addN u i ((tlsM Y.t).filter (namedB names))) g = g := fun ns => by
        induction ns with
        | nil => rfl
        | cons y ns ih =>
          rw [List.foldl_cons]
          have : addN u i ((tlsM Y.t).filter (namedB names)) g y = g := by
            unfold addN
            rw [if_pos (by have := asof_ge g u y; omega)]
          rw [this]; exact ih
      exact this names
    rw [hid]
    exact ⟨rfl, ⟨hK, Int.le_refl _, fun k => Int.le_refl _⟩, hid f⟩
end Go.Proofs.Ytagkobpbhfkmdaa.C
/-! from PF -/
namespace Go.Proofs.Ytagkobpbhfkmdaa.C
open Go.RowKit Go.Proofs.Ytagkobpbhfkmdaa.Q
set_option linter.unusedVariables false
set_option linter.unusedSimpArgs false
theorem list_again (f : Fcts) (u rev : Int) (l : List En) : (listM (listM f u rev l).1.1 (listM f u rev l).1.2 rev l).1 = (listM f u rev l).1 := by
  by_cases h : ofOK l rev = true
  · by_cases hr : rev ≤ u
    · have e : listM f u rev l = ((f, u), 0) := by unfold listM; rw [if_pos h, if_pos hr]
      rw [e]; dsimp only; rw [e]
    · have e : listM f u rev l = ((l.foldl (addL rev) (dropM f rev), rev), 0) := by unfold listM; rw [if_pos h, if_neg hr]
      rw [e]; dsimp only
      unfold listM
      rw [if_pos h, if_pos (Int.le_refl _)]
  · have e : ∀ f u, listM f u rev l = ((f, u), 4) := fun f u => by unfold listM; rw [if_neg h]
    simp only [e]
theorem fold_skip {u rev : Int} (hu : rev ≤ u) : ∀ {l : List Evn} {f : Fcts}, (∀ x ∈ l, x.f0 ≤ rev) → l.foldl (stepW u) f = f
  | [], _, _ => rfl
  | x :: l, f, h => by
    rw [List.foldl_cons, stepW_skip (by have := asof_ge f u x.f2; have := h x List.mem_cons_self; omega)]
    exact fold_skip hu (fun y hy => h y (List.mem_cons_of_mem _ hy))
theorem watch_again (f : Fcts) (u fr rev : Int) (l : List Evn) : (watchM (watchM f u fr rev l).1.1 (watchM f u fr rev l).1.2 fr rev l).1 = (watchM f u fr rev l).1 := by
  by_cases h : cmayB fr rev l = true
  · by_cases hr : u = -1 ∨ u + 1 < fr
    · have e : watchM f u fr rev l = ((f, u), 46) := by unfold watchM; rw [if_pos h, if_pos hr]
      rw [e]; dsimp only; rw [e]
    · have e : watchM f u fr rev l = ((l.foldl (stepW u) f, maxI u rev), 0) := by unfold watchM; rw [if_pos h, if_neg hr]
      have hm := h
      unfold cmayB at hm
      simp only [Bool.and_eq_true, decide_eq_true_iff] at hm
      have hmx : maxI u rev = max u rev := by unfold maxI; split <;> omega
      rw [e]; dsimp only
      unfold watchM
      rw [hmx, if_pos h, if_neg (by omega)]
      dsimp only
      rw [fold_skip (rev := rev) (by omega) (evs_rev hm.2)]
      unfold maxI
      rw [if_neg (by omega)]
  · have e : ∀ f u, watchM f u fr rev l = ((f, u), 4) := fun f u => by unfold watchM; rw [if_neg h]
    simp only [e]
abbrev Tale' := S71
def toN (L : List Tre) (t : Tale') : Nat := t.f2.toNat % L.length
def frN (L : List Tre) (t : Tale') : Nat := t.f1.toNat % (toN L t + 1)
def nowT (L : List Tre) (t : Tale') : Tre := (L[toN L t]?).getD treZ
def sayM (L : List Tre) (f : Fcts) (u : Int) (t : Tale') : Fcts × Int :=
  if t.f0 = 0 then (listM f u (toN L t : Nat) (tlsM (nowT L t).t)).1
  else if t.f0 = 1 then (watchM f u ((frN L t : Nat) + 1) (toN L t : Nat) (sinceM (nowT L t) ((frN L t : Nat) + 1)).1).1
  else ((learnM f u (toN L t : Nat) t.f3 ((tlsM (nowT L t).t).filter (namedB t.f3))).1, u)
theorem nowT_is {X : Tre} {L : List Tre} {n : Nat} (hC : Crs X L n) (t : Tale') : L[toN L t]? = some (nowT L t) ∧ toN L t < L.length := by
  have h : toN L t < L.length := Nat.mod_lt _ hC.pos
  unfold nowT
  rw [List.getElem?_eq_getElem h]
  exact ⟨rfl, h⟩
theorem frN_le (L : List Tre) (t : Tale') : frN L t ≤ toN L t := by
  have : frN L t < toN L t + 1 := Nat.mod_lt _ (by omega)
  omega
/-- What a tale is told with is as it should be; and what it leaves. -/
theorem say_told {X : Tre} {L : List Tre} {n : Nat} (hC : Crs X L n) (hn : L.length ≤ 1000000) {f : Fcts} {u : Int} (hu : -1 ≤ u) (hK : Know L f u) (t : Tale') :
    Told1 L f u (sayM L f u t).1 (sayM L f u t).2 ∧ (t.f0 = 0 → (toN L t : Int) ≤ (sayM L f u t).2) ∧ sayM L (sayM L f u t).1 (sayM L f u t).2 t = sayM L f u t ∧
    (t.f0 = 0 → (listM f u (toN L t : Nat) (tlsM (nowT L t).t)).2 = 0) ∧
    (t.f0 = 1 → (sinceM (nowT L t) ((frN L t : Nat) + 1)).2 = 0 ∧ ((watchM f u ((frN L t : Nat) + 1) (toN L t : Nat) (sinceM (nowT L t) ((frN L t : Nat) + 1)).1).2 = 0 ∨ (sayM L f u t).2 < 0 ∨ (sayM L f u t).2 + 1 < (frN L t : Int) + 1)) ∧
    (t.f0 ≠ 0 → t.f0 ≠ 1 → (learnM f u (toN L t : Nat) t.f3 ((tlsM (nowT L t).t).filter (namedB t.f3))).2 = 0) := by
  obtain ⟨hY, hlt⟩ := nowT_is hC t
  obtain ⟨r1, r2, hw, _⟩ := hC.at_ _ _ hY
  have hm : (toN L t : Int) ≤ 1099511627776 := by omega
  unfold sayM
  by_cases c0 : t.f0 = 0
  · have hl := list_told hY hw r1 hm hu hK
    rw [if_pos c0]
    refine ⟨hl.2.1, fun _ => hl.2.2.1, by rw [if_pos c0]; exact list_again _ _ _ _, fun _ => hl.1, fun h => by omega, fun h => absurd c0 h⟩
  · rw [if_neg c0]
    by_cases c1 : t.f0 = 1
    · rw [if_pos c1]
      have hfl := frN_le L t
      have hF : L[frN L t]? = some L[frN L t] := List.getElem?_eq_getElem (by omega)
      have hZ : L[frN L t + (toN L t - frN L t)]? = some (nowT L t) := by rw [show frN L t + (toN L t - frN L t) = toN L t by omega]; exact hY
      have hwt := watch_told hC hn hF hZ hu hK
      rw [show frN L t + (toN L t - frN L t) = toN L t by omega] at hwt
      obtain ⟨w1, w2, w3, w4, w5, w6⟩ := hwt
      refine ⟨w2, fun h => absurd h c0, by rw [if_neg c0, if_pos c1]; exact watch_again _ _ _ _ _, fun h => absurd h c0, fun _ => ⟨w1, ?_⟩, fun _ h => absurd c1 h⟩
      by_cases hz : (watchM f u ((frN L t : Nat) + 1) (toN L t : Nat) (sinceM (nowT L t) ((frN L t : Nat) + 1)).1).2 = 0
      · exact .inl hz
      · rw [w4 hz]
        exact w3
    · rw [if_neg c1]
      obtain ⟨l1, l2, l3⟩ := learn_told (names := t.f3) hY hw r1 hm hu hK
      refine ⟨l2, fun h => absurd h c0, ?_, fun h => absurd h c0, fun h => absurd h c1, fun _ _ => l1⟩
      rw [if_neg c0, if_neg c1]
      dsimp only
      rw [l3]
def FB (f : Fcts) (n : Nat) : Prop := ∃ L : List ByteArray, (∀ k v, f k = some v → k ∈ L) ∧ L.length ≤ n ∧ ∀ k ∈ L, k.size ≤ 9000000000000000000
theorem FB.bnd {f : Fcts} {n : Nat} (h : FB f n) : FBnd f n := by
  obtain ⟨L, h1, h2, h3⟩ := h
  exact ⟨L, h2, h1, h3⟩
theorem FB.none : FB (fun _ => none) 0 := ⟨[], fun k v h => (by cases h), Nat.le_refl _, fun k hk => (by cases hk)⟩
theorem FB.upd {f : Fcts} {n : Nat} (h : FB f n) {k : ByteArray} (v : Option Fct) (hk : k.size ≤ 9000000000000000000) : FB (upd f k v) (n + 1) := by
  obtain ⟨L, h1, h2, h3⟩ := h
  refine ⟨k :: L, fun i w hi => ?_, by simp; omega, fun i hi => ?_⟩
  · by_cases e : i = k
    · rw [e]; exact List.mem_cons_self
    · rw [upd_ne' _ _ e] at hi
      exact List.mem_cons_of_mem _ (h1 i w hi)
  · rcases List.mem_cons.1 hi with rfl | hi
    · exact hk
    · exact h3 i hi
theorem FB.mono {f : Fcts} {n m : Nat} (h : FB f n) (hm : n ≤ m) : FB f m := by
  obtain ⟨L, h1, h2, h3⟩ := h
  exact ⟨L, h1, Nat.le_trans h2 hm, h3⟩
theorem FB.sub {f g : Fcts} {n : Nat} (h : FB f n) (hg : ∀ k v, g k = some v → ∃ v', f k = some v') : FB g n := by
  obtain ⟨L, h1, h2, h3⟩ := h
  exact ⟨L, fun k v hk => by obtain ⟨v', h⟩ := hg k v hk; exact h1 k v' h, h2, h3⟩
theorem FB.fold {α : Type} (g : Fcts → α → Fcts) (key : α → ByteArray) (hg : ∀ f x k, k ≠ key x → (g f x) k = f k) : ∀ (l : List α) {f : Fcts} {n : Nat}, FB f n → (∀ x ∈ l, (key x).size ≤ 9000000000000000000) → FB (l.foldl g f) (n + l.length)
  | [], _, _, h, _ => h
  | x :: l, f, n, h, hs => by
    rw [List.foldl_cons, List.length_cons, show n + (l.length + 1) = n + 1 + l.length by omega]
    refine FB.fold g key hg l ?_ (fun y hy => hs y (List.mem_cons_of_mem _ hy))
    have := h.upd (k := key x) ((g f x) (key x)) (hs x List.mem_cons_self)
    refine this.sub (fun k v hk => ?_)
    by_cases e : k = key x
    · rw [e] at hk ⊢
      exact ⟨v, by rw [upd_same']; exact hk⟩
    · rw [hg f x k e] at hk
      exact ⟨v, by rw [upd_ne' _ _ e]; exact hk⟩
theorem keyB_size {s : ByteArray} (h : keyB s = true) : s.size ≤ 64 := by
  unfold keyB allK at h
  simp only [Bool.and_eq_true, decide_eq_true_iff] at h
  omega
theorem say_fb {X : Tre} {L : List Tre} {n : Nat} (hC : Crs X L n) (hn : n ≤ 40) {f : Fcts} {u : Int} {m : Nat} (h : FB f m) (t : Tale') (ht : t.f3.length ≤ 20) (hs : ∀ k ∈ t.f3, k.size ≤ 9000000000000000000) : FB (sayM L f u t).1 (m + 320) := by
  obtain ⟨hY, hlt⟩ := nowT_is hC t
  obtain ⟨r1, r2, hw, r3, r4⟩ := hC.at_ _ _ hY
  obtain ⟨_, hg⟩ := hw.list
  have hlen : (tlsM (nowT L t).t).length ≤ 320 := by
    unfold tlsM; rw [List.length_map, Shf.ord_len]; omega
  unfold sayM
  split
  · unfold listM
    split
    · split
      · exact h.mono (by omega)
      · dsimp only
        have h1 : FB (dropM f (toN L t : Nat)) m := h.sub (fun k v hk => by
          unfold dropM at hk
          cases hf : f k with
          | none => rw [hf] at hk; cases hk
          | some v' => exact ⟨v', rfl⟩)
        refine (FB.fold (addL _) (·.f0) (fun f x k hk => ?_) _ h1 (fun x hx => ?_)).mono (by omega)
        · unfold addL; split; rfl; exact upd_ne' _ _ hk
        · have := keyB_size (mayOpB_key (hg x hx).1); show x.f0.size ≤ _; omega
    · exact h.mono (by omega)
  · split
    · have hfl : frN L t < L.length := by have := frN_le L t; omega
      by_cases hcm : cmayB ((frN L t : Nat) + 1) (toN L t : Nat) (sinceM (nowT L t) ((frN L t : Nat) + 1)).1 = true
      · by_cases hrf : u = -1 ∨ u + 1 < ((frN L t : Nat) : Int) + 1
        · unfold watchM; rw [if_pos hcm, if_pos hrf]; exact h.mono (by omega)
        · unfold watchM; rw [if_pos hcm, if_neg hrf]
          dsimp only
          have hle : (sinceM (nowT L t) ((frN L t : Nat) + 1)).1.length ≤ 320 := by
            unfold sinceM
            split
            · simp
            · split
              · simp
              · have := List.length_filter_le (fun x : Evn => decide (((frN L t : Nat) : Int) + 1 ≤ x.f0)) (nowT L t).hap
                dsimp only
                omega
          have hks : ∀ (rev : Int) (l : List Evn) (last : Int), evsB rev last l = true → ∀ x ∈ l, x.f2.size ≤ 64 := fun rev l => by
            induction l with
            | nil => intro _ _ x hx; cases hx
            | cons y l ih =>
              intro last hh x hx
              have hh2 : (evB last rev y && evsB rev y.f0 l) = true := hh
              simp only [Bool.and_eq_true] at hh2
              rcases List.mem_cons.1 hx with rfl | hx
              · have h3 := hh2.1
                unfold evB at h3
                simp only [Bool.and_eq_true] at h3
                exact keyB_size h3.2.2.1
              · exact ih _ hh2.2 x hx
          unfold cmayB at hcm
          rw [Bool.and_eq_true] at hcm
          refine (FB.fold (stepW u) (·.f2) (fun f x k hk => stepW_ne (fun e => hk e.symm)) _ h (fun x hx => ?_)).mono (by omega)
          have := hks _ _ _ hcm.2 x hx
          show x.f2.size ≤ _
          omega
      · unfold watchM; rw [if_neg hcm]; exact h.mono (by omega)
    · dsimp only
      unfold learnM
      split
      · split
        · exact h.mono (by omega)
        · refine (FB.fold (addN u _ _) id (fun f x k hk => ?_) _ h hs).mono (by omega)
          unfold addN; split; rfl; exact upd_ne' _ _ hk
      · exact h.mono (by omega)
theorem skeys_one {f : Fcts} {ks ks' : List ByteArray} (h : SKeys f ks) (h' : SKeys f ks') : ks = ks' := rising_eq h.1 h'.1 (fun k => (h.2 k).trans (h'.2 k).symm)
end Go.Proofs.Ytagkobpbhfkmdaa.C
/-! from COU -/
namespace Go.Proofs.Ytagkobpbhfkmdaa.C
open Go.RowKit Go.Proofs.Ytagkobpbhfkmdaa.Q Go.Proofs.YtagkobpbhfkmdaaW.PrintLast Go.Proofs.YtagkobpbhfkmdaaW.PrintWords
set_option linter.unusedVariables false
set_option linter.unusedSimpArgs false
def ptrV (T : Nat) : Value := .pointer (some ⟨T, 0, none⟩)
def kTP : Kd Nat := Kd.scalar ptrV (fun _ => rfl)
theorem ptr_infoH : (Try.prog.info? 62).map (fun i => (i.zero, i.size, i.bytes)) = some (some (.pointer none), 1, 8) := by kernel_rfl
theorem rd_getT {l : List Txn'} {k : Nat} {x : Txn'} (h : l[k]? = some x) : rd_T101 l (k : Int) = x := by
  unfold rd_T101
  rw [List.getD_eq_getElem?_getD, Int.toNat_natCast, h]
  rfl
theorem cell_lt' {w : World} {p : Addr} {v : Value} (h : w.cell? p = some v) : p.block < w.heap.size := by
  refine Classical.byContradiction fun hn => ?_
  unfold World.cell? at h
  rw [Array.getElem?_eq_none (by omega)] at h
  simp at h
/-- Copies of a tree, apart from F. -/
def TSx (w : World) (F : Nat → Prop) (Bz : Nat) (Ts : List Nat) (L : List Tre) : Prop :=
  Ts.length = L.length ∧ ∀ (i T' : Nat) (Y : Tre), Ts[i]? = some T' → L[i]? = some Y → ¬ F T' ∧ Bz ≤ T' ∧ ∃ A c, TRx w T' Y A c ∧ ∀ ad, A = some ad → ¬ F ad.block
theorem TSx.below {w w' : World} {F : Nat → Prop} {Bz : Nat} {Ts : List Nat} {L : List Tre} (h : TSx w F Bz Ts L) (hb : Below w.heap.size w w') : TSx w' F Bz Ts L :=
  ⟨h.1, fun i T' Y h1 h2 => by obtain ⟨a1, a2, A, c, a3, a4⟩ := h.2 i T' Y h1 h2; exact ⟨a1, a2, A, c, a3.below hb, a4⟩⟩
theorem TSx.fr {w w' : World} {F : Nat → Prop} {Bz : Nat} {Ts : List Nat} {L : List Tre} (h : TSx w F Bz Ts L) (hf : Fr F w w') (hS : ∀ k cs t, F k → w.heap[k]? = some (.cells cs t (0, 0)) → t ≠ 153) : TSx w' F Bz Ts L :=
  ⟨h.1, fun i T' Y h1 h2 => by
    obtain ⟨a1, a2, A, c, a3, a4⟩ := h.2 i T' Y h1 h2
    exact ⟨a1, a2, A, c, a3.fr hf a1 hS a4, a4⟩⟩
theorem TRx.alt {w : World} {T : Nat} {X : Tre} {A : Option Addr} {c : Nat} (h : TRx w T X A c) : T < w.heap.size ∧ ∀ ad, A = some ad → ad.block < w.heap.size ∧ ad.block ≠ T := by
  obtain ⟨v, m, h1, _, _, _, h5⟩ := h
  exact ⟨lt_of_block h1, h5⟩
theorem TSx.mono {w : World} {F G : Nat → Prop} {Bz : Nat} {Ts : List Nat} {L : List Tre} (h : TSx w F Bz Ts L) (hG : ∀ k, k < w.heap.size → G k → F k) : TSx w G Bz Ts L :=
  ⟨h.1, fun i T' Y h1 h2 => by
    obtain ⟨a1, a2, A, c, a3, a4⟩ := h.2 i T' Y h1 h2
    exact ⟨fun g => a1 (hG _ a3.alt.1 g), a2, A, c, a3, fun ad e g => a4 ad e (hG _ (a3.alt.2 ad e).1 g)⟩⟩
theorem TSx.snoc {w : World} {F : Nat → Prop} {Bz T' : Nat} {Ts : List Nat} {L : List Tre} {X : Tre} {A : Option Addr} {c : Nat} (h : TSx w F Bz Ts L) (hT : TRx w T' X A c) (hne : ¬ F T') (hB : Bz ≤ T') (hA : ∀ ad, A = some ad → ¬ F ad.block) : TSx w F Bz (Ts ++ [T']) (L ++ [X]) :=
  ⟨by simp [h.1], fun i T2 Y h1 h2 => by
    by_cases hi : i < Ts.length
    · rw [List.getElem?_append_left hi] at h1
      rw [List.getElem?_append_left (by rw [← h.1]; exact hi)] at h2
      exact h.2 i T2 Y h1 h2
    · rw [List.getElem?_append_right (by omega)] at h1
      rw [List.getElem?_append_right (by rw [← h.1]; omega)] at h2
      have hz : i - Ts.length = 0 := by
        rcases Nat.eq_zero_or_pos (i - Ts.length) with hz | hz
        · exact hz
        · rw [List.getElem?_eq_none (by simp; omega)] at h1; cases h1
      rw [hz] at h1
      rw [← h.1, hz] at h2
      cases h1
      cases h2
      exact ⟨hne, hB, A, c, hT, hA⟩⟩
structure CI (Bz : Nat) (w0 w : World) (T : Nat) (X : Tre) (A : Option Addr) (c : Nat) (L : List Tre) (Ts : List Nat) (V : Value) : Prop where
  t : TRx w T X A c
  na : ∀ ad, A = some ad → some ad.block ≠ V.ownBlock
  ts : TSx w (fun k => k = T ∨ some k = V.ownBlock) Bz Ts L
  row : kTP.R 62 w Bz (fun _ => True) V Ts
  bel : Below Bz w0 w
  size : Bz ≤ w.heap.size
  bt : Bz ≤ T
theorem CI.ne {Bz T c : Nat} {w0 w : World} {X : Tre} {A : Option Addr} {L : List Tre} {Ts : List Nat} {V : Value} (h : CI Bz w0 w T X A c L Ts V) : some T ≠ V.ownBlock := by
  obtain ⟨v, m, b1, _⟩ := h.t
  exact Kd.R_ne h.row b1 (by decide)
theorem CI.types {Bz T c : Nat} {w0 w : World} {X : Tre} {A : Option Addr} {L : List Tre} {Ts : List Nat} {V : Value} (h : CI Bz w0 w T X A c L Ts V) (k : Nat) (cs : Array Value) (t : TypeId) (hk : k = T ∨ some k = V.ownBlock) (ht : w.heap[k]? = some (.cells cs t (0, 0))) : t ≠ 153 := by
  rcases hk with rfl | hk
  · obtain ⟨v, m, b1, _⟩ := h.t
    rw [b1] at ht
    cases ht
    decide
  · obtain ⟨cs', h1⟩ := Kd.R_typed h.row k hk.symm
    rw [h1] at ht
    cases ht
    decide
theorem CI.below {Bz T c : Nat} {w0 w w' : World} {X : Tre} {A : Option Addr} {L : List Tre} {Ts : List Nat} {V : Value} (h : CI Bz w0 w T X A c L Ts V) (hb : Below w.heap.size w w') : CI Bz w0 w' T X A c L Ts V :=
  ⟨h.t.below hb, h.na, h.ts.below hb, Kd.R_below h.row hb, h.bel.trans (hb.mono h.size), Nat.le_trans h.size hb.size, h.bt⟩
theorem CI.do {Bz T c : Nat} {w0 w w' : World} {X X' : Tre} {A A' : Option Addr} {c' : Nat} {L : List Tre} {Ts : List Nat} {V : Value} (h : CI Bz w0 w T X A c L Ts V) (ht : TRx w' T X' A' c') (hA : A' = A ∨ ∀ ad, A' = some ad → w.heap.size ≤ ad.block) (hf : Fr (fun k => k = T) w w') : CI Bz w0 w' T X' A' c' L Ts V :=
  ⟨ht, by
    rcases hA with rfl | hA
    · exact h.na
    · intro ad e hk
      have := Kd.R_lt h.row ad.block hk.symm
      have := hA ad e
      omega, h.ts.fr (hf.mono (fun _ e => .inl e)) h.types, Kd.R_reok rfl (Kd.R_step (Kd.R_tight rfl h.row) (fun k hk hlt => hf.block k hlt (fun e => h.ne (by rw [← e]; exact hk)))) (fun _ _ => trivial), h.bel.trans (hf.below h.size (fun k hk => by have := h.bt; omega)), Nat.le_trans h.size hf.size, h.bt⟩
theorem CI.app {Bz T c T5 : Nat} {w0 w w' : World} {X : Tre} {A : Option Addr} {L : List Tre} {Ts : List Nat} {V V1 : Value} (h : CI Bz w0 w T X A c L Ts V) (ht : TRx w T5 X A c) (hT : T5 ≠ T) (hB : Bz ≤ T5) (hg : w.grownBy w' V.ownBlock) (hr : kTP.R 62 w' Bz (fun _ => True) V1 (Ts ++ [T5])) (hv : V1.ownBlock = V.ownBlock ∨ ∃ b, V1.ownBlock = some b ∧ w.heap.size ≤ b) : CI Bz w0 w' T X A c (L ++ [X]) (Ts ++ [T5]) V1 := by
  have hf : Fr (fun k => some k = V.ownBlock) w w' := Fr.of_grown hg (fun k e => e.symm)
  have hne5 : some T5 ≠ V.ownBlock := by
    obtain ⟨v, m, b1, _⟩ := ht
    exact Kd.R_ne h.row b1 (by decide)
  have hF : ∀ k, k < w.heap.size → (k = T ∨ some k = V1.ownBlock) → (k = T ∨ some k = V.ownBlock) := fun k hk e => by
    rcases e with e | e
    · exact .inl e
    · rcases hv with hv | ⟨b, hv, hb⟩
      · exact .inr (by rw [← hv]; exact e)
      · rw [hv] at e; cases e; omega
  have hS : ∀ k cs t, some k = V.ownBlock → w.heap[k]? = some (.cells cs t (0, 0)) → t ≠ 153 := fun k cs t hk => h.types k cs t (.inr hk)
  refine ⟨h.t.fr hf h.ne hS h.na, ?_, ?_, hr, h.bel.trans (hf.below h.size (fun k hk => Kd.R_base h.row k hk.symm)), Nat.le_trans h.size hf.size, h.bt⟩
  · intro ad e hk
    rcases hv with hv | ⟨b, hv, hb⟩
    · rw [hv] at hk; exact h.na ad e hk
    · rw [hv] at hk; cases hk
      have := (h.t.alt.2 ad e).1
      omega
  · have h1 : TSx w (fun k => k = T ∨ some k = V.ownBlock) Bz (Ts ++ [T5]) (L ++ [X]) := h.ts.snoc ht (fun e => by rcases e with e | e; exact hT e; exact hne5 e) hB (fun ad e hk => by
      rcases hk with hk | hk
      · exact (h.t.alt.2 ad e).2 hk
      · exact h.na ad e hk)
    have h2 := h1.mono hF
    refine ⟨h2.1, fun i T' Y a b => ?_⟩
    obtain ⟨a1, a2, A2, c2, a3, a4⟩ := h1.2 i T' Y a b
    obtain ⟨b1, _, _⟩ := h2.2 i T' Y a b
    refine ⟨b1, a2, A2, c2, a3.fr hf (fun e => a1 (.inr e)) hS (fun ad e hk => a4 ad e (.inr hk)), fun ad e hk => ?_⟩
    exact a4 ad e (hF _ (a3.alt.2 ad e).1 hk)
theorem courseM_take {l : List Txn'} {k : Nat} {x : Txn'} (h : l[k]? = some x) : courseM (l.take (k + 1)) = stepC (courseM (l.take k)) x := by
  unfold courseM
  rw [List.take_add_one, h, List.foldl_append]
  rfl
theorem courseM_crs (l : List Txn') : ∀ k, k ≤ l.length → Crs (courseM (l.take k)).1 (courseM (l.take k)).2 k
  | 0, _ => Crs.start
  | k + 1, h => by
    have h1 : l[k]? = some l[k] := List.getElem?_eq_getElem (by omega)
    rw [courseM_take h1]
    exact (courseM_crs l k (by omega)).step _
set_option maxHeartbeats 8000000 in
set_option maxRecDepth 100000 in
theorem course_calls (A : Option Addr) (c : Nat) (l : List Txn') (w : World) (g : Kd.C k101 w A l.length l) (hlc : l.length ≤ c) (hl : l.length ≤ 40) (hx : ∀ x ∈ l, x.f0.length ≤ 20 ∧ x.f1.length ≤ 20 ∧ (∀ c ∈ x.f0, c.f0.size ≤ 9000000000000000000) ∧ ∀ o ∈ x.f1, o.f1.size ≤ 9000000000000000000) :
    Calls Try.prog 23 #[.slice A l.length c] w fun e w' => ∃ A' c' Ts, e = .returned (.slice A' (courseM l).2.length c') ∧ Ts.length = (courseM l).2.length ∧ (courseM l).2.length ≤ c' ∧ kTP.C w' A' (courseM l).2.length Ts ∧ (∀ (i T : Nat) (Y : Tre), Ts[i]? = some T → (courseM l).2[i]? = some Y → TR w' T Y) ∧ Below w.heap.size w w' := by
  obtain ⟨n, hn⟩ : ∃ n, l.length = n := ⟨_, rfl⟩
  have HG := Aside.mk (And.intro g (And.intro hn hx))
  rw [hn] at hlc hl ⊢
  clear g hn hx
  obtain ⟨Bz, hBz⟩ : ∃ b, w.heap.size = b := ⟨_, rfl⟩
  have HBZ := Aside.mk hBz
  rw [hBz]
  clear hBz
  go_enter Try.func23, Try.ntmps23
  go_wp2_with fail
  refine (tnew_calls w).mono ?_
  rintro e w1 ⟨T, rfl, ⟨A1, c1, ht1⟩, hT1, hb1⟩
  have H1 := Aside.mk (And.intro ht1 (And.intro hT1 hb1))
  clear ht1 hT1 hb1
  go_wp2_with fail
  refine (tcopyx_calls T treZ A1 c1 w1 H1.out.1).mono ?_
  rintro e w2 ⟨T2, rfl, ht2, hT2, hb2⟩
  have HTL := Aside.mk (TR.lt ⟨A1, c1, H1.out.1⟩)
  have HA1 : Aside (∀ ad, A1 = some ad → ad.block ≠ T) := ⟨by obtain ⟨v, m, _, _, _, _, h5⟩ := H1.out.1; exact fun ad e => (h5 ad e).2⟩
  have hN := heap_alloc_new w2 (Obj.cells #[Value.pointer (some ⟨T2, 0, none⟩)] 62 (0, 0))
  have hbz1 : Bz ≤ w1.heap.size := by rw [← HBZ.out]; exact H1.out.2.2.size
  have hbz2 : Bz ≤ w2.heap.size := Nat.le_trans hbz1 hb2.size
  have hown : (w2.alloc (Obj.cells #[Value.pointer (some ⟨T2, 0, none⟩)] 62 (0, 0))).ownsRow Bz 62 1 (.slice (some ⟨w2.heap.size, 0, none⟩) 1 1) 1 [.pointer (some ⟨T2, 0, none⟩)] := World.ownsRow_lit (base := Bz) (e := 62) (size := 1) w2 #[.pointer (some ⟨T2, 0, none⟩)] 1 hbz2 (by decide) (by simp)
  have hbl := (Below.refl w2.heap.size w2).alloc (Nat.le_refl _) (Obj.cells #[Value.pointer (some ⟨T2, 0, none⟩)] 62 (0, 0))
  have H3 : Aside (CI Bz w (w2.alloc (Obj.cells #[Value.pointer (some ⟨T2, 0, none⟩)] 62 (0, 0))) T treZ A1 c1 [treZ] [T2] (.slice (some ⟨w2.heap.size, 0, none⟩) 1 1)) := ⟨by
    have hlt := HTL.out
    have ha := H1.out.1.alt
    have hs := hb2.size
    refine ⟨(H1.out.1.below hb2).below hbl, fun ad e hk => ?_, ?_, Kd.R_of_own (enc := ptrV) (xs := [T2]) hown (fun _ _ => trivial), ?_, Nat.le_trans hbz2 hbl.size, by rw [← HBZ.out]; exact H1.out.2.1⟩
    · have := (ha.2 ad e).1
      have e2 : ad.block = w2.heap.size := by simpa [Value.ownBlock] using hk
      omega
    · refine TSx.below (w := w2) ?_ hbl
      have h0 : TSx w2 (fun k => k = T ∨ some k = (Value.slice (some ⟨w2.heap.size, 0, none⟩) 1 1).ownBlock) Bz [] [] := ⟨rfl, fun i T' Y h => by simp at h⟩
      have h2 := (TR.lt ⟨A1, c1, ht2⟩)
      refine h0.snoc ht2 (fun e => ?_) (by omega) (fun ad e hk => ?_)
      · rcases e with e | e
        · omega
        · have e2 : T2 = w2.heap.size := by simpa [Value.ownBlock] using e
          omega
      · have h3 := (ha.2 ad e).1
        rcases hk with hk | hk
        · exact (ha.2 ad e).2 hk
        · have e2 : ad.block = w2.heap.size := by simpa [Value.ownBlock] using hk
          omega
    · have h1 := H1.out.2.2
      rw [HBZ.out] at h1
      exact (h1.trans (hb2.mono hbz1)).trans (hbl.mono hbz2)⟩
  clear ht2 hT2 hb2 HA1 hN hbz1 hbz2 hown hbl HTL
  go_wp2_with fail
  generalize w2.alloc (Obj.cells #[Value.pointer (some ⟨T2, 0, none⟩)] 62 (0, 0)) = w3 at *
  clear H1
  go_loopw [4, 5] (fun v4 v5 wr => ∃ k : Nat, k ≤ n ∧ v5 = .int .i64 k ∧ Aside (∃ A c Ts, CI Bz w wr T (courseM (l.take k)).1 A c (courseM (l.take k)).2 Ts v4)) (fun _ v5 _ => n - (intOf v5).toNat)
  case atStart => exact ⟨0, by omega, rfl, ⟨A1, c1, [T2], H3.out⟩⟩
  case round =>
    obtain ⟨k, hk, rfl, HI⟩ := hrel
    have hcr := courseM_crs l k (by rw [HG.out.2.1]; exact hk)
    by_cases hkn : k < n
    · obtain ⟨x, hx⟩ : ∃ x, l[k]? = some x := ⟨_, List.getElem?_eq_getElem (by rw [HG.out.2.1]; exact hkn)⟩
      have hst := courseM_take hx
      obtain ⟨P, hP⟩ : ∃ P, courseM (l.take k) = P := ⟨_, rfl⟩
      have HI2 := HI.out
      rw [hP] at hst HI2 hcr
      obtain ⟨X, L⟩ := P
      dsimp only at HI2 hcr
      obtain ⟨A2, c2, Ts, hci⟩ := HI2
      have hB' : Below w.heap.size w wr := by rw [HBZ.out]; exact hci.bel
      obtain ⟨ad, B0, d0, B1, d1, he, q0, q1, l0, g0, l1, g1⟩ := at_T101 (Kd.C_below HG.out.1 hB') (k : Int) (by omega) (by rw [HG.out.2.1]; omega)
      rw [rd_getT hx] at q0 q1 l0 g0 l1 g1
      simp only [Int.toNat_natCast] at q0 q1
      obtain ⟨e0, e1, e2, e3⟩ := HG.out.2.2 x (List.mem_of_getElem? hx)
      obtain ⟨r1, r2, r3, r4, r5⟩ := hcr.at_ _ X hcr.last
      have hcl := hcr.len
      have hpos := hcr.pos
      have hdo := do_calls T X x B0 B1 d0 d1 wr A2 c2 hci.t r3.ok (by omega) (by omega) (by rw [r1]; omega) g0 g1 l0 l1 (by omega) (by omega) e2 e3 (fun hp ad' e => by
        obtain ⟨ad2, B0', d0', B1', d1', he', q0', q1', l0', g0', l1', g1'⟩ := at_T101 HG.out.1 (k : Int) (by omega) (by rw [HG.out.2.1]; omega)
        rw [rd_getT hx] at q0' q1' l0' g0' l1' g1'
        simp only [Int.toNat_natCast] at q0' q1'
        rw [he] at he'
        cases he'
        have hq := (hB'.cell (p := ⟨(ad.add (k * 2)).block, (ad.add (k * 2)).off + 1, none⟩) (cell_lt' q1')).trans q1'
        rw [q1] at hq
        cases hq
        subst e
        obtain ⟨ad3, he3, z1, _⟩ := at_T117 g1' 0 (by omega) (by omega)
        cases he3
        have := cell_lt' z1
        have h5 := hci.bt
        have h6 := HBZ.out
        show ad'.block ≠ T
        have h7 : (ad'.add ((0 : Int).toNat * 3)).block = ad'.block := rfl
        omega)
      have hstep : stepC (X, L) x = ((doM X x).1, if (doM X x).2.2 = 0 ∧ (doM X x).2.1 = true ∧ (doM X x).1.rev = L.length then L ++ [(doM X x).1] else L) := rfl
      rw [hstep] at hst
      obtain ⟨D, hD⟩ : ∃ D, doM X x = D := ⟨_, rfl⟩
      rw [hD] at hdo hst
      obtain ⟨X', dn, er⟩ := D
      dsimp only at hdo hst
      obtain ⟨n0, hn0⟩ : ∃ m, x.f0.length = m := ⟨_, rfl⟩
      obtain ⟨n1, hn1⟩ : ∃ m, x.f1.length = m := ⟨_, rfl⟩
      rw [hn0] at q0 hdo
      rw [hn1] at q1 hdo
      have HS := Aside.mk hst
      have HCI := Aside.mk hci
      have HLL : Aside (L.length ≤ 41) := ⟨by omega⟩
      subst he
      clear hci hB' g0 g1 l0 l1 e0 e1 e2 e3 r1 r2 r3 r4 r5 hcl hpos hst hstep hD hn0 hn1 hx hP HI hcr
      go_wp2_with fail
      refine hdo.mono ?_
      rintro e w4 ⟨⟨V, rfl⟩, ⟨A4, c4, ht4, hA4⟩, hf4⟩
      have H4 := Aside.mk (HCI.out.do ht4 hA4 hf4)
      clear ht4 hA4 hf4 HCI hdo q0 q1
      obtain ⟨A5, c5, hv4⟩ := Kd.R_slice H4.out.row
      have hTl : Ts.length = L.length := H4.out.ts.1
      rw [hTl] at hv4
      subst hv4
      have HTL := Aside.mk hTl
      clear hTl
      by_cases hc : er = 0 ∧ dn = true ∧ X'.rev = L.length
      · obtain ⟨rfl, rfl, hrv⟩ := hc
        have hst : courseM (l.take (k + 1)) = (X', L ++ [X']) := by rw [HS.out, if_pos ⟨rfl, rfl, hrv⟩]
        have HS2 := Aside.mk hst
        clear hst HS
        go_wp2_with fail
        refine (trev_calls T X' w4 ⟨A4, c4, H4.out.t⟩).mono ?_
        rintro e w5 ⟨rfl, rfl⟩
        rw [hrv]
        clear hrv
        go_wp2_with fail
        refine (tcopyx_calls T X' A4 c4 w4 H4.out.t).mono ?_
        rintro e w5 ⟨T5, rfl, ht5, hT5, hb5⟩
        have hTl4 := H4.out.t.alt.1
        have H5 := Aside.mk (And.intro (H4.out.below hb5) (And.intro ht5 (And.intro (show T5 ≠ T by omega) (Nat.le_trans H4.out.size hT5))))
        clear ht5 hT5 hb5 hTl4 H4
        go_wp2_with (at_builtin; refine Kd.R_append kTP Bz rfl _ _ 59 62 (.pointer none) 8 rfl Try.underlying59 ptr_infoH rfl (by decide) (by decide) (.slice A5 L.length c5) Ts T5 [.pointer (some ⟨T5, 0, none⟩)] (fun _ => True) (fun _ => False) rfl rfl rfl (fun _ h => h.elim) (fun _ _ => trivial) H5.out.1.row (Below.refl Bz _) H5.out.1.size (by have := HLL.out; have := HTL.out; omega) ?_; rintro V1 W2 hr2 hb2 hg2 hv2)
        have H6 := Aside.mk (H5.out.1.app H5.out.2.1 H5.out.2.2.1 H5.out.2.2.2 hg2 hr2 hv2)
        clear hr2 hb2 hg2 hv2 H5
        go_wp2_with fail
        go_roundw
        case rel => exact ⟨k + 1, by omega, by go_num, ⟨A4, c4, _, by rw [HS2.out]; exact H6.out⟩⟩
        case measure => simp [intOf]; omega
      · have hst : courseM (l.take (k + 1)) = (X', L) := by rw [HS.out, if_neg hc]
        have HS2 := Aside.mk hst
        clear hst HS
        by_cases h1 : er = 0
        · subst h1
          cases dn with
          | false =>
            go_wp2_with fail
            go_roundw
            case rel => exact ⟨k + 1, by omega, by go_num, ⟨A4, c4, _, by rw [HS2.out]; exact H4.out⟩⟩
            case measure => simp [intOf]; omega
          | true =>
            have hrv : ¬ X'.rev = L.length := fun e => hc ⟨rfl, rfl, e⟩
            clear hc
            go_wp2_with fail
            refine (trev_calls T X' w4 ⟨A4, c4, H4.out.t⟩).mono ?_
            rintro e w5 ⟨rfl, rfl⟩
            go_wp2_with fail
            go_roundw
            case rel => exact ⟨k + 1, by omega, by go_num, ⟨A4, c4, _, by rw [HS2.out]; exact H4.out⟩⟩
            case measure => simp [intOf]; omega
        · have h1b : (er == 0) = false := beq_false_of_ne h1
          clear hc
          go_wp2_with fail
          go_roundw
          case rel => exact ⟨k + 1, by omega, by go_num, ⟨A4, c4, _, by rw [HS2.out]; exact H4.out⟩⟩
          case measure => simp [intOf]; omega
    · obtain rfl : n = k := by omega
      have htk : l.take n = l := List.take_of_length_le (by rw [HG.out.2.1]; exact Nat.le_refl _)
      have HI2 := HI.out
      rw [htk] at HI2
      have HI := Aside.mk HI2
      clear htk HI2 hcr
      go_wp2_with fail
      go_ret
      obtain ⟨A2, c2, Ts, hci⟩ := HI.out
      obtain ⟨A3, c3, hv, hc3, hC3⟩ := Kd.R_reads hci.row
      have hl := hci.ts.1
      rw [hl] at hv hc3 hC3
      subst hv
      exact ⟨A3, c3, Ts, rfl, hl, hc3, hC3, fun i T' Y h1 h2 => by obtain ⟨_, _, A, c, h, _⟩ := hci.ts.2 i T' Y h1 h2; exact ⟨A, c, h⟩, hci.bel⟩
end Go.Proofs.Ytagkobpbhfkmdaa.C
/-! from ALL -/
namespace Go.Proofs.Ytagkobpbhfkmdaa.C
open Go.RowKit Go.Proofs.Ytagkobpbhfkmdaa.Q Go.Proofs.YtagkobpbhfkmdaaW.PrintLast Go.Proofs.YtagkobpbhfkmdaaW.PrintWords
set_option linter.unusedVariables false
set_option linter.unusedSimpArgs false
def opKeys (l : List Txn') : List ByteArray := l.flatMap fun x => x.f1.map (·.f1)
def allM (l : List Txn') (ts : List Tale') : List ByteArray := opKeys l ++ ts.flatMap (·.f3)
theorem rd_getTl {l : List Tale'} {k : Nat} {x : Tale'} (h : l[k]? = some x) : rd_T71 l (k : Int) = x := by
  unfold rd_T71
  rw [List.getD_eq_getElem?_getD, Int.toNat_natCast, h]
  rfl
theorem rd_getOp {l : List Opn} {k : Nat} {x : Opn} (h : l[k]? = some x) : rd_T117 l (k : Int) = x := by
  unfold rd_T117
  rw [List.getD_eq_getElem?_getD, Int.toNat_natCast, h]
  rfl
theorem flat_take {α β : Type} (f : α → List β) {l : List α} {k : Nat} {x : α} (h : l[k]? = some x) : (l.take (k + 1)).flatMap f = (l.take k).flatMap f ++ f x := by
  rw [List.take_add_one, h, List.flatMap_append]
  simp
theorem map_take {α β : Type} (f : α → β) {l : List α} {k : Nat} {x : α} (h : l[k]? = some x) : (l.take (k + 1)).map f = (l.take k).map f ++ [f x] := by
  rw [List.take_add_one, h, List.map_append]
  rfl
theorem flat_len {α β : Type} (f : α → List β) (m : Nat) : ∀ l : List α, (∀ x ∈ l, (f x).length ≤ m) → (l.flatMap f).length ≤ m * l.length
  | [], _ => by simp
  | x :: l, h => by
    have h1 := flat_len f m l (fun y hy => h y (List.mem_cons_of_mem _ hy))
    have h2 := h x List.mem_cons_self
    rw [List.flatMap_cons, List.length_append, List.length_cons, Nat.mul_succ]
    omega
set_option maxHeartbeats 8000000 in
set_option maxRecDepth 100000 in
theorem all_calls (A B : Option Addr) (c d : Nat) (l : List Txn') (ts : List Tale') (w : World) (g : Kd.C k101 w A l.length l) (g2 : Kd.C k71 w B ts.length ts) (hlc : l.length ≤ c) (hld : ts.length ≤ d) (hl : l.length ≤ 40) (ht : ts.length ≤ 60) (hx : ∀ x ∈ l, x.f1.length ≤ 20) (hy : ∀ t ∈ ts, t.f3.length ≤ 20) :
    Calls Try.prog 28 #[.slice A l.length c, .slice B ts.length d] w fun e w' => ∃ A' c', e = .returned (.slice A' (allM l ts).length c') ∧ (allM l ts).length ≤ c' ∧ Kd.string.C w' A' (allM l ts).length (allM l ts) ∧ Below w.heap.size w w' := by
  obtain ⟨n, hn⟩ : ∃ n, l.length = n := ⟨_, rfl⟩
  obtain ⟨m, hm⟩ : ∃ n, ts.length = n := ⟨_, rfl⟩
  have HG := Aside.mk (And.intro g (And.intro hn hx))
  have HG2 := Aside.mk (And.intro g2 (And.intro hm hy))
  rw [hn] at hlc hl ⊢
  rw [hm] at hld ht ⊢
  clear g hn hx g2 hm hy
  obtain ⟨Bz, hBz⟩ : ∃ b, w.heap.size = b := ⟨_, rfl⟩
  have HBZ := Aside.mk hBz
  rw [hBz]
  clear hBz
  go_enter Try.func28, Try.ntmps28
  go_wp2_with fail
  go_loopw [5, 6] (fun v5 v6 wr => ∃ k : Nat, k ≤ n ∧ v6 = .int .i64 k ∧ Aside (Kd.string.R 9 wr Bz (fun _ => True) v5 (opKeys (l.take k)) ∧ Below Bz w wr)) (fun _ v6 _ => n - (intOf v6).toNat)
  case atStart => exact ⟨0, by omega, rfl, ⟨Kd.R_nil _ _ _ _ _, Below.refl _ _⟩⟩
  case round =>
    obtain ⟨k, hk, rfl, HI⟩ := hrel
    by_cases hkn : k < n
    · obtain ⟨x, hx⟩ : ∃ x, l[k]? = some x := ⟨_, List.getElem?_eq_getElem (by rw [HG.out.2.1]; exact hkn)⟩
      have hB' : Below w.heap.size w wr := by rw [HBZ.out]; exact HI.out.2
      obtain ⟨ad, B0, d0, B1, d1, he, q0, q1, l0, g0, l1, g1⟩ := at_T101 HG.out.1 (k : Int) (by omega) (by rw [HG.out.2.1]; omega)
      rw [rd_getT hx] at q0 q1 l0 g0 l1 g1
      simp only [Int.toNat_natCast] at q0 q1
      have hx20 := HG.out.2.2 x (List.mem_of_getElem? hx)
      have hst := flat_take (fun x : Txn' => x.f1.map (·.f1)) hx
      have hln : (opKeys (l.take k)).length ≤ 800 := by
        have := flat_len (fun x : Txn' => x.f1.map (·.f1)) 20 (l.take k) (fun y hy => by rw [List.length_map]; exact HG.out.2.2 y (List.mem_of_mem_take hy))
        have h2 := List.length_take_le k l
        unfold opKeys
        omega
      obtain ⟨n1, hn1⟩ : ∃ m, x.f1.length = m := ⟨_, rfl⟩
      rw [hn1] at q1 hx20 l1
      have HQ := Aside.mk (And.intro q1 (And.intro (cell_lt' q1) (And.intro g1 (And.intro hn1 (And.intro (show (l.take (k+1)).flatMap (fun x : Txn' => x.f1.map (·.f1)) = opKeys (l.take k) ++ x.f1.map (·.f1) from hst) hln)))))
      subst he
      clear q0 q1 l0 g0 g1 hn1 hst hln hx
      have q1 := (hB'.cell (p := ⟨(ad.add (k * 2)).block, (ad.add (k * 2)).off + 1, none⟩) HQ.out.2.1).trans HQ.out.1
      clear hB'
      go_wp2_with fail
      go_loopw [5, 7] (fun v5 v7 wq => ∃ j : Nat, j ≤ n1 ∧ v7 = .int .i64 j ∧ Aside (Kd.string.R 9 wq Bz (fun _ => True) v5 (opKeys (l.take k) ++ (x.f1.take j).map (·.f1)) ∧ Below Bz w wq)) (fun _ v7 _ => n1 - (intOf v7).toNat)
      case atStart => exact ⟨0, by omega, rfl, ⟨by simpa using HI.out.1, HI.out.2⟩⟩
      case round =>
        obtain ⟨j, hj, rfl, HJ⟩ := hrel
        have hB' : Below w.heap.size w wr := by rw [HBZ.out]; exact HJ.out.2
        have q1 := (hB'.cell (p := ⟨(ad.add (k * 2)).block, (ad.add (k * 2)).off + 1, none⟩) HQ.out.2.1).trans HQ.out.1
        by_cases hjn : j < n1
        · obtain ⟨o, ho⟩ : ∃ o, x.f1[j]? = some o := ⟨_, List.getElem?_eq_getElem (by rw [HQ.out.2.2.2.1]; exact hjn)⟩
          obtain ⟨ae, he, z0, z1, z2⟩ := at_T117 (Kd.C_below HQ.out.2.2.1 hB') (j : Int) (by omega) (by rw [HQ.out.2.2.2.1]; omega)
          rw [rd_getOp ho] at z0 z1 z2
          simp only [Int.toNat_natCast] at z0 z1 z2
          have hst := map_take (fun o : Opn => o.f1) ho
          have hlen : (opKeys (l.take k) ++ (x.f1.take j).map (·.f1)).length ≤ 1000 := by
            have h1 := HQ.out.2.2.2.2.2
            have h2 := List.length_take_le j x.f1
            rw [List.length_append, List.length_map]
            omega
          have HS := Aside.mk (And.intro hst hlen)
          subst he
          clear hst hlen ho z0 z2
          obtain ⟨o0, o1, o2⟩ := o
          dsimp only at z1
          obtain ⟨V, hV⟩ : ∃ v, u5 = v := ⟨_, rfl⟩
          have HBw : Aside (Bz ≤ wr.heap.size) := ⟨by rw [← HBZ.out]; exact hB'.size⟩
          go_wp2_with (at_builtin; refine Kd.R_append Kd.string Bz rfl _ _ 29 9 (.string (ByteArray.mk #[])) 16 rfl Try.underlying29 str_info rfl (by decide) (by decide) u5 (opKeys (l.take k) ++ (x.f1.take j).map (·.f1)) o1 [.string o1] (fun _ => True) (fun _ => False) rfl rfl rfl (fun _ h => h.elim) (fun _ _ => trivial) HJ.out.1 (Below.refl Bz _) HBw.out (by have := HS.out.2; omega) ?_; rintro V1 W2 hr2 hb2 hg2 -)
          have HJ2 : Aside (Kd.string.R 9 W2 Bz (fun _ => True) V1 (opKeys (l.take k) ++ (x.f1.take (j + 1)).map (·.f1)) ∧ Below Bz w W2) := ⟨by rw [HS.out.1, ← List.append_assoc]; exact hr2, HJ.out.2.trans hb2⟩
          clear hr2 hb2 hg2 HJ hB'
          go_wp2_with fail
          go_roundw
          case rel => exact ⟨j + 1, by omega, by go_num, HJ2⟩
          case measure => simp [intOf]; omega
        · obtain rfl : n1 = j := by omega
          clear hB'
          have htk : x.f1.take n1 = x.f1 := List.take_of_length_le (by rw [HQ.out.2.2.2.1]; exact Nat.le_refl _)
          go_wp2_with fail
          go_roundw
          case rel => exact ⟨k + 1, by omega, by go_num, ⟨by have h := HJ.out.1; rw [htk] at h; show Kd.string.R _ _ _ _ _ ((l.take (k + 1)).flatMap (fun x : Txn' => x.f1.map (·.f1))); rw [HQ.out.2.2.2.2.1]; exact h, HJ.out.2⟩⟩
          case measure => simp [intOf]; omega
    · obtain rfl : n = k := by omega
      have htk : l.take n = l := List.take_of_length_le (by rw [HG.out.2.1]; exact Nat.le_refl _)
      have HI2 := HI.out
      rw [htk] at HI2
      have HI := Aside.mk HI2
      clear htk HI2
      go_wp2_with fail
      go_loopw [5, 8] (fun v5 v8 wr => ∃ k : Nat, k ≤ m ∧ v8 = .int .i64 k ∧ Aside (Kd.string.R 9 wr Bz (fun _ => True) v5 (opKeys l ++ (ts.take k).flatMap (·.f3)) ∧ Below Bz w wr)) (fun _ v8 _ => m - (intOf v8).toNat)
      case atStart => exact ⟨0, by omega, rfl, ⟨by simpa using HI.out.1, HI.out.2⟩⟩
      case round =>
        obtain ⟨k, hk, rfl, HJ⟩ := hrel
        by_cases hkm : k < m
        · obtain ⟨t, hx⟩ : ∃ x, ts[k]? = some x := ⟨_, List.getElem?_eq_getElem (by rw [HG2.out.2.1]; exact hkm)⟩
          have hB' : Below w.heap.size w wr := by rw [HBZ.out]; exact HJ.out.2
          obtain ⟨ad, A3, d3, he, q0, q1, q2, q3, l3, g3⟩ := at_T71 (Kd.C_below HG2.out.1 hB') (k : Int) (by omega) (by rw [HG2.out.2.1]; omega)
          rw [rd_getTl hx] at q0 q1 q2 q3 l3 g3
          simp only [Int.toNat_natCast] at q0 q1 q2 q3
          have hst := flat_take (fun x : Tale' => x.f3) hx
          have hx20 := HG2.out.2.2 t (List.mem_of_getElem? hx)
          have hlen : (opKeys l ++ (ts.take k).flatMap (fun x : Tale' => x.f3)).length ≤ 2000 := by
            have h1 := flat_len (fun x : Tale' => x.f3) 20 (ts.take k) (fun y hy => HG2.out.2.2 y (List.mem_of_mem_take hy))
            have h2 := List.length_take_le k ts
            have h3 := flat_len (fun x : Txn' => x.f1.map (·.f1)) 20 l (fun y hy => by rw [List.length_map]; exact HG.out.2.2 y hy)
            have h4 := HG.out.2.1
            rw [List.length_append]
            unfold opKeys
            omega
          have HS := Aside.mk (And.intro hst (And.intro hlen (And.intro g3 hx20)))
          have HBw : Aside (Bz ≤ wr.heap.size) := ⟨by rw [← HBZ.out]; exact hB'.size⟩
          obtain ⟨n3, hn3⟩ : ∃ n, t.f3.length = n := ⟨_, rfl⟩
          rw [hn3] at q3
          have HN3 := Aside.mk hn3
          subst he
          clear hst hlen hx g3 hx20 q0 q1 q2 hB' hn3 l3
          go_wp2_with (at_builtin; refine Kd.R_append_rows Kd.string (Rr := Kd.string.K wr) Bz rfl _ _ 29 9 (.string (ByteArray.mk #[])) 16 rfl Try.underlying29 str_info rfl (by decide) (by decide) u5 (opKeys l ++ (ts.take k).flatMap (fun x : Tale' => x.f3)) t.f3 A3 n3 d3 (fun _ => True) (fun _ => False) rfl rfl HJ.out.1 (by have h := HS.out.2.2.1; rw [HN3.out] at h; exact h) (fun x cs h => h) (fun _ h => h.elim) (fun _ _ => trivial) (Below.refl Bz _) HBw.out (by have := HS.out.2.1; have := HS.out.2.2.2; have := HN3.out; omega) ?_; rintro V1 W2 hr2 hb2 hg2 -)
          have HJ2 : Aside (Kd.string.R 9 W2 Bz (fun _ => True) V1 (opKeys l ++ (ts.take (k + 1)).flatMap (fun x : Tale' => x.f3)) ∧ Below Bz w W2) := ⟨by rw [HS.out.1, ← List.append_assoc]; exact hr2, HJ.out.2.trans hb2⟩
          clear hr2 hb2 hg2 HJ
          go_wp2_with fail
          go_roundw
          case rel => exact ⟨k + 1, by omega, by go_num, HJ2⟩
          case measure => simp [intOf]; omega
        · obtain rfl : m = k := by omega
          have htk : ts.take m = ts := List.take_of_length_le (by rw [HG2.out.2.1]; exact Nat.le_refl _)
          have HJ2 := HJ.out
          rw [htk] at HJ2
          have HJ := Aside.mk HJ2
          clear htk HJ2
          go_wp2_with fail
          go_ret
          obtain ⟨A3, c3, hv, hc3, hC3⟩ := Kd.R_reads HJ.out.1
          subst hv
          exact ⟨A3, c3, rfl, hc3, hC3, HJ.out.2⟩
end Go.Proofs.Ytagkobpbhfkmdaa.C
/-! from SAY -/
namespace Go.Proofs.Ytagkobpbhfkmdaa.C
open Go.RowKit Go.Proofs.Ytagkobpbhfkmdaa.Q Go.Proofs.YtagkobpbhfkmdaaW.PrintLast Go.Proofs.YtagkobpbhfkmdaaW.PrintWords
set_option linter.unusedVariables false
set_option linter.unusedSimpArgs false
/-- A row of trees. -/
def TLs (w : World) (A : Option Addr) (L : List Tre) : Prop := ∃ Ts : List Nat, Ts.length = L.length ∧ kTP.C w A L.length Ts ∧ ∀ (i T : Nat) (Y : Tre), Ts[i]? = some T → L[i]? = some Y → TR w T Y
theorem TLs.below {w w' : World} {A : Option Addr} {L : List Tre} (h : TLs w A L) (hb : Below w.heap.size w w') : TLs w' A L := by
  obtain ⟨Ts, h1, h2, h3⟩ := h
  exact ⟨Ts, h1, Kd.C_below h2 hb, fun i T Y a b => (h3 i T Y a b).below hb⟩
theorem TLs.at_ {w : World} {A : Option Addr} {L : List Tre} (h : TLs w A L) {i : Nat} {Y : Tre} (hY : L[i]? = some Y) : ∃ ad T, A = some ad ∧ w.cell? (ad.add i) = some (.pointer (some ⟨T, 0, none⟩)) ∧ TR w T Y := by
  obtain ⟨Ts, h1, h2, h3⟩ := h
  have hi : i < L.length := by
    rcases Nat.lt_or_ge i L.length with hh | hh
    · exact hh
    · rw [List.getElem?_eq_none hh] at hY; cases hY
  obtain ⟨T0, hT⟩ : ∃ T0, Ts[i]? = some T0 := ⟨_, List.getElem?_eq_getElem (by omega)⟩
  obtain ⟨ad, c, e, _, hK, hc0⟩ := Kd.C_get h2 0 (i : Int) (by omega) (by omega)
  have hd : Ts.getD (i : Int).toNat 0 = T0 := by rw [List.getD_eq_getElem?_getD, Int.toNat_natCast, hT]; rfl
  rw [hd] at hK
  have hK' : c = [ptrV T0] := hK
  subst hK'
  refine ⟨ad, T0, e, ?_, h3 i _ Y hT hY⟩
  have := hc0 0 _ rfl
  rw [Int.toNat_natCast, show i * kTP.sz + 0 = i from by show i * 1 + 0 = i; omega] at this
  exact this
theorem at_str {w : World} {A : Option Addr} {n : Nat} {l : List ByteArray} (h : Kd.string.C w A n l) {i : Nat} {x : ByteArray} (hx : l[i]? = some x) : ∃ ad, A = some ad ∧ w.cell? (ad.add i) = some (.string x) := by
  have hl : n = l.length := (Kd.C_len h).symm
  have hi : i < l.length := by
    rcases Nat.lt_or_ge i l.length with hh | hh
    · exact hh
    · rw [List.getElem?_eq_none hh] at hx; cases hx
  obtain ⟨ad, c, e, _, hK, hc0⟩ := Kd.C_get h ByteArray.empty (i : Int) (by omega) (by omega)
  have hd : l.getD (i : Int).toNat ByteArray.empty = x := by rw [List.getD_eq_getElem?_getD, Int.toNat_natCast, hx]; rfl
  rw [hd] at hK
  have hK' : c = [.string x] := hK
  subst hK'
  refine ⟨ad, e, ?_⟩
  have := hc0 0 _ rfl
  rw [Int.toNat_natCast, show i * Kd.string.sz + 0 = i from by show i * 1 + 0 = i; omega] at this
  exact this
theorem drewN_two (w : World) (a b : Nat) : (w.drewN a).drewN b = w.drewN (a + b) := by
  simp [World.drewN, Nat.add_assoc]
theorem modN (a : Int) (n : Nat) (h0 : 0 ≤ a) : Int.tmod a (n : Int) = ((a.toNat % n : Nat) : Int) := by
  obtain ⟨k, rfl⟩ := Int.eq_ofNat_of_zero_le h0
  rw [Int.toNat_natCast]
  rfl
theorem hap_ev {X : Tre} {L : List Tre} {n : Nat} (hC : Crs X L n) : ∀ (i : Nat) (Y : Tre), L[i]? = some Y → ∀ x ∈ Y.hap, evOK x
  | 0, Y, hY, x, hx => by
    rw [hC.zero] at hY
    cases hY
    cases hx
  | i + 1, Y, hY, x, hx => by
    have hi : i + 1 < L.length := by
      rcases Nat.lt_or_ge (i + 1) L.length with hh | hh
      · exact hh
      · rw [List.getElem?_eq_none hh] at hY; cases hY
    have hZ : L[i]? = some (L[i]'(by omega)) := List.getElem?_eq_getElem (by omega)
    obtain ⟨evs, e1, e2, _⟩ := (hC.next i _ Y hZ hY).ev
    rw [e1] at hx
    rcases List.mem_append.1 hx with hx | hx
    · exact hap_ev hC i _ hZ x hx
    · exact (e2 x hx).2
def sy24T : Bool × List (List Nat × List Nat) := (true, [([], []), ([], []), ([1], [1]), ([], []), ([], []), ([4], [4]), ([0, 2, 3, 5, 5], [0, 2, 3, 5]), ([6], [6]), ([7, 6, 0, 1, 2, 3, 4, 5, 6, 7], [7])])
def sy24B : List Nat := [0, 0, 2, 0, 0, 16, 63, 127, 255]
theorem sy24_tab : rtab .any (opsOf Try.f30 24) = sy24T := by kernel_rfl
theorem sy24_bits : waitsOk sy24T.2 sy24B = true := by kernel_rfl
set_option maxHeartbeats 8000000 in
set_option maxRecDepth 100000 in
theorem say_calls (C M : Nat) (f : Fcts) (u : Int) (A B3 : Option Addr) (cL d3 n : Nat) (X : Tre) (L : List Tre) (hC : Crs X L n) (hn : n ≤ 40) (t : Tale') (w : World) (hca : CA w C M f u) (hL : TLs w A L) (hlc : L.length ≤ cL) (gn : Kd.string.C w B3 t.f3.length t.f3) (hd : t.f3.length ≤ d3) (h20 : t.f3.length ≤ 20)
    (ht0 : 0 ≤ t.f0 ∧ t.f0 ≤ 255) (ht1 : 0 ≤ t.f1 ∧ t.f1 ≤ 255) (ht2 : 0 ≤ t.f2 ∧ t.f2 ≤ 255) (hu : -1 ≤ u ∧ u ≤ 1099511627776) (hK : Know L f u) (hA3 : 0 < t.f3.length → ∀ ad, B3 = some ad → ad.block ≠ C ∧ ad.block ≠ M) :
    Calls Try.prog 30 #[.pointer (some ⟨C, 0, none⟩), .slice A L.length cL, .agg #[.int .u8 t.f0, .int .u8 t.f1, .int .u8 t.f2, .slice B3 t.f3.length d3]] w fun e w' => e = .returned (.bool true) ∧ CA w' C M (sayM L f u t).1 (sayM L f u t).2 ∧ Fr (fun k => k = C ∨ k = M) w w' := by
  obtain ⟨s1, s2, s3, s4, s5, s6⟩ := say_told hC (by have := hC.len; omega) hu.1 hK t
  obtain ⟨hY, hlt⟩ := nowT_is hC t
  have hfr := frN_le L t
  obtain ⟨r1, r2, hw, r3, r4⟩ := hC.at_ _ _ hY
  have hlen := hC.len
  obtain ⟨ad, T, he, q0, hT⟩ := hL.at_ hY
  have hto := modN t.f2 L.length ht2.1
  have hfm := modN t.f1 (toN L t + 1) ht1.1
  have hto' : (t.f2.toNat % L.length : Nat) = toN L t := rfl
  have hfm' : (t.f1.toNat % (toN L t + 1) : Nat) = frN L t := rfl
  rw [hto'] at hto
  rw [hfm'] at hfm
  subst he
  obtain ⟨Y, hY'⟩ : ∃ Y, nowT L t = Y := ⟨_, rfl⟩
  obtain ⟨i, hi⟩ : ∃ i, toN L t = i := ⟨_, rfl⟩
  obtain ⟨fr, hfr'⟩ : ∃ i, frN L t = i := ⟨_, rfl⟩
  have hsay := (rfl : sayM L f u t = sayM L f u t)
  conv at hsay => rhs; unfold sayM
  rw [hY'] at hY hw hT s4 s5 s6 r1 r2 r3 r4 hsay
  rw [hi] at s4 s5 s6 hlt hY r1 q0 hto hfm hfr hsay
  rw [hfr'] at s5 hfm hfr hsay
  obtain ⟨S, hS⟩ : ∃ S, sayM L f u t = S := ⟨_, rfl⟩
  rw [hS] at hsay s5 ⊢
  obtain ⟨f9, u9⟩ := S
  dsimp only at s5 ⊢
  have HS := Aside.mk (And.intro s4 (And.intro s5 s6))
  have hev : ∀ x ∈ Y.hap, evOK x := hap_ev hC _ Y hY
  have HEV := Aside.mk hev
  have HY := Aside.mk (And.intro hw (And.intro r1 (And.intro r3 (And.intro r4 (show Y.t.cnt ≤ 1000000 by omega)))))
  clear hS s1 s2 s3 s4 s5 s6 hto' hfm' hev hY hw r2 r3 r4 hK hC
  have r1 := HY.out.2.1
  obtain ⟨t0, t1, t2, t3⟩ := t
  dsimp only at gn hd h20 ht0 ht1 ht2 hA3 hto hfm hsay HS ⊢
  clear hY' hi hfr'
  obtain ⟨n3, hn3⟩ : ∃ n, t3.length = n := ⟨_, rfl⟩
  rw [hn3] at gn hd h20 hA3 ⊢
  have HN := Aside.mk (And.intro hn3 (And.intro gn hA3))
  have HA := Aside.mk (And.intro hca (And.intro hL hT))
  clear hn3 gn hA3 hca hL hT
  obtain ⟨b0, hb0⟩ : ∃ b, w.heap.size = b := ⟨_, rfl⟩
  have hbl := (Below.refl w.heap.size w).alloc (Nat.le_refl _) (Obj.cells #[Value.int IntKind.u8 t0, Value.int IntKind.u8 t1, Value.int IntKind.u8 t2, Value.slice B3 n3 d3] 71 (0, 0))
  have hbn := heap_alloc_new w (Obj.cells #[Value.int IntKind.u8 t0, Value.int IntKind.u8 t1, Value.int IntKind.u8 t2, Value.slice B3 n3 d3] 71 (0, 0))
  rw [hb0] at hbn
  have HB := Aside.mk (And.intro hbl (And.intro hbn hb0))
  clear hbl hbn
  go_enter Try.func30, Try.ntmps30
  go_upto_region 2 with fail
  try rw [hb0]
  clear hb0
  generalize w.alloc (Obj.cells #[Value.int IntKind.u8 t0, Value.int IntKind.u8 t1, Value.int IntKind.u8 t2, Value.slice B3 n3 d3] 71 (0, 0)) = w1 at *
  replace q0 := (HB.out.1.cell (p := ad.add i) (cell_lt' q0)).trans q0
  have f0 : w1.cell? ⟨b0, 0, none⟩ = some (.int .u8 t0) := cell_at HB.out.2.1 0
  have f1 : w1.cell? ⟨b0, 1, none⟩ = some (.int .u8 t1) := cell_at HB.out.2.1 1
  have f3 : w1.cell? ⟨b0, 3, none⟩ = some (.slice B3 n3 d3) := cell_at HB.out.2.1 3
  have HW : Aside (CA w1 C M f u ∧ TR w1 T Y ∧ Kd.string.C w1 B3 n3 t3) := ⟨HA.out.1.below HB.out.1, HA.out.2.2.below HB.out.1, Kd.C_below HN.out.2.1 HB.out.1⟩
  by_cases c0 : t0 = 0
  · subst c0
    rw [if_pos rfl] at hsay
    have HSY := Aside.mk hsay
    clear hsay
    have HS0 := Aside.mk (HS.out.1 rfl)
    clear HS
    go_wp2_with fail
    refine (tlist_calls T Y w1 HW.out.2.1 HY.out.2.2.2.2).mono ?_
    rintro e w2 ⟨A2, c2, rfl, hc2, hC2, hA2, hb2⟩
    have H2 : Aside (CA w2 C M f u ∧ TR w2 T Y ∧ Below w1.heap.size w1 w2 ∧ (∀ ad, A2 = some ad → ad.block ≠ C ∧ ad.block ≠ M)) := ⟨HW.out.1.below hb2, HW.out.2.1.below hb2, hb2, fun ad e => by
      have h1 := hA2 ad e
      have h2 := HW.out.1.ltC
      have h3 := HW.out.1.ltM
      constructor <;> omega⟩
    have hlist := list_calls C M f u i A2 c2 (tlsM Y.t) w2 H2.out.1 hC2 hc2 (by have := HY.out.2.2.2.2; unfold tlsM; rw [List.length_map, Shf.ord_len]; omega) (fun x hx => by have := keyB_size (mayOpB_key ((HY.out.1.list.2 x hx).1)); omega) H2.out.2.2.2
    rw [HS0.out] at hlist
    have HL := Aside.mk hlist
    clear hc2 hC2 hA2 hb2 hlist
    go_wp2_with fail
    refine (trev_calls T Y w2 H2.out.2.1).mono ?_
    rintro e w3 ⟨rfl, rfl⟩
    rw [r1]
    go_wp2_with fail
    refine HL.out.mono ?_
    rintro e w3 ⟨rfl, hc3, hf3⟩
    have H3 : Aside (CA w3 C M f9 u9 ∧ Fr (fun k => k = C ∨ k = M) w w3) := ⟨by have h := HSY.out; rw [← h] at hc3; exact hc3, (Fr.of_new HB.out.1).trans ((Fr.of_new (F := fun k => k = C ∨ k = M) H2.out.2.2.1).trans hf3 (fun _ _ h => h)) (fun _ _ h => h)⟩
    clear hc3 hf3
    go_wp2_with fail
    go_ret
    exact ⟨rfl, H3.out⟩
  · by_cases c1 : t0 = 1
    · subst c1
      rw [if_neg c0, if_pos rfl] at hsay
      obtain ⟨g1, g2⟩ := HS.out.2.1 rfl
      have hsn := fun W h => since_calls T Y (1 + (fr : Int)) W h (by have := HY.out.2.2.2.1; omega) (by rw [r1]; omega)
      rw [Int.add_comm 1 (fr : Int), g1] at hsn
      obtain ⟨E, hE⟩ : ∃ E, (sinceM Y ((fr : Int) + 1)).1 = E := ⟨_, rfl⟩
      have hEl : E.length ≤ 320 ∧ ∀ x ∈ E, x.f2.size ≤ 100000 := by
        have hp : ∀ x ∈ Y.hap, x.f2.size ≤ 100000 := fun x hx => by have := keyB_size (mayOpB_key (HEV.out x hx)); omega
        rw [← hE]
        unfold sinceM
        split
        · simp
        · split
          · simp
          · have := List.length_filter_le (fun x : Evn => decide (((fr : Nat) : Int) + 1 ≤ x.f0)) Y.hap
            have := HY.out.2.2.2.1
            exact ⟨by dsimp only; omega, fun x hx => hp x (List.mem_filter.1 hx).1⟩
      rw [hE] at hsn g2 hsay
      have HSY := Aside.mk hsay
      clear hsay
      have HSN := Aside.mk hsn
      have HG := Aside.mk (And.intro g2 hEl)
      have hfw : wrap64 (1 + t1 % ((i : Int) + 1)) = (fr : Int) + 1 := by
        have h9 : t1 % ((i : Int) + 1) = (fr : Int) := by
          rw [← hfm, Int.tmod_eq_emod_of_nonneg ht1.1]; rfl
        rw [h9]; unfold wrap64; omega
      clear hsn g1 g2 hE hEl
      go_wp2_with fail
      clear hfw
      refine (HSN.out w1 HW.out.2.1).mono ?_
      rintro e w2 ⟨V, rfl, hR2, hb2⟩
      have hA2 := hR2.1
      obtain ⟨A2, c2, rfl, hc2, hC2⟩ := Kd.R_reads hR2
      have H2 : Aside (CA w2 C M f u ∧ TR w2 T Y ∧ Below w1.heap.size w1 w2 ∧ (∀ ad, A2 = some ad → ad.block ≠ C ∧ ad.block ≠ M)) := ⟨HW.out.1.below hb2, HW.out.2.1.below hb2, hb2, fun ad e => by
        subst e
        have h1 := hA2 ad.block rfl
        have h2 := HW.out.1.ltC
        have h3 := HW.out.1.ltM
        constructor <;> omega⟩
      have hwatch := watch_calls C M f u ((fr : Int) + 1) i A2 c2 E w2 H2.out.1 hC2 hc2 (by have := HG.out.2.1; omega) HG.out.2.2 hu H2.out.2.2.2
      obtain ⟨z, hz⟩ : ∃ z, (watchM f u ((fr : Int) + 1) i E).2 = z := ⟨_, rfl⟩
      have hg := HG.out.1
      rw [hz] at hwatch hg
      have HWT := Aside.mk hwatch
      clear hwatch hc2 hC2 hA2 hR2 hb2
      go_wp2_with fail
      refine (trev_calls T Y w2 H2.out.2.1).mono ?_
      rintro e w3 ⟨rfl, rfl⟩
      rw [r1]
      go_wp2_with fail
      refine HWT.out.mono ?_
      rintro e w3 ⟨rfl, hc3, hf3⟩
      have H3 : Aside (CA w3 C M f9 u9 ∧ Fr (fun k => k = C ∨ k = M) w w3) := ⟨by have h := HSY.out; rw [← h] at hc3; exact hc3, (Fr.of_new HB.out.1).trans ((Fr.of_new (F := fun k => k = C ∨ k = M) H2.out.2.2.1).trans hf3 (fun _ _ h => h)) (fun _ _ h => h)⟩
      clear hc3 hf3
      by_cases hz0 : z = 0
      · subst hz0
        clear hg
        go_wp2_with fail
        go_ret
        exact ⟨rfl, H3.out⟩
      · have hg2 : u9 < 0 ∨ u9 + 1 < (fr : Int) + 1 := by
          rcases hg with h | h
          · exact absurd h hz0
          · exact h
        clear hg
        go_wp2_with fail
        refine (cupto_calls C M f9 u9 w3 H3.out.1).mono ?_
        rintro e w4 ⟨rfl, rfl⟩
        by_cases h5 : u9 < 0
        · go_wp2_with fail
          go_ret
          exact ⟨rfl, H3.out⟩
        · have h6 : u9 + 1 < (fr : Int) + 1 := by
            rcases hg2 with h | h
            · exact absurd h h5
            · exact h
          go_wp2_with fail
          refine (cupto_calls C M f9 u9 w3 H3.out.1).mono ?_
          rintro e w4 ⟨rfl, rfl⟩
          have h7 : u9 ≤ 1099511627776 := by omega
          go_wp2_with fail
          go_ret
          exact ⟨rfl, H3.out⟩
    · rw [if_neg c0, if_neg c1] at hsay
      have HSY := Aside.mk hsay
      have hg := HS.out.2.2 c0 c1
      have hrev : ∀ W, TR W T Y → Calls Try.prog 31 #[.pointer (some ⟨T, 0, none⟩)] W fun e w' => e = .returned (.int .i64 i) ∧ W = w' := fun W h => by rw [← r1]; exact trev_calls T Y W h
      have HRV := Aside.mk hrev
      clear hsay hrev
      have b0f : (t0 == 0) = false := beq_false_of_ne c0
      have b1f : (t0 == 1) = false := beq_false_of_ne c1
      clear c0 c1
      go_wp2_with fail
      refine (tlist_calls T Y w1 HW.out.2.1 HY.out.2.2.2.2).mono ?_
      rintro e w2 ⟨A2, c2, rfl, hc2, hC2, hA2, hb2⟩
      obtain ⟨Bz, hBz⟩ : ∃ b, w2.heap.size = b := ⟨_, rfl⟩
      have H2 : Aside (CA w2 C M f u ∧ TR w2 T Y ∧ w2.heap[b0]? = some (Obj.cells #[Value.int IntKind.u8 t0, Value.int IntKind.u8 t1, Value.int IntKind.u8 t2, Value.slice B3 n3 d3] 71 (0, 0)) ∧ Kd.string.C w2 B3 n3 t3 ∧ k46.C w2 A2 (tlsM Y.t).length (tlsM Y.t) ∧ Below w1.heap.size w1 w2 ∧ (C < Bz ∧ C < b0) ∧ (M < Bz ∧ M < b0)) := ⟨HW.out.1.below hb2, HW.out.2.1.below hb2, (hb2.block b0 (lt_of_block HB.out.2.1)).trans HB.out.2.1, Kd.C_below HW.out.2.2 hb2, hC2, hb2, by
        have h2 := HW.out.1.ltC
        have h3 := HW.out.1.ltM
        have h4 := hb2.size
        have h5 := HA.out.1.ltC
        have h6 := HA.out.1.ltM
        have h7 := HB.out.2.2
        omega⟩
      have HBZ := Aside.mk hBz
      have hml : (tlsM Y.t).length ≤ 320 := by have := HY.out.2.2.1; unfold tlsM; rw [List.length_map, Shf.ord_len]; omega
      have hkl : ∀ x ∈ tlsM Y.t, x.f0.size ≤ 100000 := fun x hx => by have := keyB_size (mayOpB_key ((HY.out.1.list.2 x hx).1)); omega
      obtain ⟨m, hm⟩ : ∃ m, (tlsM Y.t).length = m := ⟨_, rfl⟩
      rw [hm] at hc2 hml ⊢
      have HM := Aside.mk (And.intro hm hkl)
      have HB1 := Aside.mk HB.out.1
      clear hC2 hA2 hb2 hBz hm hkl HA HB HW f0 f1 f3 q0
      go_wp2_with fail
      go_loopw [12, 14] (fun v12 v14 wr => ∃ k : Nat, k ≤ m ∧ v14 = .int .i64 k ∧ Aside (k46.R 46 wr Bz (fun k => Bz ≤ k) v12 (((tlsM Y.t).take k).filter (namedB t3)) ∧ Below Bz w2 wr)) (fun _ v14 _ => m - (intOf v14).toNat)
      case atStart => exact ⟨0, by omega, rfl, ⟨Kd.R_nil _ _ _ _ _, Below.refl _ _⟩⟩
      case round =>
        obtain ⟨k, hk, rfl, HR⟩ := hrel
        have hB2 : Below w2.heap.size w2 wr := by rw [HBZ.out]; exact HR.out.2
        have hbx := (hB2.block b0 (lt_of_block H2.out.2.2.1)).trans H2.out.2.2.1
        by_cases hkm : k < m
        · obtain ⟨x, hx⟩ : ∃ x, (tlsM Y.t)[k]? = some x := ⟨_, List.getElem?_eq_getElem (by rw [HM.out.1]; exact hkm)⟩
          obtain ⟨ad2, he, z0, z1, z2, z3⟩ := at_T46 (Kd.C_below H2.out.2.2.2.2.1 hB2) (k : Int) (by omega) (by rw [HM.out.1]; omega)
          rw [rd_getE hx] at z0 z1 z2 z3
          simp only [Int.toNat_natCast] at z0 z1 z2 z3
          have htk : ((tlsM Y.t).take (k + 1)).filter (namedB t3) = ((tlsM Y.t).take k).filter (namedB t3) ++ (if namedB t3 x = true then [x] else []) := by
            rw [List.take_add_one, hx, List.filter_append]
            cases hq : namedB t3 x <;> simp [hq]
          have hfl : (((tlsM Y.t).take k).filter (namedB t3)).length ≤ k := Nat.le_trans (List.length_filter_le _ _) (List.length_take_le _ _)
          have HQ := Aside.mk (And.intro htk hfl)
          have hsz : Bz ≤ wr.heap.size := by rw [← HBZ.out]; exact hB2.size
          have f3 : wr.cell? ⟨b0, 3, none⟩ = some (.slice B3 n3 d3) := cell_at hbx 3
          have HZ := Aside.mk (And.intro z0 (And.intro z1 (And.intro z2 (And.intro z3 f3))))
          have hnr := Kd.C_below H2.out.2.2.2.1 hB2
          have HNR := Aside.mk (And.intro hnr hsz)
          subst he
          obtain ⟨x0, x1, x2, x3⟩ := x
          dsimp only at z0 z1 z2 z3 HZ
          clear hx htk hfl hB2 hbx hsz hnr z0 z1 z2 z3 f3
          generalize wr = wo at *
          go_wp2_with fail
          go_loopw [15, 16] (fun v15 v16 wq => ∃ j : Nat, j ≤ n3 ∧ v16 = .int .i64 j ∧ v15 = .bool ((t3.take j).any (fun k => eqT k x0)) ∧ Aside (∃ q, wq = wo.drewN q)) (fun _ v16 _ => n3 - (intOf v16).toNat)
          case atStart => exact ⟨0, by omega, rfl, rfl, ⟨0, rfl⟩⟩
          case round =>
            obtain ⟨j, hj, rfl, rfl, HD⟩ := hrel
            have f3 : wr.cell? ⟨b0, 3, none⟩ = some (.slice B3 n3 d3) := by obtain ⟨q, hq⟩ := HD.out; rw [hq]; exact HZ.out.2.2.2.2
            by_cases hjn : j < n3
            · obtain ⟨nm, hnm⟩ : ∃ y, t3[j]? = some y := ⟨_, List.getElem?_eq_getElem (by rw [HN.out.1]; exact hjn)⟩
              have hst : (t3.take (j + 1)).any (fun k => eqT k x0) = ((t3.take j).any (fun k => eqT k x0) || eqT nm x0) := by
                rw [List.take_add_one, hnm, List.any_append]
                simp
              have HST := Aside.mk hst
              obtain ⟨adn, hen, y0⟩ := at_str HNR.out.1 hnm
              have y0 : wr.cell? (adn.add j) = some (.string nm) := by obtain ⟨q, hq⟩ := HD.out; rw [hq]; exact y0
              have z0 : wr.cell? (ad2.add (k * 4)) = some (.string x0) := by obtain ⟨q, hq⟩ := HD.out; rw [hq]; exact HZ.out.1
              obtain ⟨b, hb⟩ : ∃ b, (t3.take j).any (fun k => eqT k x0) = b := ⟨_, rfl⟩
              have HBB := Aside.mk hb
              rw [hb] at hst ⊢
              subst hen
              have hj1 : (j : Int) < (n3 : Int) := by omega
              have hk1 : (k : Int) < (m : Int) := by omega
              clear hst hb hnm
              cases b with
              | true =>
                go_wp2_with fail
                go_quiet (fail)
                go_wp2_with fail
                go_roundw
                case rel => exact ⟨j + 1, by omega, by go_num, by rw [HST.out, HBB.out]; rfl, ⟨by obtain ⟨q, hq⟩ := HD.out; rw [hq]; exact ⟨_, drewN_two _ _ _⟩⟩⟩
                case measure => simp [intOf]; omega
              | false =>
                go_wp2_with fail
                go_quiet (fail)
                go_wp2_with fail
                go_roundw
                case rel => exact ⟨j + 1, by omega, by go_num, by rw [HST.out, HBB.out]; rfl, ⟨by obtain ⟨q, hq⟩ := HD.out; rw [hq]; exact ⟨_, drewN_two _ _ _⟩⟩⟩
                case measure => simp [intOf]; omega
            · obtain rfl : n3 = j := by omega
              have htk : t3.take n3 = t3 := List.take_of_length_le (by rw [HN.out.1]; exact Nat.le_refl _)
              rw [htk]
              clear htk
              obtain ⟨q, hq⟩ := HD.out
              subst hq
              obtain ⟨b, hb⟩ : ∃ b, t3.any (fun k => eqT k x0) = b := ⟨_, rfl⟩
              have HBB := Aside.mk hb
              rw [hb]
              clear hb
              cases b with
              | false =>
                go_wp2_with fail
                go_roundw
                case rel => exact ⟨k + 1, by omega, by go_num, ⟨by
                  have h := HQ.out.1
                  rw [show namedB t3 ⟨x0, x1, x2, x3⟩ = false from HBB.out, if_neg (by decide), List.append_nil] at h
                  rw [h]
                  exact Kd.R_drewN HR.out.1 q, pw_below_drewN HR.out.2 q⟩⟩
                case measure => simp [intOf]; omega
              | true =>
                have z0 : (wo.drewN q).cell? (ad2.add (k * 4)) = some (.string x0) := HZ.out.1
                have z1 : (wo.drewN q).cell? ⟨(ad2.add (k * 4)).block, (ad2.add (k * 4)).off + 1, none⟩ = some (.string x1) := HZ.out.2.1
                have z2 : (wo.drewN q).cell? ⟨(ad2.add (k * 4)).block, (ad2.add (k * 4)).off + 2, none⟩ = some (.int .i64 x2) := HZ.out.2.2.1
                have z3 : (wo.drewN q).cell? ⟨(ad2.add (k * 4)).block, (ad2.add (k * 4)).off + 3, none⟩ = some (.int .i64 x3) := HZ.out.2.2.2.1
                have HRQ : Aside (k46.R 46 (wo.drewN q) Bz (fun k => Bz ≤ k) u12 (((tlsM Y.t).take k).filter (namedB t3)) ∧ Below Bz w2 (wo.drewN q) ∧ Bz ≤ (wo.drewN q).heap.size) := ⟨Kd.R_drewN HR.out.1 q, pw_below_drewN HR.out.2 q, HNR.out.2⟩
                generalize wo.drewN q = w5 at *
                go_wp2_with (at_builtin; refine Kd.R_append k46 Bz rfl _ _ 30 46 (.agg #[.string (ByteArray.mk #[]), .string (ByteArray.mk #[]), .int .i64 0, .int .i64 0]) 48 rfl Try.underlying30 ent_info rfl (by decide) (by decide) u12 (((tlsM Y.t).take k).filter (namedB t3)) ⟨x0, x1, x2, x3⟩ [.string x0, .string x1, .int .i64 x2, .int .i64 x3] (fun k => Bz ≤ k) (fun _ => False) rfl rfl (k46_mkM _ _ _ ⟨x0, x1, x2, x3⟩) (fun _ h => h.elim) (fun k hk => Nat.le_trans HRQ.out.2.2 hk) HRQ.out.1 (Below.refl Bz _) HRQ.out.2.2 (by have := HQ.out.2; omega) ?_; rintro V1 W2 hr2 hb2 hg2 -)
                have HR2 : Aside (k46.R 46 W2 Bz (fun k => Bz ≤ k) V1 (((tlsM Y.t).take (k + 1)).filter (namedB t3)) ∧ Below Bz w2 W2) := ⟨by
                  have h := HQ.out.1
                  rw [show namedB t3 ⟨x0, x1, x2, x3⟩ = true from HBB.out, if_pos rfl] at h
                  rw [h]
                  exact ⟨hr2, HRQ.out.2.1.trans hb2⟩⟩
                clear hr2 hb2 hg2
                go_wp2_with fail
                go_roundw
                case rel => exact ⟨k + 1, by omega, by go_num, HR2⟩
                case measure => simp [intOf]; omega
        · obtain rfl : m = k := by omega
          have htk : (tlsM Y.t).take m = tlsM Y.t := List.take_of_length_le (by rw [HM.out.1]; exact Nat.le_refl _)
          have HR2 := HR.out
          rw [htk] at HR2
          obtain ⟨E, hE⟩ : ∃ E, (tlsM Y.t).filter (namedB t3) = E := ⟨_, rfl⟩
          have hEl : E.length ≤ 320 ∧ ∀ x ∈ E, x.f0.size ≤ 100000 := by
            rw [← hE]
            have h1 := List.length_filter_le (namedB t3) (tlsM Y.t)
            have h2 := HM.out.1
            exact ⟨by omega, fun x hx => HM.out.2 x (List.mem_filter.1 hx).1⟩
          rw [hE] at HR2 hg
          have HSY2 := HSY.out
          rw [hE] at HSY2
          have hA5 := HR2.1.1
          obtain ⟨A5, c5, hv, hc5, hC5⟩ := Kd.R_reads HR2.1
          subst hv
          have hlearn := fun W (hW : Below wr.heap.size wr W) => learn_calls0 C M f u i B3 A5 d3 c5 t3 E W ((H2.out.1.below hB2).below hW) (by have h := Kd.C_below (Kd.C_below H2.out.2.2.2.1 hB2) hW; rw [HN.out.1]; exact h) (by rw [HN.out.1]; exact hd) (by rw [HN.out.1]; omega) (Kd.C_below hC5 hW) hc5 (by omega) hEl.2 (by rw [HN.out.1]; exact HN.out.2.2) (fun ad e => by
            subst e
            have h1 := hA5 ad.block rfl
            have h2 := H2.out.2.2.2.2.2.2
            constructor <;> omega)
          rw [hg, HN.out.1] at hlearn
          have hB3 : Below w1.heap.size w1 wr := H2.out.2.2.2.2.2.1.trans (hB2.mono H2.out.2.2.2.2.2.1.size)
          have HLN := Aside.mk hlearn
          have H3 : Aside (TR wr T Y ∧ (∀ W, Below wr.heap.size wr W → W.cell? ⟨b0, 3, none⟩ = some (.slice B3 n3 d3)) ∧ Fr (fun k => k = C ∨ k = M) w wr ∧ b0 < wr.heap.size) := ⟨H2.out.2.1.below hB2, fun W hW => cell_at ((hW.block b0 (lt_of_block hbx)).trans hbx) 3, (Fr.of_new HB1.out).trans (Fr.of_new (F := fun k => k = C ∨ k = M) hB3) (fun _ _ h => h), lt_of_block hbx⟩
          have HS3 := Aside.mk HSY2
          have HNE : Aside (¬ (b0 = C ∨ b0 = M)) := ⟨by have h2 := H2.out.2.2.2.2.2.2; omega⟩
          obtain ⟨ne, hne⟩ : ∃ n, E.length = n := ⟨_, rfl⟩
          rw [hne] at hc5 HLN ⊢
          clear HR2 hg hlearn hB2 hB3 hbx HSY2 hA5 hC5 htk HR HSY
          go_upto_region 24 with fail
          have hbd : Below wr.heap.size wr wr.drew := below_drew1 (Below.refl _ _)
          have HD : Aside (TR wr.drew T Y ∧ Below wr.heap.size wr wr.drew ∧ wr.drew.cell? ⟨b0, 3, none⟩ = some (.slice B3 n3 d3)) := ⟨H3.out.1.below hbd, hbd, H3.out.2.1 _ hbd⟩
          clear hbd
          refine start_ (n := 9) (S := (fun w' => w'.cell? ⟨b0, 3, none⟩ = some (.slice B3 n3 d3))) (ds := []) #[false, false, false, false, false, false, false, false, false] (by kernel_rfl) rfl rfl HD.out.2.2 (fun hHeld => ?_); refine with_tabW sy24_tab sy24_bits (fun HT_ HW_ => ?_)
          refine pure_ (i := 0) (N := (some 111)) (v := ?_) (a' := ?_) #[true, false, false, false, false, false, false, false, false] rfl rfl (any_of HT_.out (by kernel_rfl)) (fun _ _ _ h => h) (Or.inl ⟨by rfl, ?_⟩) ?_ ?_
          rotate_left
          · intro w'
            go_simp
            with_reducible rfl
          rotate_left
          · simp only [Act.put, List.setIfInBounds_toArray, List.set_cons_zero, List.set_cons_succ, i64_w, i32_w]
            rfl
          refine pure_ (i := 1) (N := (some 112)) (v := ?_) (a' := ?_) #[true, true, false, false, false, false, false, false, false] rfl rfl (any_of HT_.out (by kernel_rfl)) (fun _ _ _ h => h) (Or.inl ⟨by rfl, ?_⟩) ?_ ?_
          rotate_left
          · intro w'
            go_simp
            with_reducible rfl
          rotate_left
          · simp only [Act.put, List.setIfInBounds_toArray, List.set_cons_zero, List.set_cons_succ, i64_w, i32_w]
            rfl
          refine take_ (i := 2) (N := (some 113)) (v := ?_) (a' := ?_) #[true, true, true, false, false, false, false, false, false] rfl rfl (take_ofW HT_.out HW_.out (by kernel_rfl)) (fun _ _ _ h => h) (Or.inl ⟨by rfl, ?_⟩) hHeld ?_ ?_
          rotate_left
          · rintro w' s1
            go_simp
            with_reducible rfl
          rotate_left
          · simp only [Act.put, List.setIfInBounds_toArray, List.set_cons_zero, List.set_cons_succ, i64_w, i32_w]
            rfl
          refine pure_ (i := 3) (N := (some 114)) (v := ?_) (a' := ?_) #[true, true, true, true, false, false, false, false, false] rfl rfl (any_of HT_.out (by kernel_rfl)) (fun _ _ _ h => h) (Or.inl ⟨by rfl, ?_⟩) ?_ ?_
          rotate_left
          · intro w'
            go_simp
            with_reducible rfl
          rotate_left
          · simp only [Act.put, List.setIfInBounds_toArray, List.set_cons_zero, List.set_cons_succ, i64_w, i32_w]
            rfl
          refine pure_ (i := 4) (N := (some 115)) (v := ?_) (a' := ?_) #[true, true, true, true, true, false, false, false, false] rfl rfl (any_of HT_.out (by kernel_rfl)) (fun _ _ _ h => h) (Or.inl ⟨by rfl, ?_⟩) ?_ ?_
          rotate_left
          · intro w'
            go_simp
            with_reducible rfl
          rotate_left
          · simp only [Act.put, List.setIfInBounds_toArray, List.set_cons_zero, List.set_cons_succ, i64_w, i32_w]
            rfl
          refine one_ (i := 5) (N := (some 116)) #[true, true, true, true, true, true, false, false, false] rfl rfl (one_of HT_.out (by kernel_rfl)) (by decide) (fun K9 hK => ?_)
          refine goes_ Try.func31 (by kernel_rfl) rfl #[.pointer (some ⟨T, 0, none⟩)] (by rfl) rfl rfl (by (try simp only [List.map_toArray, List.map_cons, List.map_nil]); first | done | rfl) ?_
          refine (HRV.out wr.drew HD.out.1).mono ?_
          rintro e w5 ⟨rfl, rfl⟩
          refine ⟨_, rfl, ?_⟩

          refine hK.out _ _ HD.out.2.2 (fun hHeld => ?_)
          clear hK K9
          refine norm_ (a' := ?_) ?_ ?_
          rotate_left
          · show Act.put _ (some 116) _ = _
            simp only [Act.put, List.setIfInBounds_toArray, List.set_cons_zero, List.set_cons_succ]
            rfl
          refine one_ (i := 6) (N := (some 117)) #[true, true, true, true, true, true, true, false, false] rfl rfl (one_of HT_.out (by kernel_rfl)) (by decide) (fun K9 hK => ?_)
          refine goes_ Try.func18 (by kernel_rfl) rfl #[.pointer (some ⟨C, 0, none⟩), .slice B3 n3 d3, .slice A5 ne c5, .int .i64 i] (by rfl) rfl rfl (by (try simp only [List.map_toArray, List.map_cons, List.map_nil]); first | done | rfl) ?_
          refine (HLN.out wr.drew HD.out.2.1).mono ?_
          rintro e w6 ⟨rfl, hc6, hf6⟩
          refine ⟨_, rfl, ?_⟩

          refine hK.out _ _ ((hf6.block b0 H3.out.2.2.2 HNE.out |> fun h => by unfold World.cell?; rw [h]; exact HD.out.2.2)) (fun hHeld => ?_)
          clear hK K9
          refine norm_ (a' := ?_) ?_ ?_
          rotate_left
          · show Act.put _ (some 117) _ = _
            simp only [Act.put, List.setIfInBounds_toArray, List.set_cons_zero, List.set_cons_succ]
            rfl
          refine pure_ (i := 7) (N := (some 118)) (v := .bool true) (a' := ?_) #[true, true, true, true, true, true, true, true, false] rfl rfl (any_of HT_.out (by kernel_rfl)) (fun _ _ _ h => h) (Or.inl ⟨by rfl, ?_⟩) ?_ ?_
          · intro w'
            first | (go_simp; done) | (go_simp; with_reducible rfl) | (go_simp; simp [*]; done) | (go_simp; simp; omega)
          rotate_left
          · simp only [Act.put, List.setIfInBounds_toArray, List.set_cons_zero, List.set_cons_succ, i64_w, i32_w]
            rfl
          refine pure_ (i := 8) (N := (some 6)) (v := ?_) (a' := ?_) #[true, true, true, true, true, true, true, true, true] rfl rfl (any_of HT_.out (by kernel_rfl)) (fun _ _ _ h => h) (Or.inl ⟨by rfl, ?_⟩) ?_ ?_
          rotate_left
          · intro w'
            go_simp
            with_reducible rfl
          rotate_left
          · simp only [Act.put, List.setIfInBounds_toArray, List.set_cons_zero, List.set_cons_succ, i64_w, i32_w]
            rfl
          refine done_ (done_of HT_.out (by kernel_rfl)) ?_
          clear HT_ HW_ hHeld
          have H6 : Aside (CA w6 C M f9 u9 ∧ Fr (fun k => k = C ∨ k = M) w w6) := ⟨by have h := HS3.out; cases h; exact hc6, (H3.out.2.2.1.trans (Fr.of_new (F := fun k => k = C ∨ k = M) HD.out.2.1) (fun _ _ h => h)).trans hf6 (fun _ _ h => h)⟩
          go_wp2_with fail
          go_ret
          exact ⟨rfl, H6.out⟩
end Go.Proofs.Ytagkobpbhfkmdaa.C
/-! from HO -/
namespace Go.Proofs.Ytagkobpbhfkmdaa.C
open Go.RowKit Go.Proofs.Ytagkobpbhfkmdaa.Q Go.Proofs.YtagkobpbhfkmdaaW.PrintLast Go.Proofs.YtagkobpbhfkmdaaW.PrintWords
set_option linter.unusedVariables false
set_option linter.unusedSimpArgs false
set_option maxHeartbeats 8000000 in
set_option maxRecDepth 100000 in
theorem holdsC_calls (C M : Nat) (f : Fcts) (u : Int) (A : Option Addr) (cL : Nat) (L : List Tre) (k : ByteArray) (w : World) (hca : CA w C M f u) (hL : TLs w A L) (hlc : L.length ≤ cL) (hl : L.length ≤ 1000000) (hK : Know L f u) :
    Calls Try.prog 32 #[.pointer (some ⟨C, 0, none⟩), .slice A L.length cL, .string k] w fun e w' => e = .returned (.bool true) ∧ Below w.heap.size w w' := by
  obtain ⟨k1, k2⟩ := hK k
  have ha := casof_calls C M f u k w hca
  have hg := fun W (hW : Below w.heap.size w W) => cget_calls C M f u k W (hca.below hW)
  obtain ⟨ao, has⟩ : ∃ a, asofM f u k = a := ⟨_, rfl⟩
  obtain ⟨G, hG⟩ : ∃ G, getM f k = G := ⟨_, rfl⟩
  rw [has] at ha k1 k2
  rw [hG] at hg k1 k2
  obtain ⟨⟨x0, x1, x2, x3⟩, is⟩ := G
  dsimp only at hg k1 k2
  have HG := Aside.mk hg
  clear hK has hG hca hg
  by_cases hn : ao < 0
  · have hi := k1 hn
    subst hi
    clear k1 k2
    go_enter Try.func32, Try.ntmps32
    go_wp2_with fail
    refine ha.mono ?_
    rintro e w1 ⟨rfl, hb1⟩
    have H1 := Aside.mk hb1
    clear hb1
    go_wp2_with fail
    refine (HG.out w1 H1.out).mono ?_
    rintro e w2 ⟨rfl, hb2⟩
    have H2 := Aside.mk (H1.out.trans (hb2.mono H1.out.size))
    clear hb2
    go_wp2_with fail
    go_ret
    exact ⟨rfl, H2.out.alloc H2.out.size _⟩
  · obtain ⟨b, Y, hb, hY, hgt⟩ := k2 (by omega)
    subst hb
    have hbl : b < L.length := by
      rcases Nat.lt_or_ge b L.length with hh | hh
      · exact hh
      · rw [List.getElem?_eq_none hh] at hY; cases hY
    obtain ⟨ad, T, he, q0, hT⟩ := hL.at_ hY
    have HTG : Aside (∀ W, Below w.heap.size w W → Calls Try.prog 55 #[.pointer (some ⟨T, 0, none⟩), .string k] W fun e w' => e = .returned (.tuple #[.agg #[.string x0, .string x1, .int .i64 x2, .int .i64 x3], .bool is]) ∧ Below W.heap.size W w') := ⟨fun W hW => by
      have h := tget_calls T Y k W (hT.below hW)
      rw [← hgt] at h
      exact h⟩
    have HQ := Aside.mk q0
    subst he
    clear k1 k2 hY hgt hT hL hn q0
    go_enter Try.func32, Try.ntmps32
    go_wp2_with fail
    refine ha.mono ?_
    rintro e w1 ⟨rfl, hb1⟩
    have H1 := Aside.mk hb1
    clear hb1 ha
    go_wp2_with fail
    refine (HG.out w1 H1.out).mono ?_
    rintro e w2 ⟨rfl, hb2⟩
    have H2 := Aside.mk (H1.out.trans (hb2.mono H1.out.size))
    clear hb2
    go_upto_region 7 with fail
    have H3 := Aside.mk (H2.out.alloc H2.out.size (Obj.cells #[Value.string x0, Value.string x1, Value.int .i64 x2, Value.int .i64 x3] 46 (0, 0)))
    have hn3 := heap_alloc_new w2 (Obj.cells #[Value.string x0, Value.string x1, Value.int .i64 x2, Value.int .i64 x3] 46 (0, 0))
    obtain ⟨b2, hb2⟩ : ∃ b, w2.heap.size = b := ⟨_, rfl⟩
    rw [hb2] at hn3
    try rw [hb2]
    clear hb2
    generalize w2.alloc (Obj.cells #[Value.string x0, Value.string x1, Value.int .i64 x2, Value.int .i64 x3] 46 (0, 0)) = w3 at *
    have q0 : w3.cell? (ad.add b) = some (.pointer (some ⟨T, 0, none⟩)) := (H3.out.cell (cell_lt' HQ.out)).trans HQ.out
    have HN3 := Aside.mk hn3
    clear hn3 H2
    go_wp2_with fail
    refine (HTG.out w3 H3.out).mono ?_
    rintro e w4 ⟨rfl, hb4⟩
    have hn4 := (hb4.block b2 (lt_of_block HN3.out)).trans HN3.out
    have g0 := cell_at hn4 0
    have g1 := cell_at hn4 1
    have g2 := cell_at hn4 2
    have g3 := cell_at hn4 3
    have H4 := Aside.mk (H3.out.trans (hb4.mono H3.out.size))
    have hlt : b2 < w4.heap.size := lt_of_block hn4
    have hne : b2 ≠ w4.heap.size := by omega
    clear hb4 hn4 q0
    go_wp2_with fail
    go_ret
    exact ⟨by simp, H4.out.alloc H4.out.size _⟩
end Go.Proofs.Ytagkobpbhfkmdaa.C
/-! from MU -/
namespace Go.Proofs.Ytagkobpbhfkmdaa.C
open Go.RowKit Go.Proofs.Ytagkobpbhfkmdaa.Q Go.Proofs.YtagkobpbhfkmdaaW.PrintLast Go.Proofs.YtagkobpbhfkmdaaW.PrintWords
set_option linter.unusedVariables false
def FewT (l : List Txn') (ts : List Tale') : Prop := l.length ≤ 40 ∧ ts.length ≤ 60 ∧ (∀ x ∈ l, x.f0.length ≤ 20 ∧ x.f1.length ≤ 20) ∧ ∀ t ∈ ts, t.f3.length ≤ 20
theorem much_l1 (ts : List Tale') (hl : ts.length ≤ 60) : ∀ (d i : Nat), i + d = ts.length → ∃ r, (∀ k, d < k → batonlaw21_much.l1 k ts (i : Int) = some r) ∧ (r = false → ∀ j t, i ≤ j → ts[j]? = some t → t.f3.length ≤ 20) := by
  intro d
  induction d with
  | zero =>
    intro i hi
    refine ⟨false, fun k hk => ?_, fun _ j t h1 h2 => ?_⟩
    · obtain ⟨k, rfl⟩ : ∃ k', k = k' + 1 := ⟨k - 1, by omega⟩
      unfold batonlaw21_much.l1
      rw [if_neg (by omega)]
    · rw [List.getElem?_eq_none (by omega)] at h2; cases h2
  | succ d ih =>
    intro i hi
    obtain ⟨r, h1, h2⟩ := ih (i + 1) (by omega)
    have hx : ts[i]? = some (ts[i]'(by omega)) := List.getElem?_eq_getElem (by omega)
    by_cases hc : ((ts[i]'(by omega)).f3.length : Int) > 20
    · refine ⟨true, fun k hk => ?_, fun h => by cases h⟩
      obtain ⟨k, rfl⟩ : ∃ k', k = k' + 1 := ⟨k - 1, by omega⟩
      unfold batonlaw21_much.l1
      rw [if_pos (by omega), if_pos (by omega), rd_getTl hx, if_pos hc]
    · refine ⟨r, fun k hk => ?_, fun hr j t h3 h4 => ?_⟩
      · obtain ⟨k, rfl⟩ : ∃ k', k = k' + 1 := ⟨k - 1, by omega⟩
        unfold batonlaw21_much.l1
        rw [if_pos (by omega), if_pos (by omega), rd_getTl hx, if_neg hc, w64 (by omega)]
        exact h1 k (by omega)
      · by_cases hj : j = i
        · subst hj
          rw [hx] at h4
          cases h4
          omega
        · exact h2 hr j t (by omega) h4
theorem much_l0 (l : List Txn') (ts : List Tale') (hl : l.length ≤ 40) (ht : ts.length ≤ 60) : ∀ (d i : Nat), i + d = l.length → ∃ r, (∀ k, d + ts.length + 1 < k → batonlaw21_much.l0 k l ts (i : Int) = some r) ∧ (r = false → (∀ j x, i ≤ j → l[j]? = some x → x.f0.length ≤ 20 ∧ x.f1.length ≤ 20) ∧ ∀ t ∈ ts, t.f3.length ≤ 20) := by
  intro d
  induction d with
  | zero =>
    intro i hi
    obtain ⟨r, h1, h2⟩ := much_l1 ts ht ts.length 0 (by omega)
    refine ⟨r, fun k hk => ?_, fun hr => ⟨fun j x h3 h4 => ?_, fun t htm => ?_⟩⟩
    · obtain ⟨k, rfl⟩ : ∃ k', k = k' + 1 := ⟨k - 1, by omega⟩
      unfold batonlaw21_much.l0
      rw [if_neg (by omega)]
      exact h1 k (by omega)
    · rw [List.getElem?_eq_none (by omega)] at h4; cases h4
    · obtain ⟨j, hj⟩ := List.mem_iff_getElem?.1 htm
      exact h2 hr j t (by omega) hj
  | succ d ih =>
    intro i hi
    obtain ⟨r, h1, h2⟩ := ih (i + 1) (by omega)
    have hx : l[i]? = some (l[i]'(by omega)) := List.getElem?_eq_getElem (by omega)
    by_cases hc : ((l[i]'(by omega)).f0.length : Int) > 20
    · refine ⟨true, fun k hk => ?_, fun h => by cases h⟩
      obtain ⟨k, rfl⟩ : ∃ k', k = k' + 1 := ⟨k - 1, by omega⟩
      unfold batonlaw21_much.l0
      rw [if_pos (by omega), if_pos (by omega), rd_getT hx, if_pos hc]
    · by_cases hd : ((l[i]'(by omega)).f1.length : Int) > 20
      · refine ⟨true, fun k hk => ?_, fun h => by cases h⟩
        obtain ⟨k, rfl⟩ : ∃ k', k = k' + 1 := ⟨k - 1, by omega⟩
        unfold batonlaw21_much.l0
        rw [if_pos (by omega), if_pos (by omega), rd_getT hx, if_neg hc, if_pos hd]
      · refine ⟨r, fun k hk => ?_, fun hr => ⟨fun j x h3 h4 => ?_, (h2 hr).2⟩⟩
        · obtain ⟨k, rfl⟩ : ∃ k', k = k' + 1 := ⟨k - 1, by omega⟩
          unfold batonlaw21_much.l0
          rw [if_pos (by omega), if_pos (by omega), rd_getT hx, if_neg hc, if_neg hd, w64 (by omega)]
          exact h1 k (by omega)
        · by_cases hj : j = i
          · subst hj
            rw [hx] at h4
            cases h4
            omega
          · exact (h2 hr).1 j x (by omega) h4
theorem much_is (l : List Txn') (ts : List Tale') : ∃ K r, batonlaw21_much.f K l ts = some r ∧ (r = false → FewT l ts) := by
  by_cases h1 : (l.length : Int) > 40
  · refine ⟨1, true, ?_, fun h => by cases h⟩
    unfold batonlaw21_much.f
    rw [if_pos h1]
    rfl
  · by_cases h2 : (ts.length : Int) > 60
    · refine ⟨1, true, ?_, fun h => by cases h⟩
      unfold batonlaw21_much.f
      rw [if_neg h1, decide_eq_true h2]
      rfl
    · obtain ⟨r, h3, h4⟩ := much_l0 l ts (by omega) (by omega) l.length 0 (by omega)
      refine ⟨l.length + ts.length + 3, r, ?_, fun hr => ⟨by omega, by omega, fun x hx => ?_, (h4 hr).2⟩⟩
      · unfold batonlaw21_much.f
        rw [if_neg h1, decide_eq_false h2]
        show (if (false = true) then (some true) else (batonlaw21_much.l0 (l.length + ts.length + 2) l ts 0)) = _
        rw [if_neg (by decide)]
        exact h3 _ (by omega)
      · obtain ⟨j, hj⟩ := List.mem_iff_getElem?.1 hx
        exact (h4 hr).1 j x (by omega) hj
/-- A told thing leaves Upto within the course. -/
theorem sayM_u {L : List Tre} {f : Fcts} {u : Int} {t : Tale'} (hL : 0 < L.length) (hu : u ≤ L.length) : (sayM L f u t).2 ≤ L.length := by
  have ht : toN L t < L.length := Nat.mod_lt _ hL
  unfold sayM
  split
  · unfold listM
    split
    · split
      · exact hu
      · dsimp only; omega
    · exact hu
  · split
    · unfold watchM
      split
      · split
        · exact hu
        · dsimp only
          unfold maxI
          split <;> omega
      · exact hu
    · exact hu
end Go.Proofs.Ytagkobpbhfkmdaa.C
