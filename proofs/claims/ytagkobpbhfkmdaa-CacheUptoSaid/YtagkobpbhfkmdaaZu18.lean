/- Zu: texts of this claim, laid together. -/
import Derived.Test.YtagkobpbhfkmdaaZu11
import Derived.Test.YtagkobpbhfkmdaaZu12
import Derived.Test.YtagkobpbhfkmdaaZu13
import Derived.Test.YtagkobpbhfkmdaaZu15
import Derived.Test.YtagkobpbhfkmdaaZu16
import Derived.Test.YtagkobpbhfkmdaaZu17
/-! from SI -/
namespace Go.Proofs.Ytagkobpbhfkmdaa.C
open Go.RowKit Go.Proofs.Ytagkobpbhfkmdaa.Q Go.Proofs.YtagkobpbhfkmdaaW.PrintLast Go.Proofs.YtagkobpbhfkmdaaW.PrintWords
set_option linter.unusedVariables false
set_option linter.unusedSimpArgs false
abbrev Evn := S75
def sinceM (X : Tre) (fr : Int) : List Evn × Int :=
  if fr < 1 ∨ X.rev + 1 < fr then ([], 1) else if fr ≤ X.low then ([], 52) else (X.hap.filter (fun x => decide (fr ≤ x.f0)), 0)
theorem prefixNil_calls (w : World) : Calls Try.prog 51 #[.string (ByteArray.mk #[])] w fun e w' => e = .returned (.bool true) ∧ ∃ q, w' = w.drewN q := by
  have hc := fun w => keys_all.calls 1 (ByteArray.mk #[]) 1 64 true w (by decide +kernel)
  go_enter Try.func51, Try.ntmps51
  go_wp2_with fail
  refine (hc _).mono ?_
  rintro e w' ⟨rfl, h⟩
  obtain ⟨q, rfl⟩ := drawn_fr h
  go_wp2_with fail
  go_ret
  exact ⟨rfl, q, rfl⟩
theorem fil_take {l : List Evn} {p : Evn → Bool} {k : Nat} {o : Evn} (h : l[k]? = some o) : (l.take (k + 1)).filter p = (l.take k).filter p ++ (if p o = true then [o] else []) := by
  rw [List.take_add_one, h, List.filter_append]
  by_cases hp : p o = true
  · simp [hp]
  · simp [hp]
set_option maxHeartbeats 8000000 in
set_option maxRecDepth 100000 in
theorem since_calls (T : Nat) (X : Tre) (fr : Int) (w : World) (h : TR w T X) (hh : X.hap.length ≤ 100000000) (hr : 0 ≤ X.rev ∧ X.rev ≤ 1099511627776) :
    Calls Try.prog 26 #[.pointer (some ⟨T, 0, none⟩), .string (ByteArray.mk #[]), .int .i64 fr] w fun e w' => ∃ V, e = .returned (.tuple #[V, .int .i64 (sinceM X fr).2]) ∧ k75.R 75 w' w.heap.size (fun k => w.heap.size ≤ k) V (sinceM X fr).1 ∧ Below w.heap.size w w' := by
  obtain ⟨Y, hY⟩ : ∃ Y, sinceM X fr = Y := ⟨_, rfl⟩
  rw [hY]
  unfold sinceM at hY
  obtain ⟨A, c, hx⟩ := h
  have HX := Aside.mk (And.intro hx hh)
  have hwr : wrap64 (X.rev + 1) = X.rev + 1 := by unfold wrap64; omega
  obtain ⟨B0, hB0⟩ : ∃ b, w.heap.size = b := ⟨_, rfl⟩
  rw [hB0]
  have HB0 := Aside.mk hB0
  have hpn := prefixNil_calls w
  clear hx hh hB0
  go_enter Try.func26, Try.ntmps26
  go_wp2_with fail
  refine hpn.mono ?_
  rintro e w1 ⟨rfl, q, hw1⟩
  have hb1 : Below w.heap.size w w1 := by rw [hw1]; exact pw_below_drewN (Below.refl _ _) q
  have hx1 := HX.out.1.below hb1
  obtain ⟨v, m, hT, h2, h3, h4, h5⟩ := hx1
  have e2 := cell_at hT 2
  have e3 := cell_at hT 3
  have e4 := cell_at hT 4
  have HY := Aside.mk hY
  have H1 := Aside.mk (And.intro hb1 (And.intro h3 h4))
  clear hw1 hb1 h2 h3 h4 h5 hpn hY
  by_cases hc1 : fr < 1 ∨ X.rev + 1 < fr
  · have HY1 := HY.out
    rw [if_pos hc1] at HY1
    by_cases hc2 : fr < 1
    · go_wp2_with fail
      go_returns
      rw [← HY1]
      exact ⟨_, rfl, Kd.R_nil _ _ _ _ _, by rw [← HB0.out]; exact H1.out.1⟩
    · have hc3 : X.rev + 1 < fr := by omega
      go_wp2_with fail
      go_returns
      rw [← HY1]
      exact ⟨_, rfl, Kd.R_nil _ _ _ _ _, by rw [← HB0.out]; exact H1.out.1⟩
  · have HY1 := HY.out
    rw [if_neg hc1] at HY1
    have hc2 : ¬ fr < 1 := by omega
    have hc3 : ¬ X.rev + 1 < fr := by omega
    by_cases hlo : fr ≤ X.low
    · rw [if_pos hlo] at HY1
      go_wp2_with fail
      go_returns
      rw [← HY1]
      exact ⟨_, rfl, Kd.R_nil _ _ _ _ _, by rw [← HB0.out]; exact H1.out.1⟩
    · rw [if_neg hlo] at HY1
      have HYY := Aside.mk HY1
      obtain ⟨n, hn⟩ : ∃ n, X.hap.length = n := ⟨_, rfl⟩
      rw [hn] at e4 hT
      have HN := Aside.mk hn
      have hnb : n ≤ 100000000 := by have := HX.out.2; omega
      clear HY1 HY hn
      go_wp2_with fail
      simp only [decide_eq_false (Int.not_lt.2 hc2), decide_eq_false (Int.not_lt.2 hc3), decide_eq_false (Int.not_le.2 hlo), Bool.or_false]
      clear hc1 hc2 hc3 hlo
      go_loopw [8, 42] (fun v8 v42 wr => ∃ k : Nat, k ≤ n ∧ v42 = .int .i64 k ∧ Aside (k75.R 75 wr B0 (fun k => B0 ≤ k) v8 ((X.hap.take k).filter (fun x => decide (fr ≤ x.f0))) ∧ Below w.heap.size w wr)) (fun _ v42 _ => n - (intOf v42).toNat)
      case atStart => exact ⟨0, by omega, rfl, ⟨Kd.R_nil _ _ _ _ _, H1.out.1⟩⟩
      case round =>
        obtain ⟨k, hk, rfl, HI⟩ := hrel
        by_cases hkn : k < n
        · obtain ⟨o, ho⟩ : ∃ o, X.hap[k]? = some o := ⟨_, List.getElem?_eq_getElem (by rw [HN.out]; exact hkn)⟩
          obtain ⟨v', m', hT', h2', h3', h4', h5'⟩ := HX.out.1.below HI.out.2
          rw [HN.out] at h3'
          obtain ⟨ad, he, f0, f1, f2, f3⟩ := at_T75 h3' (k : Int) (by omega) (by omega)
          rw [rd_get ho] at f0 f1 f2 f3
          simp only [Int.toNat_natCast] at f0 f1 f2 f3
          have htk := fil_take (p := fun x => decide (fr ≤ x.f0)) ho
          obtain ⟨evs, hevs⟩ : ∃ e, (X.hap.take k).filter (fun x => decide (fr ≤ x.f0)) = e := ⟨_, rfl⟩
          have hel : evs.length ≤ 100000000 := by
            have h1 := List.length_filter_le (fun x : Evn => decide (fr ≤ x.f0)) (X.hap.take k)
            rw [hevs, List.length_take] at h1
            omega
          obtain ⟨o0, o1, o2, o3⟩ := o
          dsimp only at f0 f1 f2 f3
          have HI2 := HI.out
          rw [hevs] at HI2 htk
          obtain ⟨V, hV⟩ : ∃ v, u8 = v := ⟨_, rfl⟩
          have hsz : B0 ≤ wr.heap.size := by rw [← HB0.out]; exact HI2.2.size
          subst he
          have hbw := Obj.cells #[Value.int .i64 o0, Value.bool o1, Value.string o2, Value.string o3] 75 (0, 0)
          have HEL := Aside.mk hel
          have HTK := Aside.mk htk
          clear hbw ho h2' h3' h4' h5' hT' hel htk
          have HBq : ∀ q, Below wr.heap.size wr ((wr.alloc (Obj.cells #[Value.int .i64 o0, Value.bool o1, Value.string o2, Value.string o3] 75 (0, 0))).drewN q) := fun q => pw_below_drewN ((Below.refl _ wr).alloc (Nat.le_refl _) _) q
          have hbq := fun W => begins_calls o2 (ByteArray.mk #[]) W
          rw [begins_nil] at hbq
          have HBQ := Aside.mk HBq
          clear HBq
          by_cases hge : fr ≤ o0
          · go_wp2_with fail
            refine (hbq _).mono ?_
            rintro e w4 ⟨rfl, q, hw4⟩
            have hb4 := HBQ.out q
            rw [← hw4] at hb4
            have HBO : Aside (w4.heap[wr.heap.size]? = some (Obj.cells #[Value.int .i64 o0, Value.bool o1, Value.string o2, Value.string o3] 75 (0, 0))) := ⟨by rw [hw4]; exact World.alloc_heap_new wr _⟩
            have g0 := cell_at HBO.out 0
            have g1 := cell_at HBO.out 1
            have g2 := cell_at HBO.out 2
            have g3 := cell_at HBO.out 3
            have HEV : Aside (k75.R 75 w4 B0 (fun k => B0 ≤ k) V evs) := ⟨by rw [← hV]; exact Kd.R_below HI2.1 hb4⟩
            have HBZ : Aside (B0 ≤ w4.heap.size) := ⟨Nat.le_trans hsz hb4.size⟩
            have HW4 := Aside.mk (HI2.2.trans (hb4.mono HI2.2.size))
            clear hb4 hw4 HBQ HI2 hbq
            try rw [hV]
            clear hV
            go_wp2_with (refine Kd.R_append k75 B0 rfl _ _ 31 75 (.agg #[.int .i64 0, .bool false, .string (ByteArray.mk #[]), .string (ByteArray.mk #[])]) 48 rfl Try.underlying31 ev_infoH rfl (by decide) (by decide) V evs ⟨o0, o1, o2, o3⟩ [.int .i64 o0, .bool o1, .string o2, .string o3] (fun k => B0 ≤ k) (fun _ => False) rfl rfl (k75_mkM _ _ _ ⟨o0, o1, o2, o3⟩) (fun _ h => h.elim) (fun k hk => by have := HBZ.out; omega) HEV.out (Below.refl B0 _) HBZ.out (by have := HEL.out; omega) ?_; rintro V1 W2 hr2 hb2 hg2 -)
            go_roundw
            case rel => exact ⟨k + 1, by omega, by go_num, ⟨by rw [HTK.out, if_pos (decide_eq_true hge)]; exact hr2, HW4.out.trans (by rw [HB0.out]; exact hb2)⟩⟩
            case measure => simp [intOf]; omega
          · go_wp2_with fail
            go_roundw
            case rel => exact ⟨k + 1, by omega, by go_num, ⟨by rw [HTK.out, if_neg (by simpa using hge), List.append_nil]; exact Kd.R_below HI2.1 ((Below.refl _ wr).alloc (Nat.le_refl _) _), HI2.2.alloc HI2.2.size _⟩⟩
            case measure => simp [intOf]; omega
        · obtain rfl : n = k := by omega
          have htk : X.hap.take n = X.hap := List.take_of_length_le (by rw [HN.out]; exact Nat.le_refl _)
          have HI2 := HI.out
          rw [htk] at HI2
          have HI := Aside.mk HI2
          clear htk HI2
          go_wp2_with fail
          go_returns
          rw [← HYY.out]
          exact ⟨_, rfl, HI.out.1, by rw [← HB0.out]; exact HI.out.2⟩
end Go.Proofs.Ytagkobpbhfkmdaa.C
/-! from PC -/
namespace Go.Proofs.Ytagkobpbhfkmdaa.C
open Go.RowKit Go.Proofs.Ytagkobpbhfkmdaa.Q
set_option linter.unusedVariables false
set_option linter.unusedSimpArgs false
/-- What an event makes of what stands at its key. -/
def stepP (p : Ent × Bool) (x : Evn) : Ent × Bool := if x.f1 = true then (entZ0, false) else (⟨x.f2, x.f3, if p.2 = true then p.1.made else x.f0, x.f0⟩, true)
def fil (κ : ByteArray) (l : List Evn) : List Evn := l.filter (fun x => eqT x.f2 κ)
theorem fil_app (κ : ByteArray) (a b : List Evn) : fil κ (a ++ b) = fil κ a ++ fil κ b := List.filter_append ..
/-- A tree is well made. -/
structure WF (X : Tre) : Prop where
  ok : X.t.ok
  srt : SrtO X.t.ord
  good : ∀ x ∈ X.t.ord, x.2.key = x.1 ∧ mayOpB false x.1 x.2.val = true ∧ 1 ≤ x.2.made ∧ x.2.made ≤ x.2.mod ∧ x.2.mod ≤ X.rev
def evOK (x : Evn) : Prop := mayOpB x.f1 x.f2 x.f3 = true
theorem mayOpB_put {k v : ByteArray} {b : Bool} (h : mayOpB b k v = true) : mayOpB false k v = true := by
  unfold mayOpB at h ⊢
  simp only [Bool.and_eq_true, Bool.not_false, Bool.true_or] at h ⊢
  exact ⟨h.1, h.2.1, trivial⟩
theorem WF.get {X : Tre} (h : WF X) (k : ByteArray) (hg : (Shf.get k X.t).2 = true) : (k, (Shf.get k X.t).1) ∈ X.t.ord := by
  obtain ⟨g1, g2⟩ := Shf.get_mem (k := k) h.srt
  by_cases hx : ∃ e, (k, e) ∈ X.t.ord
  · obtain ⟨e, he⟩ := hx
    rw [g1 e he]
    exact he
  · rw [g2 (fun e he => hx ⟨e, he⟩)] at hg
    cases hg
theorem opM_wf {X : Tre} {o : Opn} (h : WF X) (hr : 1 ≤ X.rev) (hm : mayOpB o.f0 o.f1 o.f2 = true) : WF (opM X o).1 ∧ (opM X o).1.rev = X.rev ∧
    ∀ κ, Shf.get κ (opM X o).1.t = if (opM X o).2 = true ∧ κ = o.f1 then stepP (Shf.get κ X.t) ⟨X.rev, o.f0, o.f1, o.f2⟩ else Shf.get κ X.t := by
  unfold opM
  by_cases c1 : o.f0 = true
  · rw [if_pos c1]
    by_cases c2 : (Shf.get o.f1 X.t).2 = true
    · rw [if_pos c2]
      refine ⟨⟨(Shf.drop_ok _ h.ok).1, drop_srt h.ok h.srt, fun x hx => h.good x ((drop_mem h.ok h.srt _).1 hx).2⟩, rfl, fun κ => ?_⟩
      show Shf.get κ (Shf.drop o.f1 X.t) = _
      rw [get_drop h.ok h.srt]
      by_cases hk : κ = o.f1
      · rw [if_pos hk, if_pos ⟨rfl, hk⟩]
        unfold stepP
        rw [if_pos c1]
      · rw [if_neg hk, if_neg (fun hh => hk hh.2)]
    · rw [if_neg c2]
      exact ⟨h, rfl, fun κ => by rw [if_neg (fun hh => by cases hh.1)]⟩
  · rw [if_neg c1]
    refine ⟨⟨(Shf.put_ok _ _ h.ok).1, put_srt h.ok h.srt, fun x hx => ?_⟩, rfl, fun κ => ?_⟩
    · rcases (put_mem h.ok h.srt _).1 hx with rfl | ⟨_, hx⟩
      · refine ⟨rfl, mayOpB_put hm, ?_⟩
        dsimp only
        by_cases c2 : (Shf.get o.f1 X.t).2 = true
        · rw [if_pos c2]
          have := h.good _ (h.get _ c2)
          dsimp only at this
          omega
        · rw [if_neg c2]
          omega
      · exact h.good x hx
    · show Shf.get κ (Shf.put o.f1 _ X.t) = _
      rw [get_put h.ok h.srt]
      by_cases hk : κ = o.f1
      · rw [if_pos hk]
        show _ = if (true = true ∧ κ = o.f1) then _ else _
        rw [if_pos (show true = true ∧ κ = o.f1 from ⟨rfl, hk⟩)]
        unfold stepP
        rw [if_neg c1, hk]
      · rw [if_neg hk]
        show _ = if (true = true ∧ κ = o.f1) then _ else _
        rw [if_neg (fun hh : true = true ∧ κ = o.f1 => hk hh.2)]
/-- What operations leave. -/
structure Ops1 (X X' : Tre) (evs : List Evn) (l : List Opn) : Prop where
  wf : WF X'
  rev : X'.rev = X.rev
  low : X'.low = X.low
  hap : X'.hap = X.hap
  cnt : X'.t.cnt ≤ X.t.cnt + l.length
  len : evs.length ≤ l.length
  ev : ∀ x ∈ evs, x.f0 = X.rev ∧ evOK x
  sub : (evs.map (·.f2)).Sublist (l.map (·.f1))
  get : ∀ κ, Shf.get κ X'.t = (fil κ evs).foldl stepP (Shf.get κ X.t)
theorem stepD_fold : ∀ (l : List Opn) (X : Tre) (ev0 : List Evn), WF X → 1 ≤ X.rev → (∀ o ∈ l, mayOpB o.f0 o.f1 o.f2 = true) → ∃ X' evs, l.foldl stepD (X, ev0) = (X', ev0 ++ evs) ∧ Ops1 X X' evs l
  | [], X, ev0, h, _, _ => ⟨X, [], by simp, ⟨h, rfl, rfl, rfl, Nat.le_refl _, Nat.le_refl _, fun x hx => (by cases hx), List.Sublist.refl _, fun _ => rfl⟩⟩
  | o :: l, X, ev0, h, hr, hm => by
    have hmo := hm o List.mem_cons_self
    obtain ⟨w1, w2, w3⟩ := opM_wf h hr hmo
    obtain ⟨_, k2, k3, k4, k5⟩ := opM_ok o h.ok
    obtain ⟨X', evs, he, hO⟩ := stepD_fold l (opM X o).1 (if (opM X o).2 = true then ev0 ++ [⟨(opM X o).1.rev, o.f0, o.f1, o.f2⟩] else ev0) w1 (by rw [w2]; exact hr) (fun p hp => hm p (List.mem_cons_of_mem _ hp))
    rw [List.foldl_cons]
    have hst : stepD (X, ev0) o = ((opM X o).1, if (opM X o).2 = true then ev0 ++ [⟨(opM X o).1.rev, o.f0, o.f1, o.f2⟩] else ev0) := rfl
    rw [hst, he]
    by_cases hq : (opM X o).2 = true
    · rw [if_pos hq, List.append_assoc]
      refine ⟨X', [⟨(opM X o).1.rev, o.f0, o.f1, o.f2⟩] ++ evs, rfl, hO.wf, hO.rev.trans k3, hO.low.trans k4, hO.hap.trans k5, ?_, ?_, ?_, ?_, ?_⟩
      · have := hO.cnt; simp only [List.length_cons]; omega
      · have := hO.len; simp only [List.length_append, List.length_cons, List.length_nil]; omega
      · intro x hx
        rcases List.mem_append.1 hx with hx | hx
        · rw [List.mem_singleton] at hx
          subst hx
          exact ⟨k3, hmo⟩
        · have := hO.ev x hx
          exact ⟨this.1.trans k3, this.2⟩
      · rw [List.singleton_append, List.map_cons, List.map_cons]
        exact List.Sublist.cons_cons _ hO.sub
      · intro κ
        rw [hO.get κ, fil_app, List.foldl_append, w3 κ]
        congr 1
        by_cases hk : κ = o.f1
        · rw [if_pos ⟨hq, hk⟩]
          have : fil κ [⟨(opM X o).1.rev, o.f0, o.f1, o.f2⟩] = [⟨(opM X o).1.rev, o.f0, o.f1, o.f2⟩] := by
            unfold fil
            rw [List.filter_cons, if_pos (eqT_iff.2 hk.symm)]
            rfl
          rw [this, k3]
          rfl
        · rw [if_neg (fun hh => hk hh.2)]
          have : fil κ [⟨(opM X o).1.rev, o.f0, o.f1, o.f2⟩] = [] := by
            unfold fil
            rw [List.filter_cons, if_neg (fun hh => hk (eqT_iff.1 hh).symm)]
            rfl
          rw [this]
          rfl
    · rw [if_neg hq]
      refine ⟨X', evs, rfl, hO.wf, hO.rev.trans k3, hO.low.trans k4, hO.hap.trans k5, ?_, ?_, ?_, ?_, ?_⟩
      · have := hO.cnt; simp only [List.length_cons]; omega
      · have := hO.len; simp only [List.length_cons]; omega
      · intro x hx
        have := hO.ev x hx
        exact ⟨this.1.trans k3, this.2⟩
      · rw [List.map_cons]
        exact List.Sublist.cons _ hO.sub
      · intro κ
        rw [hO.get κ, w3 κ, if_neg (fun hh => hq hh.1)]
theorem opsTo_good {l : List Opn} : ∀ {n : Nat}, n ≤ l.length → opsTo l n = true → (∀ o ∈ l.take n, mayOpB o.f0 o.f1 o.f2 = true) ∧ ((l.take n).map (·.f1)).Nodup
  | 0, _, _ => ⟨fun o ho => by simp at ho, by simp⟩
  | n + 1, hn, h => by
    have hh : (opsTo l n && (match l[n]? with | none => true | some o => mayOpB o.f0 o.f1 o.f2 && !((l.take n).any (sameO o)))) = true := h
    rw [List.getElem?_eq_getElem (by omega)] at hh
    simp only [Bool.and_eq_true, Bool.not_eq_true'] at hh
    obtain ⟨h1, h2, h3⟩ := hh
    obtain ⟨g1, g2⟩ := opsTo_good (by omega) h1
    rw [List.take_succ_eq_append_getElem (by omega)]
    refine ⟨fun o ho => ?_, ?_⟩
    · rcases List.mem_append.1 ho with ho | ho
      · exact g1 o ho
      · rw [List.mem_singleton] at ho; subst ho; exact h2
    · rw [List.map_append, List.nodup_append]
      refine ⟨g2, by simp, fun a ha b hb => ?_⟩
      rw [List.map_cons, List.map_nil, List.mem_singleton] at hb
      subst hb
      rintro rfl
      obtain ⟨p, hp, hpe⟩ := List.mem_map.1 ha
      have := List.any_eq_false.1 h3 p hp
      exact this (eqT_iff.2 hpe)
theorem mayTxn_good {x : Txn'} (h : mayTxnB x = true) : (∀ o ∈ x.f1, mayOpB o.f0 o.f1 o.f2 = true) ∧ (x.f1.map (·.f1)).Nodup ∧ x.f1.length ≤ 8 := by
  unfold mayTxnB at h
  simp only [Bool.and_eq_true, decide_eq_true_iff] at h
  have := opsTo_good (Nat.le_refl _) h.2.2.2
  rw [List.take_length] at this
  exact ⟨this.1, this.2, h.2.1⟩
/-- One revision on. -/
structure Next (X X' : Tre) : Prop where
  ev : ∃ evs, X'.hap = X.hap ++ evs ∧ (∀ x ∈ evs, x.f0 = X.rev + 1 ∧ evOK x) ∧ (evs.map (·.f2)).Nodup ∧ evs.length ≤ 8 ∧ ∀ κ, Shf.get κ X'.t = (fil κ evs).foldl stepP (Shf.get κ X.t)
  wf : WF X'
  rev : X'.rev = X.rev + 1
  low : X'.low = X.low
  cnt : X'.t.cnt ≤ X.t.cnt + 8
theorem WF.up {X : Tre} (h : WF X) : WF { X with rev := X.rev + 1 } := ⟨h.ok, h.srt, fun x hx => by
  obtain ⟨h1, h2, h3, h4, h5⟩ := h.good x hx
  exact ⟨h1, h2, h3, h4, by show x.2.mod ≤ X.rev + 1; omega⟩⟩
theorem doM_next {X : Tre} {x : Txn'} (h : WF X) (hr : 0 ≤ X.rev) : ((doM X x).1 = X ∧ ∃ b e, (doM X x).2 = (b, e)) ∨ (Next X (doM X x).1 ∧ (doM X x).2 = (true, 0)) := by
  unfold doM
  by_cases c1 : mayTxnB x = false
  · rw [if_pos c1]; exact .inl ⟨rfl, _, _, rfl⟩
  · rw [if_neg c1]
    by_cases c2 : x.f0.any (offB X.t) = true
    · rw [if_pos c2]; exact .inl ⟨rfl, _, _, rfl⟩
    · rw [if_neg c2]
      by_cases c3 : x.f1.length = 0
      · rw [if_pos c3]; exact .inl ⟨rfl, _, _, rfl⟩
      · rw [if_neg c3]
        by_cases c4 : X.rev = 1099511627776
        · rw [if_pos c4]; exact .inl ⟨rfl, _, _, rfl⟩
        · rw [if_neg c4]
          right
          obtain ⟨m1, m2, m3⟩ := mayTxn_good (by simpa using c1)
          obtain ⟨X', evs, he, hO⟩ := stepD_fold x.f1 { X with rev := X.rev + 1 } [] h.up (by show 1 ≤ X.rev + 1; omega) m1
          have he' : opsM X x.f1 = (X', evs) := by unfold opsM; rw [he]; rfl
          rw [he']
          refine ⟨⟨⟨evs, rfl, hO.ev, hO.sub.nodup m2, Nat.le_trans hO.len m3, hO.get⟩, ⟨hO.wf.ok, hO.wf.srt, hO.wf.good⟩, hO.rev, hO.low, ?_⟩, rfl⟩
          have := hO.cnt
          show X'.t.cnt ≤ X.t.cnt + 8
          have h2 : ({ X with rev := X.rev + 1 } : Tre).t.cnt = X.t.cnt := rfl
          omega
end Go.Proofs.Ytagkobpbhfkmdaa.C
/-! from PD -/
namespace Go.Proofs.Ytagkobpbhfkmdaa.C
open Go.RowKit Go.Proofs.Ytagkobpbhfkmdaa.Q
set_option linter.unusedVariables false
set_option linter.unusedSimpArgs false
def stepC (P : Tre × List Tre) (x : Txn') : Tre × List Tre :=
  ((doM P.1 x).1, if (doM P.1 x).2.2 = 0 ∧ (doM P.1 x).2.1 = true ∧ (doM P.1 x).1.rev = P.2.length then P.2 ++ [(doM P.1 x).1] else P.2)
def courseM (l : List Txn') : Tre × List Tre := l.foldl stepC (treZ, [treZ])
structure Crs (X : Tre) (L : List Tre) (n : Nat) : Prop where
  pos : 0 < L.length
  last : L[L.length - 1]? = some X
  len : L.length ≤ n + 1
  at_ : ∀ (i : Nat) (Y : Tre), L[i]? = some Y → Y.rev = i ∧ Y.low = 0 ∧ WF Y ∧ Y.t.cnt ≤ 8 * n ∧ Y.hap.length ≤ 8 * n
  next : ∀ (i : Nat) (Y Z : Tre), L[i]? = some Y → L[i + 1]? = some Z → Next Y Z
  zero : L[0]? = some treZ
theorem Crs.start : Crs treZ [treZ] 0 := by
  refine ⟨by decide, rfl, by decide, fun i Y h => ?_, fun i Y Z h1 h2 => ?_, rfl⟩
  · rcases i with _ | i
    · cases h
      exact ⟨rfl, rfl, ⟨trivial, List.Pairwise.nil, fun x hx => (by cases hx)⟩, Nat.le_refl _, Nat.le_refl _⟩
    · simp at h
  · simp at h2
theorem Crs.step {X : Tre} {L : List Tre} {n : Nat} (h : Crs X L n) (x : Txn') : Crs (stepC (X, L) x).1 (stepC (X, L) x).2 (n + 1) := by
  obtain ⟨r1, r2, r3, r4, r5⟩ := h.at_ _ X h.last
  have hp := h.pos
  unfold stepC
  dsimp only
  rcases doM_next (x := x) r3 (by rw [r1]; omega) with ⟨e1, b, e, e2⟩ | ⟨hN, e2⟩
  · rw [e1, if_neg (fun hh => by have := hh.2.2; rw [r1] at this; omega)]
    exact ⟨h.pos, h.last, Nat.le_succ_of_le h.len, fun i Y hi => by have := h.at_ i Y hi; exact ⟨this.1, this.2.1, this.2.2.1, by omega, by omega⟩, h.next, h.zero⟩
  · rw [e2, if_pos ⟨rfl, rfl, by rw [hN.rev, r1]; omega⟩]
    obtain ⟨evs, e3, e4, e5, e6, e7⟩ := hN.ev
    refine ⟨by simp, by simp, by simp; exact h.len, fun i Y hi => ?_, fun i Y Z h1 h2 => ?_, ?_⟩
    · by_cases hl : i < L.length
      · rw [List.getElem?_append_left hl] at hi
        have := h.at_ i Y hi
        exact ⟨this.1, this.2.1, this.2.2.1, by omega, by omega⟩
      · rw [List.getElem?_append_right (by omega)] at hi
        have hz : i - L.length = 0 := by
          rcases Nat.eq_zero_or_pos (i - L.length) with hz | hz
          · exact hz
          · rw [List.getElem?_eq_none (by simp; omega)] at hi; cases hi
        rw [hz] at hi
        cases hi
        refine ⟨by rw [hN.rev, r1]; omega, hN.low.trans r2, hN.wf, by have := hN.cnt; omega, ?_⟩
        rw [e3, List.length_append]; omega
    · by_cases hl : i + 1 < L.length
      · rw [List.getElem?_append_left (by omega)] at h1
        rw [List.getElem?_append_left hl] at h2
        exact h.next i Y Z h1 h2
      · have hl2 : i < L.length := by
          rcases Nat.lt_or_ge i L.length with hh | hh
          · exact hh
          · rw [List.getElem?_eq_none (by simp; omega)] at h2; cases h2
        rw [List.getElem?_append_left hl2] at h1
        rw [List.getElem?_append_right (by omega), show i + 1 - L.length = 0 by omega] at h2
        cases h2
        rw [show i = L.length - 1 by omega, h.last] at h1
        cases h1
        exact hN
    · rw [List.getElem?_append_left h.pos]
      exact h.zero
theorem Crs.fold : ∀ (l : List Txn') {X : Tre} {L : List Tre} {n : Nat}, Crs X L n → Crs (l.foldl stepC (X, L)).1 (l.foldl stepC (X, L)).2 (n + l.length)
  | [], _, _, _, h => h
  | x :: l, X, L, n, h => by
    rw [List.foldl_cons]
    have := Crs.fold l (h.step x)
    rw [List.length_cons, show n + (l.length + 1) = n + 1 + l.length by omega]
    exact this
theorem asof_congr {f g : Fcts} {u : Int} {k : ByteArray} (h : f k = g k) : asofM f u k = asofM g u k := by unfold asofM; rw [h]
theorem get_congr {f g : Fcts} {k : ByteArray} (h : f k = g k) : getM f k = getM g k := by unfold getM; rw [h]
theorem stepW_ne {u : Int} {f : Fcts} {x : Evn} {k : ByteArray} (h : x.f2 ≠ k) : (stepW u f x) k = f k := by
  unfold stepW
  split
  · unfold happM upd
    rw [if_neg (fun e => h e.symm)]
  · rfl
theorem stepW_at {u : Int} {f : Fcts} {x : Evn} (h : asofM f u x.f2 < x.f0) (hu : u ≤ x.f0) : asofM (stepW u f x) u x.f2 = x.f0 ∧ getM (stepW u f x) x.f2 = stepP (getM f x.f2) x := by
  unfold stepW
  rw [if_pos h]
  unfold happM
  have e : upd f x.f2 (some (if x.f1 then ⟨x.f0, false, entZ⟩ else ⟨x.f0, true, ⟨x.f2, x.f3, if (getM f x.f2).2 then (getM f x.f2).1.made else x.f0, x.f0⟩⟩)) x.f2 = some (if x.f1 then ⟨x.f0, false, entZ⟩ else ⟨x.f0, true, ⟨x.f2, x.f3, if (getM f x.f2).2 then (getM f x.f2).1.made else x.f0, x.f0⟩⟩) := by unfold upd; rw [if_pos rfl]
  constructor
  · unfold asofM
    rw [e]
    dsimp only
    cases x.f1 <;> simp <;> omega
  · rw [show getM (upd f x.f2 _) x.f2 = (((upd f x.f2 _ x.f2).getD fctZ).x, ((upd f x.f2 _ x.f2).getD fctZ).there) from rfl, e]
    unfold stepP
    cases x.f1 <;> rfl
theorem stepW_skip {u : Int} {f : Fcts} {x : Evn} (h : ¬ asofM f u x.f2 < x.f0) : stepW u f x = f := by unfold stepW; rw [if_neg h]
/-- A revision's events, told: at each key. -/
theorem blk_none {u : Int} {k : ByteArray} : ∀ {E : List Evn} {f : Fcts}, (∀ x ∈ E, x.f2 ≠ k) → (E.foldl (stepW u) f) k = f k
  | [], _, _ => rfl
  | x :: E, f, h => by
    rw [List.foldl_cons, blk_none (fun y hy => h y (List.mem_cons_of_mem _ hy))]
    exact stepW_ne (h x List.mem_cons_self)
theorem blk_fil {k : ByteArray} {E : List Evn} (hn : (E.map (·.f2)).Nodup) : (fil k E = [] ∧ ∀ x ∈ E, x.f2 ≠ k) ∨ ∃ a x b, E = a ++ x :: b ∧ x.f2 = k ∧ fil k E = [x] ∧ (∀ y ∈ a, y.f2 ≠ k) ∧ ∀ y ∈ b, y.f2 ≠ k := by
  by_cases h : ∃ x ∈ E, x.f2 = k
  · right
    obtain ⟨x, hx, hk⟩ := h
    obtain ⟨a, b, hab⟩ := List.append_of_mem hx
    subst hab
    rw [List.map_append, List.map_cons, List.nodup_append] at hn
    obtain ⟨n1, n2, n3⟩ := hn
    have h1 : ∀ y ∈ a, y.f2 ≠ k := fun y hy e => n3 y.f2 (List.mem_map_of_mem hy) x.f2 List.mem_cons_self (e.trans hk.symm)
    have h2 : ∀ y ∈ b, y.f2 ≠ k := fun y hy e => (List.nodup_cons.1 n2).1 (by rw [hk, ← e]; exact List.mem_map_of_mem hy)
    refine ⟨a, x, b, rfl, hk, ?_, h1, h2⟩
    have f1 : fil k a = [] := by
      unfold fil; rw [List.filter_eq_nil_iff]; exact fun y hy e => h1 y hy (eqT_iff.1 e)
    have f2 : fil k b = [] := by
      unfold fil; rw [List.filter_eq_nil_iff]; exact fun y hy e => h2 y hy (eqT_iff.1 e)
    rw [fil_app, f1, show x :: b = [x] ++ b from rfl, fil_app, f2]
    unfold fil
    rw [List.filter_cons, if_pos (eqT_iff.2 hk)]
    rfl
  · left
    have h1 : ∀ y ∈ E, y.f2 ≠ k := fun y hy e => h ⟨y, hy, e⟩
    refine ⟨?_, h1⟩
    unfold fil; rw [List.filter_eq_nil_iff]; exact fun y hy e => h1 y hy (eqT_iff.1 e)
theorem asof_ge (f : Fcts) (u : Int) (k : ByteArray) : u ≤ asofM f u k := by
  unfold asofM
  split
  · exact Int.le_refl _
  · split <;> omega
/-- One revision's events, told to a cache that knows a key as of a, got as of b: then as of ... -/
theorem blk_know {u r : Int} {E : List Evn} {f : Fcts} {k : ByteArray} (hr : ∀ x ∈ E, x.f0 = r) (hn : (E.map (·.f2)).Nodup) (hu : u ≤ asofM f u k) :
    (r ≤ asofM f u k → (E.foldl (stepW u) f) k = f k) ∧
    (asofM f u k < r → asofM f u k ≤ asofM (E.foldl (stepW u) f) u k ∧ asofM (E.foldl (stepW u) f) u k ≤ r ∧ getM (E.foldl (stepW u) f) k = (fil k E).foldl stepP (getM f k)) := by
  rcases blk_fil (k := k) hn with ⟨h1, h2⟩ | ⟨a, x, b, rfl, hk, h1, h2, h3⟩
  · have e := blk_none (u := u) (f := f) h2
    refine ⟨fun _ => e, fun hlt => ?_⟩
    rw [asof_congr e, get_congr e, h1]
    exact ⟨Int.le_refl _, Int.le_of_lt hlt, rfl⟩
  · have hx := hr x (List.mem_append_right _ List.mem_cons_self)
    rw [h1, List.foldl_append, List.foldl_cons]
    have ea := blk_none (u := u) (f := f) h2
    have eb := blk_none (u := u) (f := stepW u (a.foldl (stepW u) f) x) h3
    subst hk
    constructor
    · intro hge
      rw [eb, stepW_skip (by rw [asof_congr ea, hx]; omega), ea]
    · intro hlt
      obtain ⟨s1, s2⟩ := stepW_at (u := u) (f := a.foldl (stepW u) f) (x := x) (by rw [asof_congr ea, hx]; exact hlt) (by rw [hx]; omega)
      rw [asof_congr eb, get_congr eb, s1, s2, get_congr ea, hx]
      exact ⟨Int.le_of_lt hlt, Int.le_refl _, rfl⟩
/-- Known: each key as a tree of the course has it. -/
def Know (L : List Tre) (f : Fcts) (u : Int) : Prop := ∀ k, (asofM f u k < 0 → (getM f k).2 = false) ∧ (0 ≤ asofM f u k → ∃ (b : Nat) (W : Tre), (b : Int) = asofM f u k ∧ L[b]? = some W ∧ getM f k = Shf.get k W.t)
theorem span {X : Tre} {L : List Tre} {n : Nat} (hC : Crs X L n) {i : Nat} {Y : Tre} (hY : L[i]? = some Y) {f : Fcts} {u : Int} (hi : (i : Int) ≤ u) (hK : Know L f u) :
    ∀ (d : Nat) (Z : Tre), L[i + d]? = some Z → ∃ evs, Z.hap = Y.hap ++ evs ∧ (∀ x ∈ evs, (i : Int) < x.f0 ∧ x.f0 ≤ i + d ∧ evOK x) ∧ evs.Pairwise (fun a b => a.f0 ≤ b.f0) ∧
      ∀ k, asofM f u k ≤ asofM (evs.foldl (stepW u) f) u k ∧ (asofM (evs.foldl (stepW u) f) u k ≤ asofM f u k ∨ asofM (evs.foldl (stepW u) f) u k ≤ i + d) ∧
        ∃ (b : Nat) (W : Tre), (b : Int) = max (asofM f u k) (i + d) ∧ L[b]? = some W ∧ getM (evs.foldl (stepW u) f) k = Shf.get k W.t
  | 0, Z, hZ => by
    rw [Nat.add_zero, hY] at hZ
    cases hZ
    refine ⟨[], by simp, fun x hx => (by cases hx), List.Pairwise.nil, fun k => ⟨Int.le_refl _, .inl (Int.le_refl _), ?_⟩⟩
    have hg := asof_ge f u k
    obtain ⟨b, W, h1, h2, h3⟩ := (hK k).2 (by omega)
    exact ⟨b, W, by simp only [Int.natCast_zero, Int.add_zero]; omega, h2, h3⟩
  | d + 1, Z', hZ' => by
    have hlt : i + d < L.length := by
      rcases Nat.lt_or_ge (i + d) L.length with h | h
      · exact h
      · rw [List.getElem?_eq_none (by omega)] at hZ'; cases hZ'
    obtain ⟨Z, hZ⟩ : ∃ Z, L[i + d]? = some Z := ⟨_, List.getElem?_eq_getElem hlt⟩
    obtain ⟨evs, e1, e2, e3, e4⟩ := span hC hY hi hK d Z hZ
    have hN := hC.next _ Z Z' hZ hZ'
    obtain ⟨E, n1, n2, n3, n4, n5⟩ := hN.ev
    have hrev := (hC.at_ _ Z hZ).1
    have hE : ∀ x ∈ E, x.f0 = ((i + d + 1 : Nat) : Int) := fun x hx => by rw [(n2 x hx).1, hrev]; omega
    refine ⟨evs ++ E, by rw [n1, e1, List.append_assoc], fun x hx => ?_, ?_, fun k => ?_⟩
    · rcases List.mem_append.1 hx with hx | hx
      · have := e2 x hx; exact ⟨this.1, by omega, this.2.2⟩
      · have := hE x hx; exact ⟨by omega, by omega, (n2 x hx).2⟩
    · rw [List.pairwise_append]
      refine ⟨e3, ?_, fun a ha b hb => by have := (e2 a ha).2.1; have := hE b hb; omega⟩
      exact List.pairwise_of_forall_mem_list (fun a ha b hb => by rw [hE a ha, hE b hb]; exact Int.le_refl _)
    · rw [List.foldl_append]
      obtain ⟨g1, g2, b, W, g3, g4, g5⟩ := e4 k
      obtain ⟨q1, q2⟩ := blk_know (u := u) (f := evs.foldl (stepW u) f) (k := k) hE n3 (asof_ge _ _ _)
      generalize evs.foldl (stepW u) f = f1 at g1 g2 g5 q1 q2 ⊢
      by_cases hc : ((i + d + 1 : Nat) : Int) ≤ asofM f1 u k
      · have e := q1 hc
        rw [asof_congr e, get_congr e]
        have hc2 : asofM f1 u k ≤ asofM f u k := by rcases g2 with h | h; exact h; omega
        refine ⟨g1, .inl hc2, b, W, by omega, g4, g5⟩
      · obtain ⟨s1, s2, s3⟩ := q2 (by omega)
        refine ⟨by omega, .inr (by omega), ?_⟩
        have hb : b = i + d := by omega
        subst hb
        rw [hZ] at g4
        cases g4
        exact ⟨i + d + 1, Z', by omega, hZ', by rw [s3, g5, n5]⟩
end Go.Proofs.Ytagkobpbhfkmdaa.C
/-! from PE -/
namespace Go.Proofs.Ytagkobpbhfkmdaa.C
open Go.RowKit Go.Proofs.Ytagkobpbhfkmdaa.Q
set_option linter.unusedVariables false
set_option linter.unusedSimpArgs false
theorem keyB_ne {s : ByteArray} (h : keyB s = true) : s.toList ≠ [] := by
  unfold keyB at h
  simp only [Bool.and_eq_true, Bool.not_eq_true'] at h
  intro e
  rw [e] at h
  cases h.1
theorem mayOpB_key {b : Bool} {k v : ByteArray} (h : mayOpB b k v = true) : keyB k = true := by
  unfold mayOpB at h
  simp only [Bool.and_eq_true] at h
  exact h.1
def GoodEn (rev : Int) (x : En) : Prop := mayOpB false x.f0 x.f1 = true ∧ 1 ≤ x.f2 ∧ x.f2 ≤ x.f3 ∧ x.f3 ≤ rev
theorem good_to {l : List En} {rev : Int} (hs : l.Pairwise (fun a b => ltB a.f0 b.f0)) (hg : ∀ x ∈ l, GoodEn rev x) : ∀ k, k ≤ l.length → goodTo l rev k = true
  | 0, _ => rfl
  | k + 1, hk => by
    have hx : l[k]? = some l[k] := List.getElem?_eq_getElem (by omega)
    show (goodTo l rev k && goodE (lastK l k) rev (entOf (rd_T46 l k))) = true
    rw [good_to hs hg k (by omega), Bool.true_and, rd_getE hx]
    obtain ⟨g1, g2, g3, g4⟩ := hg l[k] (List.getElem_mem _)
    unfold goodE entOf
    dsimp only
    rw [g1, decide_eq_true g2, decide_eq_true g3, decide_eq_true g4]
    simp only [Bool.and_true, Bool.not_eq_true', Bool.or_eq_false_iff]
    rcases k with _ | k
    · have hne := keyB_ne (mayOpB_key g1)
      show Op.bytesLess _ (ByteArray.mk #[]).toList = false ∧ (_ == (ByteArray.mk #[]).toList) = false
      rw [show (ByteArray.mk #[]).toList = [] by decide +kernel]
      refine ⟨less_nil _, ?_⟩
      cases hb : (l[0].f0.toList == []) with
      | false => rfl
      | true => exact absurd (by simpa using hb) hne
    · have hy : l[k]? = some l[k] := List.getElem?_eq_getElem (by omega)
      have hlt := List.pairwise_iff_getElem.1 hs k (k + 1) (by omega) (by omega) (by omega)
      show Op.bytesLess _ (rd_T46 l k).f0.toList = false ∧ (_ == (rd_T46 l k).f0.toList) = false
      rw [rd_getE hy]
      refine ⟨slt_false.2 (ltB_asymm hlt), ?_⟩
      cases hb : (l[k + 1].f0.toList == l[k].f0.toList) with
      | false => rfl
      | true => exact absurd (eqL_iff.1 hb).symm (ltB_ne hlt)
theorem of_ok {l : List En} {rev : Int} (h0 : 0 ≤ rev) (h1 : rev ≤ 1099511627776) (hs : l.Pairwise (fun a b => ltB a.f0 b.f0)) (hg : ∀ x ∈ l, GoodEn rev x) : ofOK l rev = true := by
  unfold ofOK
  rw [decide_eq_true h0, decide_eq_true h1, good_to hs hg _ (Nat.le_refl _)]
  rfl
theorem WF.list {X : Tre} (h : WF X) : (tlsM X.t).Pairwise (fun a b => ltB a.f0 b.f0) ∧ ∀ x ∈ tlsM X.t, GoodEn X.rev x := by
  unfold tlsM
  constructor
  · rw [List.pairwise_map]
    refine List.Pairwise.imp_of_mem (fun {a b} ha hb hab => ?_) h.srt
    show ltB a.2.key b.2.key
    rw [(h.good a ha).1, (h.good b hb).1]
    exact hab
  · intro x hx
    obtain ⟨y, hy, rfl⟩ := List.mem_map.1 hx
    obtain ⟨g1, g2, g3⟩ := h.good y hy
    refine ⟨?_, g3⟩
    show mayOpB false y.2.key y.2.val = true
    rw [g1]
    exact g2
theorem WF.find {X : Tre} (h : WF X) (k : ByteArray) : (∃ x ∈ tlsM X.t, x.f0 = k ∧ Shf.get k X.t = (entOfE x, true)) ∨ ((∀ x ∈ tlsM X.t, x.f0 ≠ k) ∧ Shf.get k X.t = (entZ0, false)) := by
  obtain ⟨g1, g2⟩ := Shf.get_mem (k := k) h.srt
  by_cases hx : ∃ e, (k, e) ∈ X.t.ord
  · obtain ⟨e, he⟩ := hx
    refine .inl ⟨enOf e, List.mem_map.2 ⟨(k, e), he, rfl⟩, (h.good _ he).1, ?_⟩
    rw [g1 e he]
    rfl
  · refine .inr ⟨fun x hm e => ?_, g2 (fun e he => hx ⟨e, he⟩)⟩
    obtain ⟨y, hy, rfl⟩ := List.mem_map.1 hm
    refine hx ⟨y.2, ?_⟩
    have : y.2.key = k := e
    rw [← this, (h.good _ hy).1]
    exact hy
theorem upd_same' (f : Fcts) (k : ByteArray) (v : Option Fct) : upd f k v k = v := if_pos rfl
theorem upd_ne' (f : Fcts) {k i : ByteArray} (v : Option Fct) (h : i ≠ k) : upd f k v i = f i := if_neg h
theorem addL_at {rev : Int} {k : ByteArray} : ∀ {l : List En} {f : Fcts}, (∀ v, f k = some v → (l.foldl (addL rev) f) k = some v) ∧
    (f k = none → ((∀ x ∈ l, x.f0 ≠ k) → (l.foldl (addL rev) f) k = none) ∧ (l.Pairwise (fun a b => ltB a.f0 b.f0) → ∀ x ∈ l, x.f0 = k → (l.foldl (addL rev) f) k = some ⟨rev, true, entOfE x⟩))
  | [], f => ⟨fun v h => h, fun h => ⟨fun _ => h, fun _ x hx => by cases hx⟩⟩
  | y :: l, f => by
    have ih := addL_at (rev := rev) (k := k) (l := l) (f := addL rev f y)
    by_cases hy : y.f0 = k
    · constructor
      · intro v hv
        rw [List.foldl_cons]
        refine ih.1 v ?_
        unfold addL
        rw [hy, hv]
        exact hv
      · intro hn
        have hk : (addL rev f y) k = some ⟨rev, true, entOfE y⟩ := by
          have hn' : f y.f0 = none := by rw [hy]; exact hn
          unfold addL
          rw [hn', if_neg (by decide), ← hy]
          exact upd_same' _ _ _
        refine ⟨fun h => absurd hy (h y List.mem_cons_self), fun hs x hx hxk => ?_⟩
        rw [List.foldl_cons, ih.1 _ hk]
        rcases List.mem_cons.1 hx with rfl | hx
        · rfl
        · have := (List.pairwise_cons.1 hs).1 x hx
          rw [hy, hxk] at this
          exact absurd this (ltB_irrefl _)
    · have hk : (addL rev f y) k = f k := by
        unfold addL
        split
        · rfl
        · exact upd_ne' _ _ (fun e => hy e.symm)
      rw [hk] at ih
      refine ⟨fun v hv => ?_, fun hn => ⟨fun h => ?_, fun hs x hx hxk => ?_⟩⟩
      · rw [List.foldl_cons]; exact ih.1 v hv
      · rw [List.foldl_cons]; exact (ih.2 hn).1 (fun x hx => h x (List.mem_cons_of_mem _ hx))
      · rw [List.foldl_cons]
        rcases List.mem_cons.1 hx with rfl | hx
        · exact absurd hxk hy
        · exact (ih.2 hn).2 (List.pairwise_cons.1 hs).2 x hx hxk
/-- What a told thing leaves: what is known is so; nothing falls. -/
structure Told1 (L : List Tre) (f : Fcts) (u : Int) (f' : Fcts) (u' : Int) : Prop where
  know : Know L f' u'
  up : u ≤ u'
  asr : ∀ k, asofM f u k ≤ asofM f' u' k
theorem asof_cases (f : Fcts) (u : Int) (k : ByteArray) : (f k = none ∧ asofM f u k = u) ∨ ∃ v, f k = some v ∧ asofM f u k = max v.asof u := by
  unfold asofM
  cases h : f k with
  | none => exact .inl ⟨rfl, rfl⟩
  | some v => exact .inr ⟨v, rfl, by dsimp only; split <;> omega⟩
theorem list_told {L : List Tre} {f : Fcts} {u : Int} {i : Nat} {Y : Tre} (hY : L[i]? = some Y) (hw : WF Y) (hr : Y.rev = i) (hm : (i : Int) ≤ 1099511627776) (hu : -1 ≤ u) (hK : Know L f u) :
    (listM f u i (tlsM Y.t)).2 = 0 ∧ Told1 L f u (listM f u i (tlsM Y.t)).1.1 (listM f u i (tlsM Y.t)).1.2 ∧ (i : Int) ≤ (listM f u i (tlsM Y.t)).1.2 ∧
    (u < i → (listM f u i (tlsM Y.t)).1.2 = i ∧ ∀ k, (∀ v, f k = some v → v.asof ≤ i) → asofM (listM f u i (tlsM Y.t)).1.1 i k = i) := by
  obtain ⟨hs, hg⟩ := hw.list
  rw [hr] at hg
  have hof := of_ok (by omega) hm hs hg
  unfold listM
  rw [if_pos hof]
  by_cases hc : (i : Int) ≤ u
  · rw [if_pos hc]
    exact ⟨rfl, ⟨hK, Int.le_refl _, fun k => Int.le_refl _⟩, hc, fun h => by omega⟩
  · rw [if_neg hc]
    dsimp only
    have key : ∀ k, (∃ v, f k = some v ∧ (i : Int) < v.asof ∧ ((tlsM Y.t).foldl (addL i) (dropM f i)) k = some v) ∨
        ((∀ v, f k = some v → v.asof ≤ (i : Int)) ∧ asofM ((tlsM Y.t).foldl (addL i) (dropM f i)) i k = i ∧ getM ((tlsM Y.t).foldl (addL i) (dropM f i)) k = Shf.get k Y.t) := fun k => by
      obtain ⟨a1, a2⟩ := addL_at (rev := (i : Int)) (k := k) (l := tlsM Y.t) (f := dropM f i)
      by_cases hd : ∃ v, f k = some v ∧ (i : Int) < v.asof
      · obtain ⟨v, h1, h2⟩ := hd
        refine .inl ⟨v, h1, h2, a1 v ?_⟩
        unfold dropM
        rw [h1]
        exact if_neg (by omega)
      · have hle : ∀ v, f k = some v → v.asof ≤ (i : Int) := fun v hv => by
          by_cases h : v.asof ≤ (i : Int)
          · exact h
          · exact absurd ⟨v, hv, by omega⟩ hd
        refine .inr ⟨hle, ?_⟩
        have hn : (dropM f i) k = none := by
          unfold dropM
          cases h : f k with
          | none => rfl
          | some v => exact if_pos (hle v h)
        obtain ⟨b1, b2⟩ := a2 hn
        rcases hw.find k with ⟨x, hx, hxk, hget⟩ | ⟨hno, hget⟩
        · have e := b2 hs x hx hxk
          constructor
          · unfold asofM; rw [e]; dsimp only; rw [if_neg (by omega)]
          · unfold getM; rw [e, hget]; rfl
        · have e := b1 hno
          constructor
          · unfold asofM; rw [e]
          · unfold getM; rw [e, hget]; rfl
    refine ⟨rfl, ⟨fun k => ?_, by omega, fun k => ?_⟩, by omega, fun _ => ⟨rfl, fun k hk => ?_⟩⟩
    · rcases key k with ⟨v, h1, h2, h3⟩ | ⟨h1, h2, h3⟩
      · have e1 : asofM ((tlsM Y.t).foldl (addL i) (dropM f i)) i k = asofM f u k := by
          unfold asofM; rw [h1, h3]; dsimp only; rw [if_neg (by omega), if_neg (by omega)]
        have e2 : getM ((tlsM Y.t).foldl (addL i) (dropM f i)) k = getM f k := get_congr (h3.trans h1.symm)
        rw [e1, e2]
        exact hK k
      · rw [h2, h3]
        exact ⟨fun h => by omega, fun _ => ⟨i, Y, rfl, hY, rfl⟩⟩
    · rcases key k with ⟨v, h1, h2, h3⟩ | ⟨h1, h2, h3⟩
      · have e1 : asofM ((tlsM Y.t).foldl (addL i) (dropM f i)) i k = asofM f u k := by
          unfold asofM; rw [h1, h3]; dsimp only; rw [if_neg (by omega), if_neg (by omega)]
        omega
      · rw [h2]
        rcases asof_cases f u k with ⟨_, e⟩ | ⟨v, e1, e2⟩
        · omega
        · have := h1 v e1; omega
    · rcases key k with ⟨v, h1, h2, h3⟩ | ⟨h1, h2, h3⟩
      · have := hk v h1; omega
      · exact h2
theorem evs_ok {rev : Int} : ∀ {l : List Evn} {last : Int}, (∀ x ∈ l, last ≤ x.f0 ∧ x.f0 ≤ rev ∧ evOK x) → l.Pairwise (fun a b => a.f0 ≤ b.f0) → evsB rev last l = true
  | [], _, _, _ => rfl
  | x :: l, last, h, hp => by
    obtain ⟨h1, h2, h3⟩ := h x List.mem_cons_self
    obtain ⟨p1, p2⟩ := List.pairwise_cons.1 hp
    show (evB last rev x && evsB rev x.f0 l) = true
    rw [evs_ok (fun y hy => ⟨p1 y hy, (h y (List.mem_cons_of_mem _ hy)).2⟩) p2, Bool.and_true]
    unfold evOK mayOpB at h3
    simp only [Bool.and_eq_true, decide_eq_true_iff] at h3
    obtain ⟨k1, k2, k3⟩ := h3
    unfold evB
    rw [k1, k3, decide_eq_false (by omega), decide_eq_false (by omega), decide_eq_false (by omega)]
    rfl
theorem since_is {X : Tre} {L : List Tre} {n : Nat} (hC : Crs X L n) {i d : Nat} {Y Z : Tre} (hY : L[i]? = some Y) (hZ : L[i + d]? = some Z) {evs : List Evn} (h1 : Z.hap = Y.hap ++ evs) (h2 : ∀ x ∈ evs, (i : Int) < x.f0) (h3 : ∀ x ∈ Y.hap, x.f0 ≤ (i : Int)) :
    sinceM Z (i + 1) = (evs, 0) := by
  obtain ⟨r1, r2, _⟩ := hC.at_ _ Z hZ
  unfold sinceM
  rw [if_neg (by rw [r1]; omega), if_neg (by rw [r2]; omega), h1, List.filter_append]
  have e1 : Y.hap.filter (fun x => decide ((i : Int) + 1 ≤ x.f0)) = [] := by
    rw [List.filter_eq_nil_iff]
    intro x hx
    have := h3 x hx
    simp only [decide_eq_true_iff]
    omega
  have e2 : evs.filter (fun x => decide ((i : Int) + 1 ≤ x.f0)) = evs := by
    rw [List.filter_eq_self]
    intro x hx
    have := h2 x hx
    simp only [decide_eq_true_iff]
    omega
  rw [e1, e2]
  rfl
/-- All that happened up to a tree is no later than it. -/
theorem hap_le {X : Tre} {L : List Tre} {n : Nat} (hC : Crs X L n) : ∀ (i : Nat) (Y : Tre), L[i]? = some Y → ∀ x ∈ Y.hap, x.f0 ≤ (i : Int)
  | 0, Y, h => by
    rw [hC.zero] at h
    cases h
    intro x hx
    cases hx
  | i + 1, Y, h => by
    have hlt : i < L.length := by
      rcases Nat.lt_or_ge i L.length with h1 | h1
      · exact h1
      · rw [List.getElem?_eq_none (by omega)] at h; cases h
    have hZ : L[i]? = some L[i] := List.getElem?_eq_getElem hlt
    obtain ⟨evs, e1, e2, _⟩ := (hC.next i _ _ hZ h).ev
    have hr := (hC.at_ _ _ hZ).1
    intro x hx
    rw [e1] at hx
    rcases List.mem_append.1 hx with hx | hx
    · have := hap_le hC i _ hZ x hx; omega
    · have := (e2 x hx).1; omega
theorem watch_told {X : Tre} {L : List Tre} {n : Nat} (hC : Crs X L n) (hn : L.length ≤ 1000000) {f : Fcts} {u : Int} {i d : Nat} {Y Z : Tre} (hY : L[i]? = some Y) (hZ : L[i + d]? = some Z) (hu : -1 ≤ u) (hK : Know L f u) :
    (sinceM Z (i + 1)).2 = 0 ∧ Told1 L f u (watchM f u (i + 1) (i + d : Nat) (sinceM Z (i + 1)).1).1.1 (watchM f u (i + 1) (i + d : Nat) (sinceM Z (i + 1)).1).1.2 ∧
    ((watchM f u (i + 1) (i + d : Nat) (sinceM Z (i + 1)).1).2 = 0 ∨ u < 0 ∨ u + 1 < (i : Int) + 1) ∧
    ((watchM f u (i + 1) (i + d : Nat) (sinceM Z (i + 1)).1).2 ≠ 0 → (watchM f u (i + 1) (i + d : Nat) (sinceM Z (i + 1)).1).1 = (f, u)) ∧
    ((watchM f u (i + 1) (i + d : Nat) (sinceM Z (i + 1)).1).2 = 0 → ((i + d : Nat) : Int) ≤ (watchM f u (i + 1) (i + d : Nat) (sinceM Z (i + 1)).1).1.2) ∧
    ((i : Int) = u → (∀ k, asofM f u k = u) → (watchM f u (i + 1) (i + d : Nat) (sinceM Z (i + 1)).1).2 = 0 ∧ (watchM f u (i + 1) (i + d : Nat) (sinceM Z (i + 1)).1).1.2 = ((i + d : Nat) : Int) ∧ ∀ k, asofM (watchM f u (i + 1) (i + d : Nat) (sinceM Z (i + 1)).1).1.1 ((i + d : Nat) : Int) k = ((i + d : Nat) : Int)) := by
  have hlt : i + d < L.length := by
    rcases Nat.lt_or_ge (i + d) L.length with h | h
    · exact h
    · rw [List.getElem?_eq_none (by omega)] at hZ; cases hZ
  have hle := hap_le hC i Y hY
  -- the events, whatever is known
  have hE : ∃ evs, Z.hap = Y.hap ++ evs ∧ (∀ x ∈ evs, (i : Int) < x.f0 ∧ x.f0 ≤ i + d ∧ evOK x) ∧ evs.Pairwise (fun a b => a.f0 ≤ b.f0) ∧ ((i : Int) ≤ u → ∀ k, asofM f u k ≤ asofM (evs.foldl (stepW u) f) u k ∧ (asofM (evs.foldl (stepW u) f) u k ≤ asofM f u k ∨ asofM (evs.foldl (stepW u) f) u k ≤ i + d) ∧
        ∃ (b : Nat) (W : Tre), (b : Int) = max (asofM f u k) (i + d) ∧ L[b]? = some W ∧ getM (evs.foldl (stepW u) f) k = Shf.get k W.t) := by
    by_cases hiu : (i : Int) ≤ u
    · obtain ⟨evs, e1, e2, e3, e4⟩ := span hC hY hiu hK d Z hZ
      exact ⟨evs, e1, e2, e3, fun _ => e4⟩
    · have hK0 : Know L (fun k => some ⟨i, (Shf.get k Y.t).2, (Shf.get k Y.t).1⟩) i := fun k => by
        have ha : asofM (fun k => some ⟨i, (Shf.get k Y.t).2, (Shf.get k Y.t).1⟩) i k = i := by unfold asofM; dsimp only; rw [if_neg (by omega)]
        rw [ha]
        exact ⟨fun h => by omega, fun _ => ⟨i, Y, rfl, hY, rfl⟩⟩
      obtain ⟨evs, e1, e2, e3, _⟩ := span hC hY (Int.le_refl _) hK0 d Z hZ
      exact ⟨evs, e1, e2, e3, fun h => absurd h hiu⟩
  obtain ⟨evs, e1, e2, e3, e4⟩ := hE
  have hS := since_is hC hY hZ e1 (fun x hx => (e2 x hx).1) hle
  rw [hS]
  dsimp only
  have hmay : cmayB ((i : Int) + 1) ((i + d : Nat) : Int) evs = true := by
    unfold cmayB
    rw [evs_ok (fun x hx => by have := e2 x hx; exact ⟨by omega, by omega, this.2.2⟩) e3, Bool.and_true, decide_eq_true_iff]
    omega
  unfold watchM
  rw [if_pos hmay]
  by_cases hc : u = -1 ∨ u + 1 < (i : Int) + 1
  · rw [if_pos hc]
    refine ⟨rfl, ⟨hK, Int.le_refl _, fun k => Int.le_refl _⟩, .inr (by omega), fun _ => rfl, fun h => (by cases h), fun h _ => (by omega)⟩
  · rw [if_neg hc]
    dsimp only
    have hiu : (i : Int) ≤ u := by omega
    have hg := e4 hiu
    have hmax : maxI u ((i + d : Nat) : Int) = max u ((i + d : Nat) : Int) := by unfold maxI; split <;> omega
    rw [hmax]
    have has : ∀ k, asofM (evs.foldl (stepW u) f) (max u ((i + d : Nat) : Int)) k = max (asofM f u k) ((i + d : Nat) : Int) := fun k => by
      obtain ⟨g1, g2, b, W, g3, g4, g5⟩ := hg k
      generalize evs.foldl (stepW u) f = f1 at g1 g2 ⊢
      have hge := asof_ge f u k
      rcases asof_cases f1 u k with ⟨c1, c2⟩ | ⟨v, c1, c2⟩ <;> rcases asof_cases f1 (max u ((i + d : Nat) : Int)) k with ⟨c3, c4⟩ | ⟨v', c3, c4⟩
      · omega
      · rw [c1] at c3; cases c3
      · rw [c1] at c3; cases c3
      · rw [c1] at c3; cases c3; omega
    refine ⟨rfl, ⟨fun k => ?_, by omega, fun k => by rw [has]; omega⟩, .inl rfl, fun h => absurd rfl h, fun _ => by omega, fun h1 h2 => ⟨rfl, by omega, fun k => ?_⟩⟩
    · rw [has k]
      obtain ⟨g1, g2, b, W, g3, g4, g5⟩ := hg k
      have hge := asof_ge f u k
      exact ⟨fun h => by omega, fun _ => ⟨b, W, by omega, g4, g5⟩⟩
    · have := has k
      rw [h2 k] at this
      rw [show max u ((i + d : Nat) : Int) = ((i + d : Nat) : Int) by omega] at this
      exact this
end Go.Proofs.Ytagkobpbhfkmdaa.C
/-! from PF -/
namespace Go.Proofs.Ytagkobpbhfkmdaa.C
open Go.RowKit Go.Proofs.Ytagkobpbhfkmdaa.Q
set_option linter.unusedVariables false
set_option linter.unusedSimpArgs false
abbrev Tale' := S71
def FB (f : Fcts) (n : Nat) : Prop := ∃ L : List ByteArray, (∀ k v, f k = some v → k ∈ L) ∧ L.length ≤ n ∧ ∀ k ∈ L, k.size ≤ 9000000000000000000
theorem FB.bnd {f : Fcts} {n : Nat} (h : FB f n) : FBnd f n := by
  obtain ⟨L, h1, h2, h3⟩ := h
  exact ⟨L, h2, h1, h3⟩
theorem FB.none : FB (fun _ => none) 0 := ⟨[], fun k v h => (by cases h), Nat.le_refl _, fun k hk => (by cases hk)⟩
theorem FB.upd {f : Fcts} {n : Nat} (h : FB f n) {k : ByteArray} (v : Option Fct) (hk : k.size ≤ 9000000000000000000) : FB (upd f k v) (n + 1) := by
  obtain ⟨L, h1, h2, h3⟩ := h
  refine ⟨k :: L, fun i w hi => ?_, by simp; omega, fun i hi => ?_⟩
  · by_cases e : i = k
    · rw [e]; exact List.mem_cons_self
    · rw [upd_ne' _ _ e] at hi
      exact List.mem_cons_of_mem _ (h1 i w hi)
  · rcases List.mem_cons.1 hi with rfl | hi
    · exact hk
    · exact h3 i hi
theorem FB.mono {f : Fcts} {n m : Nat} (h : FB f n) (hm : n ≤ m) : FB f m := by
  obtain ⟨L, h1, h2, h3⟩ := h
  exact ⟨L, h1, Nat.le_trans h2 hm, h3⟩
theorem FB.sub {f g : Fcts} {n : Nat} (h : FB f n) (hg : ∀ k v, g k = some v → ∃ v', f k = some v') : FB g n := by
  obtain ⟨L, h1, h2, h3⟩ := h
  exact ⟨L, fun k v hk => by obtain ⟨v', h⟩ := hg k v hk; exact h1 k v' h, h2, h3⟩
theorem FB.fold {α : Type} (g : Fcts → α → Fcts) (key : α → ByteArray) (hg : ∀ f x k, k ≠ key x → (g f x) k = f k) : ∀ (l : List α) {f : Fcts} {n : Nat}, FB f n → (∀ x ∈ l, (key x).size ≤ 9000000000000000000) → FB (l.foldl g f) (n + l.length)
  | [], _, _, h, _ => h
  | x :: l, f, n, h, hs => by
    rw [List.foldl_cons, List.length_cons, show n + (l.length + 1) = n + 1 + l.length by omega]
    refine FB.fold g key hg l ?_ (fun y hy => hs y (List.mem_cons_of_mem _ hy))
    have := h.upd (k := key x) ((g f x) (key x)) (hs x List.mem_cons_self)
    refine this.sub (fun k v hk => ?_)
    by_cases e : k = key x
    · rw [e] at hk ⊢
      exact ⟨v, by rw [upd_same']; exact hk⟩
    · rw [hg f x k e] at hk
      exact ⟨v, by rw [upd_ne' _ _ e]; exact hk⟩
theorem keyB_size {s : ByteArray} (h : keyB s = true) : s.size ≤ 64 := by
  unfold keyB allK at h
  simp only [Bool.and_eq_true, decide_eq_true_iff] at h
  omega
theorem ents_eq {f : Fcts} {Y : Tre} (hw : WF Y) (hg : ∀ k, getM f k = Shf.get k Y.t) {ks : List ByteArray} (hk : SKeys f ks) : entsM f (ByteArray.mk #[]) ks = tlsM Y.t := by
  have hm : ∀ x ∈ Y.t.ord, getM f x.1 = (x.2, true) := fun x hx => by
    rw [hg]
    exact (Shf.get_mem hw.srt).1 x.2 hx
  have hA : ks.filter (pickB f (ByteArray.mk #[])) = Y.t.ord.map (·.1) := by
    refine rising_eq (List.Pairwise.filter _ hk.1) (by rw [List.pairwise_map]; exact hw.srt) (fun k => ?_)
    rw [List.mem_filter, List.mem_map]
    constructor
    · rintro ⟨h1, h2⟩
      have h3 : (getM f k).2 = true := by
        unfold pickB at h2
        rw [Bool.and_eq_true] at h2
        exact h2.1
      rw [hg] at h3
      exact ⟨(k, _), hw.get k h3, rfl⟩
    · rintro ⟨x, hx, rfl⟩
      have h1 := hm x hx
      have h2 : ((f x.1).getD fctZ).there = true := by
        have : (getM f x.1).2 = true := by rw [h1]
        exact this
      constructor
      · rw [hk.2]
        cases hf : f x.1 with
        | none => rw [hf] at h2; cases h2
        | some v => rfl
      · unfold pickB
        rw [h2, begins_nil]
        rfl
  unfold entsM tlsM
  rw [hA, List.map_map]
  refine List.map_congr_left (fun x hx => ?_)
  have h1 := hm x hx
  have : ((f x.1).getD fctZ).x = x.2 := by
    have : (getM f x.1).1 = x.2 := by rw [h1]
    exact this
  show enOf ((f x.1).getD fctZ).x = enOf x.2
  rw [this]
end Go.Proofs.Ytagkobpbhfkmdaa.C
/-! from COU -/
namespace Go.Proofs.Ytagkobpbhfkmdaa.C
open Go.RowKit Go.Proofs.Ytagkobpbhfkmdaa.Q Go.Proofs.YtagkobpbhfkmdaaW.PrintLast Go.Proofs.YtagkobpbhfkmdaaW.PrintWords
set_option linter.unusedVariables false
set_option linter.unusedSimpArgs false
def ptrV (T : Nat) : Value := .pointer (some ⟨T, 0, none⟩)
def kTP : Kd Nat := Kd.scalar ptrV (fun _ => rfl)
theorem ptr_infoH : (Try.prog.info? 62).map (fun i => (i.zero, i.size, i.bytes)) = some (some (.pointer none), 1, 8) := by kernel_rfl
theorem rd_getT {l : List Txn'} {k : Nat} {x : Txn'} (h : l[k]? = some x) : rd_T101 l (k : Int) = x := by
  unfold rd_T101
  rw [List.getD_eq_getElem?_getD, Int.toNat_natCast, h]
  rfl
theorem cell_lt' {w : World} {p : Addr} {v : Value} (h : w.cell? p = some v) : p.block < w.heap.size := by
  refine Classical.byContradiction fun hn => ?_
  unfold World.cell? at h
  rw [Array.getElem?_eq_none (by omega)] at h
  simp at h
/-- Copies of a tree, apart from F. -/
def TSx (w : World) (F : Nat → Prop) (Bz : Nat) (Ts : List Nat) (L : List Tre) : Prop :=
  Ts.length = L.length ∧ ∀ (i T' : Nat) (Y : Tre), Ts[i]? = some T' → L[i]? = some Y → ¬ F T' ∧ Bz ≤ T' ∧ ∃ A c, TRx w T' Y A c ∧ ∀ ad, A = some ad → ¬ F ad.block
theorem TSx.below {w w' : World} {F : Nat → Prop} {Bz : Nat} {Ts : List Nat} {L : List Tre} (h : TSx w F Bz Ts L) (hb : Below w.heap.size w w') : TSx w' F Bz Ts L :=
  ⟨h.1, fun i T' Y h1 h2 => by obtain ⟨a1, a2, A, c, a3, a4⟩ := h.2 i T' Y h1 h2; exact ⟨a1, a2, A, c, a3.below hb, a4⟩⟩
theorem TSx.fr {w w' : World} {F : Nat → Prop} {Bz : Nat} {Ts : List Nat} {L : List Tre} (h : TSx w F Bz Ts L) (hf : Fr F w w') (hS : ∀ k cs t, F k → w.heap[k]? = some (.cells cs t (0, 0)) → t ≠ 153) : TSx w' F Bz Ts L :=
  ⟨h.1, fun i T' Y h1 h2 => by
    obtain ⟨a1, a2, A, c, a3, a4⟩ := h.2 i T' Y h1 h2
    exact ⟨a1, a2, A, c, a3.fr hf a1 hS a4, a4⟩⟩
theorem TRx.alt {w : World} {T : Nat} {X : Tre} {A : Option Addr} {c : Nat} (h : TRx w T X A c) : T < w.heap.size ∧ ∀ ad, A = some ad → ad.block < w.heap.size ∧ ad.block ≠ T := by
  obtain ⟨v, m, h1, _, _, _, h5⟩ := h
  exact ⟨lt_of_block h1, h5⟩
theorem TSx.mono {w : World} {F G : Nat → Prop} {Bz : Nat} {Ts : List Nat} {L : List Tre} (h : TSx w F Bz Ts L) (hG : ∀ k, k < w.heap.size → G k → F k) : TSx w G Bz Ts L :=
  ⟨h.1, fun i T' Y h1 h2 => by
    obtain ⟨a1, a2, A, c, a3, a4⟩ := h.2 i T' Y h1 h2
    exact ⟨fun g => a1 (hG _ a3.alt.1 g), a2, A, c, a3, fun ad e g => a4 ad e (hG _ (a3.alt.2 ad e).1 g)⟩⟩
theorem TSx.snoc {w : World} {F : Nat → Prop} {Bz T' : Nat} {Ts : List Nat} {L : List Tre} {X : Tre} {A : Option Addr} {c : Nat} (h : TSx w F Bz Ts L) (hT : TRx w T' X A c) (hne : ¬ F T') (hB : Bz ≤ T') (hA : ∀ ad, A = some ad → ¬ F ad.block) : TSx w F Bz (Ts ++ [T']) (L ++ [X]) :=
  ⟨by simp [h.1], fun i T2 Y h1 h2 => by
    by_cases hi : i < Ts.length
    · rw [List.getElem?_append_left hi] at h1
      rw [List.getElem?_append_left (by rw [← h.1]; exact hi)] at h2
      exact h.2 i T2 Y h1 h2
    · rw [List.getElem?_append_right (by omega)] at h1
      rw [List.getElem?_append_right (by rw [← h.1]; omega)] at h2
      have hz : i - Ts.length = 0 := by
        rcases Nat.eq_zero_or_pos (i - Ts.length) with hz | hz
        · exact hz
        · rw [List.getElem?_eq_none (by simp; omega)] at h1; cases h1
      rw [hz] at h1
      rw [← h.1, hz] at h2
      cases h1
      cases h2
      exact ⟨hne, hB, A, c, hT, hA⟩⟩
structure CI (Bz : Nat) (w0 w : World) (T : Nat) (X : Tre) (A : Option Addr) (c : Nat) (L : List Tre) (Ts : List Nat) (V : Value) : Prop where
  t : TRx w T X A c
  na : ∀ ad, A = some ad → some ad.block ≠ V.ownBlock
  ts : TSx w (fun k => k = T ∨ some k = V.ownBlock) Bz Ts L
  row : kTP.R 62 w Bz (fun _ => True) V Ts
  bel : Below Bz w0 w
  size : Bz ≤ w.heap.size
  bt : Bz ≤ T
theorem CI.ne {Bz T c : Nat} {w0 w : World} {X : Tre} {A : Option Addr} {L : List Tre} {Ts : List Nat} {V : Value} (h : CI Bz w0 w T X A c L Ts V) : some T ≠ V.ownBlock := by
  obtain ⟨v, m, b1, _⟩ := h.t
  exact Kd.R_ne h.row b1 (by decide)
theorem CI.types {Bz T c : Nat} {w0 w : World} {X : Tre} {A : Option Addr} {L : List Tre} {Ts : List Nat} {V : Value} (h : CI Bz w0 w T X A c L Ts V) (k : Nat) (cs : Array Value) (t : TypeId) (hk : k = T ∨ some k = V.ownBlock) (ht : w.heap[k]? = some (.cells cs t (0, 0))) : t ≠ 153 := by
  rcases hk with rfl | hk
  · obtain ⟨v, m, b1, _⟩ := h.t
    rw [b1] at ht
    cases ht
    decide
  · obtain ⟨cs', h1⟩ := Kd.R_typed h.row k hk.symm
    rw [h1] at ht
    cases ht
    decide
theorem CI.below {Bz T c : Nat} {w0 w w' : World} {X : Tre} {A : Option Addr} {L : List Tre} {Ts : List Nat} {V : Value} (h : CI Bz w0 w T X A c L Ts V) (hb : Below w.heap.size w w') : CI Bz w0 w' T X A c L Ts V :=
  ⟨h.t.below hb, h.na, h.ts.below hb, Kd.R_below h.row hb, h.bel.trans (hb.mono h.size), Nat.le_trans h.size hb.size, h.bt⟩
theorem CI.do {Bz T c : Nat} {w0 w w' : World} {X X' : Tre} {A A' : Option Addr} {c' : Nat} {L : List Tre} {Ts : List Nat} {V : Value} (h : CI Bz w0 w T X A c L Ts V) (ht : TRx w' T X' A' c') (hA : A' = A ∨ ∀ ad, A' = some ad → w.heap.size ≤ ad.block) (hf : Fr (fun k => k = T) w w') : CI Bz w0 w' T X' A' c' L Ts V :=
  ⟨ht, by
    rcases hA with rfl | hA
    · exact h.na
    · intro ad e hk
      have := Kd.R_lt h.row ad.block hk.symm
      have := hA ad e
      omega, h.ts.fr (hf.mono (fun _ e => .inl e)) h.types, Kd.R_reok rfl (Kd.R_step (Kd.R_tight rfl h.row) (fun k hk hlt => hf.block k hlt (fun e => h.ne (by rw [← e]; exact hk)))) (fun _ _ => trivial), h.bel.trans (hf.below h.size (fun k hk => by have := h.bt; omega)), Nat.le_trans h.size hf.size, h.bt⟩
theorem CI.app {Bz T c T5 : Nat} {w0 w w' : World} {X : Tre} {A : Option Addr} {L : List Tre} {Ts : List Nat} {V V1 : Value} (h : CI Bz w0 w T X A c L Ts V) (ht : TRx w T5 X A c) (hT : T5 ≠ T) (hB : Bz ≤ T5) (hg : w.grownBy w' V.ownBlock) (hr : kTP.R 62 w' Bz (fun _ => True) V1 (Ts ++ [T5])) (hv : V1.ownBlock = V.ownBlock ∨ ∃ b, V1.ownBlock = some b ∧ w.heap.size ≤ b) : CI Bz w0 w' T X A c (L ++ [X]) (Ts ++ [T5]) V1 := by
  have hf : Fr (fun k => some k = V.ownBlock) w w' := Fr.of_grown hg (fun k e => e.symm)
  have hne5 : some T5 ≠ V.ownBlock := by
    obtain ⟨v, m, b1, _⟩ := ht
    exact Kd.R_ne h.row b1 (by decide)
  have hF : ∀ k, k < w.heap.size → (k = T ∨ some k = V1.ownBlock) → (k = T ∨ some k = V.ownBlock) := fun k hk e => by
    rcases e with e | e
    · exact .inl e
    · rcases hv with hv | ⟨b, hv, hb⟩
      · exact .inr (by rw [← hv]; exact e)
      · rw [hv] at e; cases e; omega
  have hS : ∀ k cs t, some k = V.ownBlock → w.heap[k]? = some (.cells cs t (0, 0)) → t ≠ 153 := fun k cs t hk => h.types k cs t (.inr hk)
  refine ⟨h.t.fr hf h.ne hS h.na, ?_, ?_, hr, h.bel.trans (hf.below h.size (fun k hk => Kd.R_base h.row k hk.symm)), Nat.le_trans h.size hf.size, h.bt⟩
  · intro ad e hk
    rcases hv with hv | ⟨b, hv, hb⟩
    · rw [hv] at hk; exact h.na ad e hk
    · rw [hv] at hk; cases hk
      have := (h.t.alt.2 ad e).1
      omega
  · have h1 : TSx w (fun k => k = T ∨ some k = V.ownBlock) Bz (Ts ++ [T5]) (L ++ [X]) := h.ts.snoc ht (fun e => by rcases e with e | e; exact hT e; exact hne5 e) hB (fun ad e hk => by
      rcases hk with hk | hk
      · exact (h.t.alt.2 ad e).2 hk
      · exact h.na ad e hk)
    have h2 := h1.mono hF
    refine ⟨h2.1, fun i T' Y a b => ?_⟩
    obtain ⟨a1, a2, A2, c2, a3, a4⟩ := h1.2 i T' Y a b
    obtain ⟨b1, _, _⟩ := h2.2 i T' Y a b
    refine ⟨b1, a2, A2, c2, a3.fr hf (fun e => a1 (.inr e)) hS (fun ad e hk => a4 ad e (.inr hk)), fun ad e hk => ?_⟩
    exact a4 ad e (hF _ (a3.alt.2 ad e).1 hk)
theorem courseM_take {l : List Txn'} {k : Nat} {x : Txn'} (h : l[k]? = some x) : courseM (l.take (k + 1)) = stepC (courseM (l.take k)) x := by
  unfold courseM
  rw [List.take_add_one, h, List.foldl_append]
  rfl
theorem courseM_crs (l : List Txn') : ∀ k, k ≤ l.length → Crs (courseM (l.take k)).1 (courseM (l.take k)).2 k
  | 0, _ => Crs.start
  | k + 1, h => by
    have h1 : l[k]? = some l[k] := List.getElem?_eq_getElem (by omega)
    rw [courseM_take h1]
    exact (courseM_crs l k (by omega)).step _
set_option maxHeartbeats 8000000 in
set_option maxRecDepth 100000 in
theorem course_calls (A : Option Addr) (c : Nat) (l : List Txn') (w : World) (g : Kd.C k101 w A l.length l) (hlc : l.length ≤ c) (hl : l.length ≤ 40) (hx : ∀ x ∈ l, x.f0.length ≤ 20 ∧ x.f1.length ≤ 20 ∧ (∀ c ∈ x.f0, c.f0.size ≤ 9000000000000000000) ∧ ∀ o ∈ x.f1, o.f1.size ≤ 9000000000000000000) :
    Calls Try.prog 23 #[.slice A l.length c] w fun e w' => ∃ A' c' Ts, e = .returned (.slice A' (courseM l).2.length c') ∧ Ts.length = (courseM l).2.length ∧ (courseM l).2.length ≤ c' ∧ kTP.C w' A' (courseM l).2.length Ts ∧ (∀ (i T : Nat) (Y : Tre), Ts[i]? = some T → (courseM l).2[i]? = some Y → TR w' T Y) ∧ Below w.heap.size w w' := by
  obtain ⟨n, hn⟩ : ∃ n, l.length = n := ⟨_, rfl⟩
  have HG := Aside.mk (And.intro g (And.intro hn hx))
  rw [hn] at hlc hl ⊢
  clear g hn hx
  obtain ⟨Bz, hBz⟩ : ∃ b, w.heap.size = b := ⟨_, rfl⟩
  have HBZ := Aside.mk hBz
  rw [hBz]
  clear hBz
  go_enter Try.func23, Try.ntmps23
  go_wp2_with fail
  refine (tnew_calls w).mono ?_
  rintro e w1 ⟨T, rfl, ⟨A1, c1, ht1⟩, hT1, hb1⟩
  have H1 := Aside.mk (And.intro ht1 (And.intro hT1 hb1))
  clear ht1 hT1 hb1
  go_wp2_with fail
  refine (tcopyx_calls T treZ A1 c1 w1 H1.out.1).mono ?_
  rintro e w2 ⟨T2, rfl, ht2, hT2, hb2⟩
  have HTL := Aside.mk (TR.lt ⟨A1, c1, H1.out.1⟩)
  have HA1 : Aside (∀ ad, A1 = some ad → ad.block ≠ T) := ⟨by obtain ⟨v, m, _, _, _, _, h5⟩ := H1.out.1; exact fun ad e => (h5 ad e).2⟩
  have hN := heap_alloc_new w2 (Obj.cells #[Value.pointer (some ⟨T2, 0, none⟩)] 62 (0, 0))
  have hbz1 : Bz ≤ w1.heap.size := by rw [← HBZ.out]; exact H1.out.2.2.size
  have hbz2 : Bz ≤ w2.heap.size := Nat.le_trans hbz1 hb2.size
  have hown : (w2.alloc (Obj.cells #[Value.pointer (some ⟨T2, 0, none⟩)] 62 (0, 0))).ownsRow Bz 62 1 (.slice (some ⟨w2.heap.size, 0, none⟩) 1 1) 1 [.pointer (some ⟨T2, 0, none⟩)] := World.ownsRow_lit (base := Bz) (e := 62) (size := 1) w2 #[.pointer (some ⟨T2, 0, none⟩)] 1 hbz2 (by decide) (by simp)
  have hbl := (Below.refl w2.heap.size w2).alloc (Nat.le_refl _) (Obj.cells #[Value.pointer (some ⟨T2, 0, none⟩)] 62 (0, 0))
  have H3 : Aside (CI Bz w (w2.alloc (Obj.cells #[Value.pointer (some ⟨T2, 0, none⟩)] 62 (0, 0))) T treZ A1 c1 [treZ] [T2] (.slice (some ⟨w2.heap.size, 0, none⟩) 1 1)) := ⟨by
    have hlt := HTL.out
    have ha := H1.out.1.alt
    have hs := hb2.size
    refine ⟨(H1.out.1.below hb2).below hbl, fun ad e hk => ?_, ?_, Kd.R_of_own (enc := ptrV) (xs := [T2]) hown (fun _ _ => trivial), ?_, Nat.le_trans hbz2 hbl.size, by rw [← HBZ.out]; exact H1.out.2.1⟩
    · have := (ha.2 ad e).1
      have e2 : ad.block = w2.heap.size := by simpa [Value.ownBlock] using hk
      omega
    · refine TSx.below (w := w2) ?_ hbl
      have h0 : TSx w2 (fun k => k = T ∨ some k = (Value.slice (some ⟨w2.heap.size, 0, none⟩) 1 1).ownBlock) Bz [] [] := ⟨rfl, fun i T' Y h => by simp at h⟩
      have h2 := (TR.lt ⟨A1, c1, ht2⟩)
      refine h0.snoc ht2 (fun e => ?_) (by omega) (fun ad e hk => ?_)
      · rcases e with e | e
        · omega
        · have e2 : T2 = w2.heap.size := by simpa [Value.ownBlock] using e
          omega
      · have h3 := (ha.2 ad e).1
        rcases hk with hk | hk
        · exact (ha.2 ad e).2 hk
        · have e2 : ad.block = w2.heap.size := by simpa [Value.ownBlock] using hk
          omega
    · have h1 := H1.out.2.2
      rw [HBZ.out] at h1
      exact (h1.trans (hb2.mono hbz1)).trans (hbl.mono hbz2)⟩
  clear ht2 hT2 hb2 HA1 hN hbz1 hbz2 hown hbl HTL
  go_wp2_with fail
  generalize w2.alloc (Obj.cells #[Value.pointer (some ⟨T2, 0, none⟩)] 62 (0, 0)) = w3 at *
  clear H1
  go_loopw [4, 5] (fun v4 v5 wr => ∃ k : Nat, k ≤ n ∧ v5 = .int .i64 k ∧ Aside (∃ A c Ts, CI Bz w wr T (courseM (l.take k)).1 A c (courseM (l.take k)).2 Ts v4)) (fun _ v5 _ => n - (intOf v5).toNat)
  case atStart => exact ⟨0, by omega, rfl, ⟨A1, c1, [T2], H3.out⟩⟩
  case round =>
    obtain ⟨k, hk, rfl, HI⟩ := hrel
    have hcr := courseM_crs l k (by rw [HG.out.2.1]; exact hk)
    by_cases hkn : k < n
    · obtain ⟨x, hx⟩ : ∃ x, l[k]? = some x := ⟨_, List.getElem?_eq_getElem (by rw [HG.out.2.1]; exact hkn)⟩
      have hst := courseM_take hx
      obtain ⟨P, hP⟩ : ∃ P, courseM (l.take k) = P := ⟨_, rfl⟩
      have HI2 := HI.out
      rw [hP] at hst HI2 hcr
      obtain ⟨X, L⟩ := P
      dsimp only at HI2 hcr
      obtain ⟨A2, c2, Ts, hci⟩ := HI2
      have hB' : Below w.heap.size w wr := by rw [HBZ.out]; exact hci.bel
      obtain ⟨ad, B0, d0, B1, d1, he, q0, q1, l0, g0, l1, g1⟩ := at_T101 (Kd.C_below HG.out.1 hB') (k : Int) (by omega) (by rw [HG.out.2.1]; omega)
      rw [rd_getT hx] at q0 q1 l0 g0 l1 g1
      simp only [Int.toNat_natCast] at q0 q1
      obtain ⟨e0, e1, e2, e3⟩ := HG.out.2.2 x (List.mem_of_getElem? hx)
      obtain ⟨r1, r2, r3, r4, r5⟩ := hcr.at_ _ X hcr.last
      have hcl := hcr.len
      have hpos := hcr.pos
      have hdo := do_calls T X x B0 B1 d0 d1 wr A2 c2 hci.t r3.ok (by omega) (by omega) (by rw [r1]; omega) g0 g1 l0 l1 (by omega) (by omega) e2 e3 (fun hp ad' e => by
        obtain ⟨ad2, B0', d0', B1', d1', he', q0', q1', l0', g0', l1', g1'⟩ := at_T101 HG.out.1 (k : Int) (by omega) (by rw [HG.out.2.1]; omega)
        rw [rd_getT hx] at q0' q1' l0' g0' l1' g1'
        simp only [Int.toNat_natCast] at q0' q1'
        rw [he] at he'
        cases he'
        have hq := (hB'.cell (p := ⟨(ad.add (k * 2)).block, (ad.add (k * 2)).off + 1, none⟩) (cell_lt' q1')).trans q1'
        rw [q1] at hq
        cases hq
        subst e
        obtain ⟨ad3, he3, z1, _⟩ := at_T117 g1' 0 (by omega) (by omega)
        cases he3
        have := cell_lt' z1
        have h5 := hci.bt
        have h6 := HBZ.out
        show ad'.block ≠ T
        have h7 : (ad'.add ((0 : Int).toNat * 3)).block = ad'.block := rfl
        omega)
      have hstep : stepC (X, L) x = ((doM X x).1, if (doM X x).2.2 = 0 ∧ (doM X x).2.1 = true ∧ (doM X x).1.rev = L.length then L ++ [(doM X x).1] else L) := rfl
      rw [hstep] at hst
      obtain ⟨D, hD⟩ : ∃ D, doM X x = D := ⟨_, rfl⟩
      rw [hD] at hdo hst
      obtain ⟨X', dn, er⟩ := D
      dsimp only at hdo hst
      obtain ⟨n0, hn0⟩ : ∃ m, x.f0.length = m := ⟨_, rfl⟩
      obtain ⟨n1, hn1⟩ : ∃ m, x.f1.length = m := ⟨_, rfl⟩
      rw [hn0] at q0 hdo
      rw [hn1] at q1 hdo
      have HS := Aside.mk hst
      have HCI := Aside.mk hci
      have HLL : Aside (L.length ≤ 41) := ⟨by omega⟩
      subst he
      clear hci hB' g0 g1 l0 l1 e0 e1 e2 e3 r1 r2 r3 r4 r5 hcl hpos hst hstep hD hn0 hn1 hx hP HI hcr
      go_wp2_with fail
      refine hdo.mono ?_
      rintro e w4 ⟨⟨V, rfl⟩, ⟨A4, c4, ht4, hA4⟩, hf4⟩
      have H4 := Aside.mk (HCI.out.do ht4 hA4 hf4)
      clear ht4 hA4 hf4 HCI hdo q0 q1
      obtain ⟨A5, c5, hv4⟩ := Kd.R_slice H4.out.row
      have hTl : Ts.length = L.length := H4.out.ts.1
      rw [hTl] at hv4
      subst hv4
      have HTL := Aside.mk hTl
      clear hTl
      by_cases hc : er = 0 ∧ dn = true ∧ X'.rev = L.length
      · obtain ⟨rfl, rfl, hrv⟩ := hc
        have hst : courseM (l.take (k + 1)) = (X', L ++ [X']) := by rw [HS.out, if_pos ⟨rfl, rfl, hrv⟩]
        have HS2 := Aside.mk hst
        clear hst HS
        go_wp2_with fail
        refine (trev_calls T X' w4 ⟨A4, c4, H4.out.t⟩).mono ?_
        rintro e w5 ⟨rfl, rfl⟩
        rw [hrv]
        clear hrv
        go_wp2_with fail
        refine (tcopyx_calls T X' A4 c4 w4 H4.out.t).mono ?_
        rintro e w5 ⟨T5, rfl, ht5, hT5, hb5⟩
        have hTl4 := H4.out.t.alt.1
        have H5 := Aside.mk (And.intro (H4.out.below hb5) (And.intro ht5 (And.intro (show T5 ≠ T by omega) (Nat.le_trans H4.out.size hT5))))
        clear ht5 hT5 hb5 hTl4 H4
        go_wp2_with (at_builtin; refine Kd.R_append kTP Bz rfl _ _ 59 62 (.pointer none) 8 rfl Try.underlying59 ptr_infoH rfl (by decide) (by decide) (.slice A5 L.length c5) Ts T5 [.pointer (some ⟨T5, 0, none⟩)] (fun _ => True) (fun _ => False) rfl rfl rfl (fun _ h => h.elim) (fun _ _ => trivial) H5.out.1.row (Below.refl Bz _) H5.out.1.size (by have := HLL.out; have := HTL.out; omega) ?_; rintro V1 W2 hr2 hb2 hg2 hv2)
        have H6 := Aside.mk (H5.out.1.app H5.out.2.1 H5.out.2.2.1 H5.out.2.2.2 hg2 hr2 hv2)
        clear hr2 hb2 hg2 hv2 H5
        go_wp2_with fail
        go_roundw
        case rel => exact ⟨k + 1, by omega, by go_num, ⟨A4, c4, _, by rw [HS2.out]; exact H6.out⟩⟩
        case measure => simp [intOf]; omega
      · have hst : courseM (l.take (k + 1)) = (X', L) := by rw [HS.out, if_neg hc]
        have HS2 := Aside.mk hst
        clear hst HS
        by_cases h1 : er = 0
        · subst h1
          cases dn with
          | false =>
            go_wp2_with fail
            go_roundw
            case rel => exact ⟨k + 1, by omega, by go_num, ⟨A4, c4, _, by rw [HS2.out]; exact H4.out⟩⟩
            case measure => simp [intOf]; omega
          | true =>
            have hrv : ¬ X'.rev = L.length := fun e => hc ⟨rfl, rfl, e⟩
            clear hc
            go_wp2_with fail
            refine (trev_calls T X' w4 ⟨A4, c4, H4.out.t⟩).mono ?_
            rintro e w5 ⟨rfl, rfl⟩
            go_wp2_with fail
            go_roundw
            case rel => exact ⟨k + 1, by omega, by go_num, ⟨A4, c4, _, by rw [HS2.out]; exact H4.out⟩⟩
            case measure => simp [intOf]; omega
        · have h1b : (er == 0) = false := beq_false_of_ne h1
          clear hc
          go_wp2_with fail
          go_roundw
          case rel => exact ⟨k + 1, by omega, by go_num, ⟨A4, c4, _, by rw [HS2.out]; exact H4.out⟩⟩
          case measure => simp [intOf]; omega
    · obtain rfl : n = k := by omega
      have htk : l.take n = l := List.take_of_length_le (by rw [HG.out.2.1]; exact Nat.le_refl _)
      have HI2 := HI.out
      rw [htk] at HI2
      have HI := Aside.mk HI2
      clear htk HI2 hcr
      go_wp2_with fail
      go_ret
      obtain ⟨A2, c2, Ts, hci⟩ := HI.out
      obtain ⟨A3, c3, hv, hc3, hC3⟩ := Kd.R_reads hci.row
      have hl := hci.ts.1
      rw [hl] at hv hc3 hC3
      subst hv
      exact ⟨A3, c3, Ts, rfl, hl, hc3, hC3, fun i T' Y h1 h2 => by obtain ⟨_, _, A, c, h, _⟩ := hci.ts.2 i T' Y h1 h2; exact ⟨A, c, h⟩, hci.bel⟩
end Go.Proofs.Ytagkobpbhfkmdaa.C
/-! from ALL -/
namespace Go.Proofs.Ytagkobpbhfkmdaa.C
open Go.RowKit Go.Proofs.Ytagkobpbhfkmdaa.Q Go.Proofs.YtagkobpbhfkmdaaW.PrintLast Go.Proofs.YtagkobpbhfkmdaaW.PrintWords
set_option linter.unusedVariables false
set_option linter.unusedSimpArgs false
theorem rd_getTl {l : List Tale'} {k : Nat} {x : Tale'} (h : l[k]? = some x) : rd_T71 l (k : Int) = x := by
  unfold rd_T71
  rw [List.getD_eq_getElem?_getD, Int.toNat_natCast, h]
  rfl
end Go.Proofs.Ytagkobpbhfkmdaa.C
/-! from SAY -/
namespace Go.Proofs.Ytagkobpbhfkmdaa.C
open Go.RowKit Go.Proofs.Ytagkobpbhfkmdaa.Q Go.Proofs.YtagkobpbhfkmdaaW.PrintLast Go.Proofs.YtagkobpbhfkmdaaW.PrintWords
set_option linter.unusedVariables false
set_option linter.unusedSimpArgs false
/-- A row of trees. -/
def TLs (w : World) (A : Option Addr) (L : List Tre) : Prop := ∃ Ts : List Nat, Ts.length = L.length ∧ kTP.C w A L.length Ts ∧ ∀ (i T : Nat) (Y : Tre), Ts[i]? = some T → L[i]? = some Y → TR w T Y
theorem TLs.below {w w' : World} {A : Option Addr} {L : List Tre} (h : TLs w A L) (hb : Below w.heap.size w w') : TLs w' A L := by
  obtain ⟨Ts, h1, h2, h3⟩ := h
  exact ⟨Ts, h1, Kd.C_below h2 hb, fun i T Y a b => (h3 i T Y a b).below hb⟩
theorem TLs.at_ {w : World} {A : Option Addr} {L : List Tre} (h : TLs w A L) {i : Nat} {Y : Tre} (hY : L[i]? = some Y) : ∃ ad T, A = some ad ∧ w.cell? (ad.add i) = some (.pointer (some ⟨T, 0, none⟩)) ∧ TR w T Y := by
  obtain ⟨Ts, h1, h2, h3⟩ := h
  have hi : i < L.length := by
    rcases Nat.lt_or_ge i L.length with hh | hh
    · exact hh
    · rw [List.getElem?_eq_none hh] at hY; cases hY
  obtain ⟨T0, hT⟩ : ∃ T0, Ts[i]? = some T0 := ⟨_, List.getElem?_eq_getElem (by omega)⟩
  obtain ⟨ad, c, e, _, hK, hc0⟩ := Kd.C_get h2 0 (i : Int) (by omega) (by omega)
  have hd : Ts.getD (i : Int).toNat 0 = T0 := by rw [List.getD_eq_getElem?_getD, Int.toNat_natCast, hT]; rfl
  rw [hd] at hK
  have hK' : c = [ptrV T0] := hK
  subst hK'
  refine ⟨ad, T0, e, ?_, h3 i _ Y hT hY⟩
  have := hc0 0 _ rfl
  rw [Int.toNat_natCast, show i * kTP.sz + 0 = i from by show i * 1 + 0 = i; omega] at this
  exact this
theorem modN (a : Int) (n : Nat) (h0 : 0 ≤ a) : Int.tmod a (n : Int) = ((a.toNat % n : Nat) : Int) := by
  obtain ⟨k, rfl⟩ := Int.eq_ofNat_of_zero_le h0
  rw [Int.toNat_natCast]
  rfl
theorem hap_ev {X : Tre} {L : List Tre} {n : Nat} (hC : Crs X L n) : ∀ (i : Nat) (Y : Tre), L[i]? = some Y → ∀ x ∈ Y.hap, evOK x
  | 0, Y, hY, x, hx => by
    rw [hC.zero] at hY
    cases hY
    cases hx
  | i + 1, Y, hY, x, hx => by
    have hi : i + 1 < L.length := by
      rcases Nat.lt_or_ge (i + 1) L.length with hh | hh
      · exact hh
      · rw [List.getElem?_eq_none hh] at hY; cases hY
    have hZ : L[i]? = some (L[i]'(by omega)) := List.getElem?_eq_getElem (by omega)
    obtain ⟨evs, e1, e2, _⟩ := (hC.next i _ Y hZ hY).ev
    rw [e1] at hx
    rcases List.mem_append.1 hx with hx | hx
    · exact hap_ev hC i _ hZ x hx
    · exact (e2 x hx).2
end Go.Proofs.Ytagkobpbhfkmdaa.C
/-! from HO -/
namespace Go.Proofs.Ytagkobpbhfkmdaa.C
open Go.RowKit Go.Proofs.Ytagkobpbhfkmdaa.Q Go.Proofs.YtagkobpbhfkmdaaW.PrintLast Go.Proofs.YtagkobpbhfkmdaaW.PrintWords
set_option linter.unusedVariables false
set_option linter.unusedSimpArgs false
end Go.Proofs.Ytagkobpbhfkmdaa.C
/-! from MU -/
namespace Go.Proofs.Ytagkobpbhfkmdaa.C
open Go.RowKit Go.Proofs.Ytagkobpbhfkmdaa.Q Go.Proofs.YtagkobpbhfkmdaaW.PrintLast Go.Proofs.YtagkobpbhfkmdaaW.PrintWords
set_option linter.unusedVariables false
def FewT (l : List Txn') (ts : List Tale') : Prop := l.length ≤ 40 ∧ ts.length ≤ 60 ∧ (∀ x ∈ l, x.f0.length ≤ 20 ∧ x.f1.length ≤ 20) ∧ ∀ t ∈ ts, t.f3.length ≤ 20
theorem much_l1 (ts : List Tale') (hl : ts.length ≤ 60) : ∀ (d i : Nat), i + d = ts.length → ∃ r, (∀ k, d < k → batonlaw21_much.l1 k ts (i : Int) = some r) ∧ (r = false → ∀ j t, i ≤ j → ts[j]? = some t → t.f3.length ≤ 20) := by
  intro d
  induction d with
  | zero =>
    intro i hi
    refine ⟨false, fun k hk => ?_, fun _ j t h1 h2 => ?_⟩
    · obtain ⟨k, rfl⟩ : ∃ k', k = k' + 1 := ⟨k - 1, by omega⟩
      unfold batonlaw21_much.l1
      rw [if_neg (by omega)]
    · rw [List.getElem?_eq_none (by omega)] at h2; cases h2
  | succ d ih =>
    intro i hi
    obtain ⟨r, h1, h2⟩ := ih (i + 1) (by omega)
    have hx : ts[i]? = some (ts[i]'(by omega)) := List.getElem?_eq_getElem (by omega)
    by_cases hc : ((ts[i]'(by omega)).f3.length : Int) > 20
    · refine ⟨true, fun k hk => ?_, fun h => by cases h⟩
      obtain ⟨k, rfl⟩ : ∃ k', k = k' + 1 := ⟨k - 1, by omega⟩
      unfold batonlaw21_much.l1
      rw [if_pos (by omega), if_pos (by omega), rd_getTl hx, if_pos hc]
    · refine ⟨r, fun k hk => ?_, fun hr j t h3 h4 => ?_⟩
      · obtain ⟨k, rfl⟩ : ∃ k', k = k' + 1 := ⟨k - 1, by omega⟩
        unfold batonlaw21_much.l1
        rw [if_pos (by omega), if_pos (by omega), rd_getTl hx, if_neg hc, w64 (by omega)]
        exact h1 k (by omega)
      · by_cases hj : j = i
        · subst hj
          rw [hx] at h4
          cases h4
          omega
        · exact h2 hr j t (by omega) h4
theorem much_l0 (l : List Txn') (ts : List Tale') (hl : l.length ≤ 40) (ht : ts.length ≤ 60) : ∀ (d i : Nat), i + d = l.length → ∃ r, (∀ k, d + ts.length + 1 < k → batonlaw21_much.l0 k l ts (i : Int) = some r) ∧ (r = false → (∀ j x, i ≤ j → l[j]? = some x → x.f0.length ≤ 20 ∧ x.f1.length ≤ 20) ∧ ∀ t ∈ ts, t.f3.length ≤ 20) := by
  intro d
  induction d with
  | zero =>
    intro i hi
    obtain ⟨r, h1, h2⟩ := much_l1 ts ht ts.length 0 (by omega)
    refine ⟨r, fun k hk => ?_, fun hr => ⟨fun j x h3 h4 => ?_, fun t htm => ?_⟩⟩
    · obtain ⟨k, rfl⟩ : ∃ k', k = k' + 1 := ⟨k - 1, by omega⟩
      unfold batonlaw21_much.l0
      rw [if_neg (by omega)]
      exact h1 k (by omega)
    · rw [List.getElem?_eq_none (by omega)] at h4; cases h4
    · obtain ⟨j, hj⟩ := List.mem_iff_getElem?.1 htm
      exact h2 hr j t (by omega) hj
  | succ d ih =>
    intro i hi
    obtain ⟨r, h1, h2⟩ := ih (i + 1) (by omega)
    have hx : l[i]? = some (l[i]'(by omega)) := List.getElem?_eq_getElem (by omega)
    by_cases hc : ((l[i]'(by omega)).f0.length : Int) > 20
    · refine ⟨true, fun k hk => ?_, fun h => by cases h⟩
      obtain ⟨k, rfl⟩ : ∃ k', k = k' + 1 := ⟨k - 1, by omega⟩
      unfold batonlaw21_much.l0
      rw [if_pos (by omega), if_pos (by omega), rd_getT hx, if_pos hc]
    · by_cases hd : ((l[i]'(by omega)).f1.length : Int) > 20
      · refine ⟨true, fun k hk => ?_, fun h => by cases h⟩
        obtain ⟨k, rfl⟩ : ∃ k', k = k' + 1 := ⟨k - 1, by omega⟩
        unfold batonlaw21_much.l0
        rw [if_pos (by omega), if_pos (by omega), rd_getT hx, if_neg hc, if_pos hd]
      · refine ⟨r, fun k hk => ?_, fun hr => ⟨fun j x h3 h4 => ?_, (h2 hr).2⟩⟩
        · obtain ⟨k, rfl⟩ : ∃ k', k = k' + 1 := ⟨k - 1, by omega⟩
          unfold batonlaw21_much.l0
          rw [if_pos (by omega), if_pos (by omega), rd_getT hx, if_neg hc, if_neg hd, w64 (by omega)]
          exact h1 k (by omega)
        · by_cases hj : j = i
          · subst hj
            rw [hx] at h4
            cases h4
            omega
          · exact (h2 hr).1 j x (by omega) h4
theorem much_is (l : List Txn') (ts : List Tale') : ∃ K r, batonlaw21_much.f K l ts = some r ∧ (r = false → FewT l ts) := by
  by_cases h1 : (l.length : Int) > 40
  · refine ⟨1, true, ?_, fun h => by cases h⟩
    unfold batonlaw21_much.f
    rw [if_pos h1]
    rfl
  · by_cases h2 : (ts.length : Int) > 60
    · refine ⟨1, true, ?_, fun h => by cases h⟩
      unfold batonlaw21_much.f
      rw [if_neg h1, decide_eq_true h2]
      rfl
    · obtain ⟨r, h3, h4⟩ := much_l0 l ts (by omega) (by omega) l.length 0 (by omega)
      refine ⟨l.length + ts.length + 3, r, ?_, fun hr => ⟨by omega, by omega, fun x hx => ?_, (h4 hr).2⟩⟩
      · unfold batonlaw21_much.f
        rw [if_neg h1, decide_eq_false h2]
        show (if (false = true) then (some true) else (batonlaw21_much.l0 (l.length + ts.length + 2) l ts 0)) = _
        rw [if_neg (by decide)]
        exact h3 _ (by omega)
      · obtain ⟨j, hj⟩ := List.mem_iff_getElem?.1 hx
        exact (h4 hr).1 j x (by omega) hj
end Go.Proofs.Ytagkobpbhfkmdaa.C
/-! from TW -/
namespace Go.Proofs.Ytagkobpbhfkmdaa.C
open Go.RowKit Go.Proofs.Ytagkobpbhfkmdaa.Q Go.Proofs.YtagkobpbhfkmdaaW.PrintLast Go.Proofs.YtagkobpbhfkmdaaW.PrintWords
set_option linter.unusedVariables false
set_option linter.unusedSimpArgs false
theorem okStr_size {s : ByteArray} (h : Open.okStr s) : s.size ≤ 9000000000000000000 := by
  have : s.size ≤ 140737488351232 := h
  omega
theorem okU8 {x : Int} (h : Open.okInt .u8 x) : 0 ≤ x ∧ x ≤ 255 := by
  unfold Open.okInt Lit.wf at h
  simp only [Bool.and_eq_true, decide_eq_true_eq] at h
  exact ⟨h.1, h.2⟩
theorem txn_ok {l : List S101} (ok : Open.okSl 48 ok101 l) : ∀ x ∈ l, (∀ c ∈ x.f0, c.f0.size ≤ 9000000000000000000) ∧ ∀ o ∈ x.f1, o.f1.size ≤ 9000000000000000000 := fun x hx => by
  obtain ⟨h0, h1⟩ := ok.2.2 x hx
  exact ⟨fun c hc => okStr_size (h0.2.2 c hc).1, fun o ho => okStr_size (h1.2.2 o ho).2.1⟩
end Go.Proofs.Ytagkobpbhfkmdaa.C
/-! from UW -/
namespace Go.Proofs.Ytagkobpbhfkmdaa.C
open Go.RowKit Go.Proofs.Ytagkobpbhfkmdaa.Q Go.Proofs.YtagkobpbhfkmdaaW.PrintLast Go.Proofs.YtagkobpbhfkmdaaW.PrintWords
set_option linter.unusedVariables false
set_option linter.unusedSimpArgs false
/-- What a round of CacheUpto starts with: all is known as of i. -/
structure UI (L : List Tre) (B0 : Nat) (w4 w : World) (C M : Nat) (f : Fcts) (i m : Nat) : Prop where
  ca : CA w C M f i
  know : Know L f i
  all : ∀ k, asofM f i k = i
  fb : FB f m
  bel : Below B0 w4 w
  size : B0 ≤ w.heap.size
theorem UI.below {L : List Tre} {B0 : Nat} {w4 w w' : World} {C M : Nat} {f : Fcts} {i m : Nat} (h : UI L B0 w4 w C M f i m) (hb : Below w.heap.size w w') : UI L B0 w4 w' C M f i m :=
  ⟨h.ca.below hb, h.know, h.all, h.fb, h.bel.trans (hb.mono h.size), Nat.le_trans h.size hb.size⟩
theorem know_get {L : List Tre} {f : Fcts} {i : Nat} {Y : Tre} (hK : Know L f i) (ha : ∀ k, asofM f i k = i) (hY : L[i]? = some Y) (k : ByteArray) : getM f k = Shf.get k Y.t := by
  obtain ⟨b, W, h1, h2, h3⟩ := (hK k).2 (by rw [ha]; omega)
  rw [ha] at h1
  have : b = i := by omega
  subst this
  rw [hY] at h2
  cases h2
  exact h3
theorem list_fb {Y : Tre} (hw : WF Y) {n : Nat} (hn : n ≤ 40) (hc : Y.t.cnt ≤ 8 * n) {f : Fcts} {u rev : Int} {m : Nat} (h : FB f m) : FB (listM f u rev (tlsM Y.t)).1.1 (m + 320) := by
  obtain ⟨_, hg⟩ := hw.list
  have hlen : (tlsM Y.t).length ≤ 320 := by
    unfold tlsM; rw [List.length_map, Shf.ord_len]; omega
  unfold listM
  split
  · split
    · exact h.mono (by omega)
    · dsimp only
      have h1 : FB (dropM f rev) m := h.sub (fun k v hk => by
        unfold dropM at hk
        cases hf : f k with
        | none => rw [hf] at hk; cases hk
        | some v' => exact ⟨v', rfl⟩)
      refine (FB.fold (addL _) (·.f0) (fun f x k hk => ?_) _ h1 (fun x hx => ?_)).mono (by omega)
      · unfold addL; split; rfl; exact upd_ne' _ _ hk
      · have := keyB_size (mayOpB_key (hg x hx).1); show x.f0.size ≤ _; omega
  · exact h.mono (by omega)
theorem watch_fb {f : Fcts} {u fr rev : Int} {E : List Evn} {m : Nat} (h : FB f m) (hE : E.length ≤ 320) (hk : ∀ x ∈ E, x.f2.size ≤ 100000) : FB (watchM f u fr rev E).1.1 (m + 320) := by
  unfold watchM
  split
  · split
    · exact h.mono (by omega)
    · dsimp only
      refine (FB.fold (stepW u) (·.f2) (fun f x k hk => stepW_ne (fun e => hk e.symm)) _ h (fun x hx => ?_)).mono (by omega)
      have := hk x hx
      show x.f2.size ≤ _
      omega
  · exact h.mono (by omega)
theorem since_few {Z : Tre} {n : Nat} (hn : n ≤ 40) (hh : Z.hap.length ≤ 8 * n) (hev : ∀ x ∈ Z.hap, evOK x) (fr : Int) : (sinceM Z fr).1.length ≤ 320 ∧ ∀ x ∈ (sinceM Z fr).1, x.f2.size ≤ 100000 := by
  have hp : ∀ x ∈ Z.hap, x.f2.size ≤ 100000 := fun x hx => by have := keyB_size (mayOpB_key (hev x hx)); omega
  unfold sinceM
  split
  · simp
  · split
    · simp
    · have := List.length_filter_le (fun x : Evn => decide (fr ≤ x.f0)) Z.hap
      exact ⟨by dsimp only; omega, fun x hx => hp x (List.mem_filter.1 hx).1⟩
theorem at_int {w : World} {A : Option Addr} {n : Nat} {l : List Int} (h : (Kd.int .u8).C w A n l) {i : Nat} {x : Int} (hx : l[i]? = some x) : ∃ ad, A = some ad ∧ w.cell? (ad.add i) = some (.int .u8 x) := by
  have hl : n = l.length := (Kd.C_len h).symm
  have hi : i < l.length := by
    rcases Nat.lt_or_ge i l.length with hh | hh
    · exact hh
    · rw [List.getElem?_eq_none hh] at hx; cases hx
  obtain ⟨ad, c, e, _, hK, hc0⟩ := Kd.C_get h 0 (i : Int) (by omega) (by omega)
  have hd : l.getD (i : Int).toNat 0 = x := by rw [List.getD_eq_getElem?_getD, Int.toNat_natCast, hx]; rfl
  rw [hd] at hK
  have hK' : c = [.int .u8 x] := hK
  subst hK'
  refine ⟨ad, e, ?_⟩
  have := hc0 0 _ rfl
  rw [Int.toNat_natCast, show i * (Kd.int .u8).sz + 0 = i from by show i * 1 + 0 = i; omega] at this
  exact this
def uw16T : Bool × List (List Nat × List Nat) := (true, [([], []), ([0], [0]), ([1], [1]), ([2], [2]), ([2], [2]), ([4, 2], [2, 4]), ([2], [2]), ([2], [2]), ([3, 5, 6, 7, 2, 2], [2, 3, 5, 6, 7]), ([8, 2], [2, 8]), ([2, 9], [2, 9]), ([10, 8], [10]), ([11], [11]), ([12, 11, 11], [11, 12]), ([11], [11]), ([13, 14, 11], [11, 13, 14]), ([11, 15], [11, 15]), ([16, 13], [16]), ([17], [17]), ([18, 17, 17], [17, 18]), ([17], [17]), ([17], [17]), ([20, 21, 17], [17, 20, 21]), ([22, 17], [17, 22]), ([23, 19, 17], [17, 23]), ([19, 24, 24, 17], [17, 19, 24]), ([25, 17], [17, 25]), ([17, 26], [17, 26])])
def uw16B : List Nat := [0, 1, 3, 7, 7, 23, 7, 7, 255, 511, 1023, 2047, 4095, 8191, 4095, 32767, 65535, 131071, 262143, 524287, 262143, 262143, 3407871, 7602175, 16777215, 33554431, 67108863, 134217727]
theorem uw16_tab : rtab .any (opsOf Try.f5 16) = uw16T := by kernel_rfl
theorem uw16_bits : waitsOk uw16T.2 uw16B = true := by kernel_rfl
set_option maxHeartbeats 8000000 in
set_option maxRecDepth 100000 in
theorem cacheUpto_calls (A S : Option Addr) (c d : Nat) (l : List Txn') (a1 : Int) (st : List Int) (w : World) (g : Kd.C k101 w A l.length l) (hlc : l.length ≤ c) (gs : (Kd.int .u8).C w S st.length st) (hld : st.length ≤ d)
    (hsz : ∀ x ∈ l, (∀ c ∈ x.f0, c.f0.size ≤ 9000000000000000000) ∧ ∀ o ∈ x.f1, o.f1.size ≤ 9000000000000000000) (ha1 : 0 ≤ a1 ∧ a1 ≤ 255) (hst : ∀ s ∈ st, 0 ≤ s ∧ s ≤ 255) (hsl : st.length ≤ 140737488355328) :
    Calls Try.prog 5 #[.slice A l.length c, .int .u8 a1, .slice S st.length d] w fun e w' => e = .returned (.bool true) ∧ Below w.heap.size w w' := by
  obtain ⟨K, r, hr, hfew⟩ := much_is l []
  have hmuch := batonlaw21_much.calls K A c l none 0 [] r w g hlc (Kd.C_nil _ _) (Nat.le_refl _) hr
  obtain ⟨n, hn⟩ : ∃ n, l.length = n := ⟨_, rfl⟩
  obtain ⟨s, hs⟩ : ∃ n, st.length = n := ⟨_, rfl⟩
  have HG := Aside.mk (And.intro g (And.intro gs (And.intro hn (And.intro hs (And.intro hsz hst)))))
  have hcr := courseM_crs l n (by omega)
  rw [List.take_of_length_le (by omega)] at hcr
  rw [hn] at hmuch hlc ⊢
  rw [hs] at hld hsl ⊢
  have hmuch : Calls Try.prog 22 #[.slice A n c, .slice none 0 0] w fun e w' => e = .returned (.bool r) ∧ Below w.heap.size w w' := hmuch.mono fun e w1 h => ⟨h.1, by obtain ⟨q, rfl⟩ := drawn_fr h.2; exact pw_below_drewN (Below.refl _ _) q⟩
  have HC := Aside.mk (And.intro hcr (And.intro hfew (And.intro hlc hld)))
  clear g gs hn hs hr hsz hst hcr hfew
  have hawk : ∀ w1, Below w.heap.size w w1 → Calls Try.prog 9 #[] w1 fun e w2 => e = .returned (.bool true) ∧ Below w.heap.size w w2 := fun w1 hb => (awake_calls w1).mono fun e w2 h => ⟨h.1, hb.trans (h.2.mono hb.size)⟩
  have HAW := Aside.mk hawk
  clear hawk
  cases r with
  | true =>
    go_enter Try.func5, Try.ntmps5
    go_wp2_with fail
    refine hmuch.mono ?_
    rintro e w1 ⟨rfl, hb⟩
    have HB := Aside.mk hb
    clear hb
    go_wp2_with fail
    refine (HAW.out w1 HB.out).mono ?_
    rintro e w2 ⟨rfl, hb2⟩
    have HB2 := Aside.mk hb2
    clear hb2
    go_wp2_with fail
    go_ret
    exact ⟨rfl, HB2.out⟩
  | false =>
    by_cases h60 : (s : Int) > 60
    · go_enter Try.func5, Try.ntmps5
      go_wp2_with fail
      refine hmuch.mono ?_
      rintro e w1 ⟨rfl, hb⟩
      have HB := Aside.mk hb
      have h61 : (60 : Int) < s := by omega
      clear hb h60
      go_wp2_with fail
      refine (HAW.out w1 HB.out).mono ?_
      rintro e w2 ⟨rfl, hb2⟩
      have HB2 := Aside.mk hb2
      clear hb2
      go_wp2_with fail
      go_ret
      exact ⟨rfl, HB2.out⟩
    · have hfw := HC.out.2.1 rfl
      have HF := Aside.mk hfw
      have hn40 : n ≤ 40 := by rw [← HG.out.2.2.1]; exact hfw.1
      have h61 : s ≤ 60 := by omega
      clear hfw h60
      go_enter Try.func5, Try.ntmps5
      go_wp2_with fail
      refine hmuch.mono ?_
      rintro e w1 ⟨rfl, hb⟩
      have HB := Aside.mk hb
      clear hb hmuch
      go_wp2_with fail
      refine (HAW.out w1 HB.out).mono ?_
      rintro e w2 ⟨rfl, hb2⟩
      have HB2 := Aside.mk hb2
      clear hb2 HB
      have hco := course_calls A c l w2 (by rw [HG.out.2.2.1]; have := Kd.C_below HG.out.1 HB2.out; rw [HG.out.2.2.1] at this; exact this) (by rw [HG.out.2.2.1]; exact hlc) (by rw [HG.out.2.2.1]; exact hn40) (fun x hx => ⟨(HF.out.2.2.1 x hx).1, (HF.out.2.2.1 x hx).2, HG.out.2.2.2.2.1 x hx⟩)
      rw [HG.out.2.2.1] at hco
      obtain ⟨L, hL⟩ : ∃ L, (courseM l).2 = L := ⟨_, rfl⟩
      obtain ⟨X, hX⟩ : ∃ L, (courseM l).1 = L := ⟨_, rfl⟩
      rw [hL] at hco
      have hcr := HC.out.1
      rw [hL, hX] at hcr
      have HCR := Aside.mk hcr
      obtain ⟨ll, hll⟩ : ∃ k, L.length = k := ⟨_, rfl⟩
      have hll41 : ll ≤ 41 ∧ 0 < ll := by have h1 := hcr.len; have h2 := hcr.pos; omega
      have HLL := Aside.mk hll
      rw [hll] at hco
      obtain ⟨lz, hlz⟩ : ∃ lz, ll = lz + 1 := ⟨ll - 1, by omega⟩
      have hlast : (ll : Int) - 1 = (lz : Int) := by omega
      clear hcr hL hX hll hlz
      go_wp2_with fail
      refine hco.mono ?_
      rintro e w3 ⟨A3, c3, Ts, rfl, hTl, hc3, hC3, hT3, hb3⟩
      obtain ⟨B0, hB0⟩ : ∃ b, w3.heap.size = b := ⟨_, rfl⟩
      have H3 : Aside (TLs w3 A3 L ∧ Below w.heap.size w w3 ∧ w3.heap.size = B0) := ⟨⟨Ts, by rw [hTl, HLL.out], by rw [HLL.out]; exact hC3, hT3⟩, HB2.out.trans (hb3.mono HB2.out.size), hB0⟩
      clear hb3 hTl hC3 hT3 hco HB2
      go_wp2_with fail
      refine (cnew_calls w3).mono ?_
      rintro e w4 ⟨C, M, rfl, hc4, hC, hM, hb4⟩
      rw [hB0] at hC hM
      have H4 : Aside (CA w4 C M (fun _ => none) (-1) ∧ Below B0 w3 w4 ∧ B0 ≤ w4.heap.size ∧ B0 ≤ C ∧ B0 ≤ M) := ⟨hc4, by rw [← hB0]; exact hb4, by rw [← hB0]; exact hb4.size, hC, hM⟩
      clear hc4 hb4 hB0 hC hM
      obtain ⟨i0, hi0⟩ : ∃ i, a1.toNat % ll = i := ⟨_, rfl⟩
      have hi0l : i0 < ll := by rw [← hi0]; exact Nat.mod_lt _ hll41.2
      have hto := modN a1 ll ha1.1
      rw [hi0] at hto
      have hY0 : L[i0]? = some (L[i0]'(by rw [HLL.out]; exact hi0l)) := List.getElem?_eq_getElem _
      obtain ⟨Y0, hYe⟩ : ∃ Y, L[i0]'(by rw [HLL.out]; exact hi0l) = Y := ⟨_, rfl⟩
      rw [hYe] at hY0
      obtain ⟨adT, T0, he, q0, hT0⟩ := H3.out.1.at_ hY0
      obtain ⟨r1, r2, hw, r3, r4⟩ := HCR.out.at_ _ _ hY0
      subst he
      have hlt0 := list_told (f := fun _ => none) (u := -1) hY0 hw r1 (by omega) (by decide) (fun k => ⟨fun _ => rfl, fun h => by exact absurd h (by show ¬ (0 : Int) ≤ -1; decide)⟩)
      have hlfb := list_fb (u := -1) (rev := i0) hw hn40 r3 FB.none
      obtain ⟨P, hP⟩ : ∃ P, listM (fun _ => none) (-1) i0 (tlsM Y0.t) = P := ⟨_, rfl⟩
      rw [hP] at hlt0 hlfb
      obtain ⟨⟨f1, u1⟩, z1⟩ := P
      dsimp only at hlt0 hlfb
      obtain ⟨g1, g2, g3, g4⟩ := hlt0
      obtain ⟨g5, g6⟩ := g4 (by omega)
      subst g1
      subst g5
      have HU : Aside (Know L f1 i0 ∧ (∀ k, asofM f1 i0 k = i0) ∧ FB f1 320) := ⟨g2.know, fun k => g6 k (fun v h => by cases h), by simpa using hlfb⟩
      have htl := tlist_calls T0 Y0 w4 (hT0.below (by rw [H3.out.2.2]; exact H4.out.2.1)) (by omega)
      have hsmall : (tlsM Y0.t).length ≤ 1000000000 ∧ ∀ x ∈ tlsM Y0.t, x.f0.size ≤ 100000 := ⟨by unfold tlsM; rw [List.length_map, Shf.ord_len]; omega, fun x hx => by have := keyB_size (mayOpB_key ((hw.list.2 x hx).1)); omega⟩
      have HTL := Aside.mk (And.intro htl (And.intro hsmall hP))
      have q0 := ((show Below w3.heap.size w3 w4 by rw [H3.out.2.2]; exact H4.out.2.1).cell (cell_lt' q0)).trans q0
      clear hlfb g2 g3 g4 g6 hP htl hsmall hT0 hw r1 r2 r3 r4 hYe hY0 hi0
      go_wp2_with fail
      refine HTL.out.1.mono ?_
      rintro e w5 ⟨A5, c5, rfl, hc5, hC5, hA5, hb5⟩
      have hls := list_calls C M (fun _ => none) (-1) i0 A5 c5 (tlsM Y0.t) w5 (H4.out.1.below hb5) hC5 hc5 HTL.out.2.1.1 HTL.out.2.1.2 (fun ad e => by
        have h1 := hA5 ad e
        have h2 := H4.out.1.ltC
        have h3 := H4.out.1.ltM
        constructor <;> omega)
      rw [HTL.out.2.2] at hls
      have H5 : Aside (Below B0 w3 w5 ∧ B0 ≤ w5.heap.size) := ⟨H4.out.2.1.trans (hb5.mono H4.out.2.2.1), Nat.le_trans H4.out.2.2.1 hb5.size⟩
      have HLS := Aside.mk hls
      clear hls hb5 hC5 hA5 hc5
      go_wp2_with fail
      refine HLS.out.mono ?_
      rintro e w6 ⟨rfl, hc6, hf6⟩
      have H6 : Aside (UI L B0 w3 w6 C M f1 i0 (320 * (0 + 1))) := ⟨⟨hc6, HU.out.1, HU.out.2.1, HU.out.2.2, H5.out.1.trans (hf6.below H5.out.2 (fun k hk => by have := H4.out.2.2.2; omega)), Nat.le_trans H5.out.2 hf6.size⟩⟩
      have HCM : Aside (B0 ≤ C ∧ B0 ≤ M) := ⟨H4.out.2.2.2⟩
      clear hc6 hf6 HLS HU HTL H5 H4 q0 hto
      go_wp2_with fail
      go_loopw [10, 11] (fun v10 v11 wr => ∃ j i : Nat, j ≤ s + 1 ∧ v11 = .int .i64 j ∧ v10 = .int .i64 i ∧ i < ll ∧ Aside (∃ f, UI L B0 w3 wr C M f i (320 * (j + 1)))) (fun _ v11 _ => s + 1 - (intOf v11).toNat)
      case atStart => exact ⟨0, i0, by omega, rfl, rfl, hi0l, ⟨_, H6.out⟩⟩
      case round =>
        obtain ⟨j, i, hj, rfl, rfl, hil, HI⟩ := hrel
        obtain ⟨f, hI⟩ := HI.out
        have HI := Aside.mk hI
        clear hI
        by_cases hjs : j < s
        · obtain ⟨x, hx⟩ : ∃ x, st[j]? = some x := ⟨_, List.getElem?_eq_getElem (by rw [HG.out.2.2.2.1]; exact hjs)⟩
          have hxr := HG.out.2.2.2.2.2 x (List.mem_of_getElem? hx)
          obtain ⟨dd, hdd⟩ : ∃ d, x.toNat % (ll - i) = d := ⟨_, rfl⟩
          have hddl : dd < ll - i := by rw [← hdd]; exact Nat.mod_lt _ (by omega)
          have hxm := modN x (ll - i) hxr.1
          rw [hdd] at hxm
          have hxc := at_int HG.out.2.1 hx
          obtain ⟨adS, heS, hcS⟩ := hxc
          have hcS : wr.cell? (adS.add j) = some (.int .u8 x) := by
            have h1 : Below w.heap.size w wr := H3.out.2.1.trans (by have h := HI.out.bel; rw [← H3.out.2.2] at h; exact h.mono H3.out.2.1.size)
            exact (h1.cell (cell_lt' hcS)).trans hcS
          subst heS
          clear hx hdd
          obtain ⟨z, hz⟩ : ∃ z, i + dd = z := ⟨_, rfl⟩
          have hY : L[i]? = some (L[i]'(by rw [HLL.out]; exact hil)) := List.getElem?_eq_getElem _
          obtain ⟨Y, hYe⟩ : ∃ Y, L[i]'(by rw [HLL.out]; exact hil) = Y := ⟨_, rfl⟩
          rw [hYe] at hY
          have hZl : i + dd < L.length := by rw [HLL.out]; omega
          have hZ : L[i + dd]? = some (L[i + dd]'hZl) := List.getElem?_eq_getElem _
          obtain ⟨Z, hZe⟩ : ∃ Z, L[i + dd]'hZl = Z := ⟨_, rfl⟩
          rw [hZe] at hZ
          obtain ⟨adQ, T, heQ, qT, hT⟩ := H3.out.1.at_ hZ
          cases heQ
          obtain ⟨r1, r2, hw, r3, r4⟩ := HCR.out.at_ _ _ hZ
          obtain ⟨v1, v2, -, -, -, v6⟩ := watch_told HCR.out (by rw [HLL.out]; omega) hY hZ (by omega) HI.out.know
          obtain ⟨v7, v8, v9⟩ := v6 rfl HI.out.all
          obtain ⟨vE1, vE2⟩ := since_few hn40 r4 (hap_ev HCR.out _ Z hZ) ((i : Int) + 1)
          have hsn := fun W (hW : Below B0 w3 W) => since_calls T Z ((i : Int) + 1) W (hT.below (by rw [H3.out.2.2]; exact hW)) (by omega) (by rw [r1]; omega)
          rw [v1] at hsn
          obtain ⟨E, hE⟩ : ∃ E, (sinceM Z ((i : Int) + 1)).1 = E := ⟨_, rfl⟩
          rw [hE] at v2 v7 v8 v9 vE1 vE2 hsn
          have vfb := watch_fb (u := i) (fr := (i : Int) + 1) (rev := ((i + dd : Nat) : Int)) HI.out.fb vE1 vE2
          obtain ⟨P, hP⟩ : ∃ P, watchM f i ((i : Int) + 1) ((i + dd : Nat) : Int) E = P := ⟨_, rfl⟩
          rw [hP] at v2 v7 v8 v9 vfb
          obtain ⟨⟨f2, u2⟩, z2⟩ := P
          dsimp only at v2 v7 v8 v9 vfb
          subst v7
          subst v8
          rw [hz] at v2 v9 hP qT
          have HU2 : Aside (Know L f2 z ∧ (∀ k, asofM f2 z k = z) ∧ FB f2 (320 * (j + 1 + 1)) ∧ (∀ k, getM f2 k = Shf.get k Z.t) ∧ WF Z) := ⟨v2.know, v9, by rw [show 320 * (j + 1 + 1) = 320 * (j + 1) + 320 by omega]; exact vfb, fun k => know_get v2.know v9 (by rw [← hz]; exact hZ) k, hw⟩
          have HCT : Aside (∀ W, Below B0 w3 W → W.cell? (adT.add z) = some (.pointer (some ⟨T, 0, none⟩))) := ⟨fun W hW => by rw [← H3.out.2.2] at hW; exact (hW.cell (cell_lt' qT)).trans qT⟩
          have htz : (tlsM Z.t).length ≤ 320 := by unfold tlsM; rw [List.length_map, Shf.ord_len]; omega
          obtain ⟨tz, htze⟩ : ∃ t, (tlsM Z.t).length = t := ⟨_, rfl⟩
          have htl := fun W (hW : Below B0 w3 W) => tlist_calls T Z W (hT.below (by rw [H3.out.2.2]; exact hW)) (by omega)
          have hen := fun v A1 c1 A2 c2 h1 h2 h3 h4 => (batonref12_Entries.calls ((tlsM Z.t).length + 1) A1 c1 (tlsM Z.t) A2 c2 (tlsM Z.t) true v h1 h2 h3 h4 (entries_refl (tlsM Z.t) (by omega))).mono fun e w1 (h : e = .returned (.bool true) ∧ Drawn0 v w1) => (show e = .returned (.bool true) ∧ Below v.heap.size v w1 from ⟨h.1, by obtain ⟨q, rfl⟩ := drawn_fr h.2; exact pw_below_drewN (Below.refl _ _) q⟩)
          rw [htze] at htl hen htz
          have HEN := Aside.mk (And.intro htl (And.intro hen htze))
          have HSN := Aside.mk (And.intro hsn (And.intro hP (And.intro vE1 vE2)))
          have hzl : z < ll := by omega
          have q0 := HCT.out wr HI.out.bel
          have hxm2 : wrap64 ((i : Int) + x % ((lz : Int) - (i : Int) + 1)) = (z : Int) := by
            have h9 : x % ((lz : Int) - (i : Int) + 1) = (dd : Int) := by
              rw [← hxm, Int.tmod_eq_emod_of_nonneg hxr.1, show ((ll - i : Nat) : Int) = (lz : Int) - (i : Int) + 1 by omega]
            rw [h9]; unfold wrap64; omega
          clear hxm
          clear v1 v2 v9 vfb vE1 vE2 hsn hP hE hYe hZe hY hZ hZl hT hw r1 r2 r3 r4 qT htze htl hen hz
          go_wp2_with fail
          refine (HSN.out.1 wr HI.out.bel).mono ?_
          rintro e w7 ⟨V, rfl, hR7, hb7⟩
          have hA7 := hR7.1
          obtain ⟨A7, c7, rfl, hc7, hC7⟩ := Kd.R_reads hR7
          have hwt := watch_calls C M f i ((i : Int) + 1) z A7 c7 E w7 (HI.out.ca.below hb7) hC7 hc7 (by have := HSN.out.2.2.1; omega) HSN.out.2.2.2 (by omega) (fun ad e => by
            subst e
            have h1 := hA7 ad.block rfl
            have h2 := HI.out.ca.ltC
            have h3 := HI.out.ca.ltM
            constructor <;> omega)
          rw [HSN.out.2.1] at hwt
          obtain ⟨ne, hne⟩ : ∃ k, E.length = k := ⟨_, rfl⟩
          rw [hne] at hwt hc7 ⊢
          have H7 := Aside.mk (HI.out.below hb7)
          have HWT : Aside (∀ W, W = w7.drew → Calls Try.prog 27 #[.pointer (some ⟨C, 0, none⟩), .int .i64 ((i : Int) + 1), .int .i64 z, .slice A7 ne c7] W fun e w' => e = .returned (.int .i64 0) ∧ CA w' C M f2 z ∧ Fr (fun k => k = C ∨ k = M) w7.drew w') := ⟨by
            have hbd : Below w7.heap.size w7 w7.drew := below_drew1 (Below.refl _ _)
            have hwt2 := watch_calls C M f i ((i : Int) + 1) z A7 c7 E w7.drew ((HI.out.ca.below hb7).below hbd) (Kd.C_below hC7 hbd) (by rw [hne]; exact hc7) (by have := HSN.out.2.2.1; omega) HSN.out.2.2.2 (by omega) (fun ad e => by
              subst e
              have h1 := hA7 ad.block rfl
              have h2 := HI.out.ca.ltC
              have h3 := HI.out.ca.ltM
              constructor <;> omega)
            rw [HSN.out.2.1, hne] at hwt2
            rintro W rfl
            exact hwt2⟩
          have HD : Aside (UI L B0 w3 w7.drew C M f i (320 * (j + 1))) := ⟨H7.out.below (below_drew1 (Below.refl _ _))⟩
          clear hR7 hb7 hA7 hc7 hC7 hne hwt HI q0 HSN
          go_upto_region 16 with fail
          refine start_ (n := 28) (S := (fun w' => w'.cell? (adT.add z) = some (.pointer (some ⟨T, 0, none⟩)))) (ds := []) #[false, false, false, false, false, false, false, false, false, false, false, false, false, false, false, false, false, false, false, false, false, false, false, false, false, false, false, false] (by kernel_rfl) rfl rfl (HCT.out w7.drew HD.out.bel) (fun hHeld => ?_); refine with_tabW uw16_tab uw16_bits (fun HT_ HW_ => ?_)
          refine pure_ (i := 0) (N := (some 80)) (v := ?_) (a' := ?_) #[true, false, false, false, false, false, false, false, false, false, false, false, false, false, false, false, false, false, false, false, false, false, false, false, false, false, false, false] rfl rfl (any_of HT_.out (by kernel_rfl)) (fun _ _ _ h => h) (Or.inl ⟨by rfl, ?_⟩) ?_ ?_
          rotate_left
          · intro w'
            go_simp
            with_reducible rfl
          rotate_left
          · simp only [Act.put, List.setIfInBounds_toArray, List.set_cons_zero, List.set_cons_succ, i64_w, i32_w]
            rfl
          refine pure_ (i := 1) (N := (some 81)) (v := .bool false) (a' := ?_) #[true, true, false, false, false, false, false, false, false, false, false, false, false, false, false, false, false, false, false, false, false, false, false, false, false, false, false, false] rfl rfl (any_of HT_.out (by kernel_rfl)) (fun _ _ _ h => h) (Or.inl ⟨by rfl, ?_⟩) ?_ ?_
          · intro w'
            first | (go_simp; done) | (go_simp; with_reducible rfl) | (go_simp; simp [*]; done) | (go_simp; simp; omega)
          rotate_left
          · simp only [Act.put, List.setIfInBounds_toArray, List.set_cons_zero, List.set_cons_succ, i64_w, i32_w]
            rfl
          refine pure_ (i := 2) (N := (some 82)) (v := ?_) (a' := ?_) #[true, true, true, false, false, false, false, false, false, false, false, false, false, false, false, false, false, false, false, false, false, false, false, false, false, false, false, false] rfl rfl (any_of HT_.out (by kernel_rfl)) (fun _ _ _ h => h) (Or.inl ⟨by rfl, ?_⟩) ?_ ?_
          rotate_left
          · intro w'
            go_simp
            with_reducible rfl
          rotate_left
          · simp only [Act.put, List.setIfInBounds_toArray, List.set_cons_zero, List.set_cons_succ, i64_w, i32_w]
            rfl
          refine pure_ (i := 3) (N := (some 83)) (v := ?_) (a' := ?_) #[true, true, true, true, false, false, false, false, false, false, false, false, false, false, false, false, false, false, false, false, false, false, false, false, false, false, false, false] rfl rfl (any_of HT_.out (by kernel_rfl)) (fun _ _ _ h => h) (Or.inl ⟨by rfl, ?_⟩) ?_ ?_
          rotate_left
          · intro w'
            go_simp
            with_reducible rfl
          rotate_left
          · simp only [Act.put, List.setIfInBounds_toArray, List.set_cons_zero, List.set_cons_succ, i64_w, i32_w]
            rfl
          refine pure_ (i := 4) (N := (some 84)) (v := ?_) (a' := ?_) #[true, true, true, true, true, false, false, false, false, false, false, false, false, false, false, false, false, false, false, false, false, false, false, false, false, false, false, false] rfl rfl (any_of HT_.out (by kernel_rfl)) (fun _ _ _ h => h) (Or.inl ⟨by rfl, ?_⟩) ?_ ?_
          rotate_left
          · intro w'
            go_simp
            with_reducible rfl
          rotate_left
          · simp only [Act.put, List.setIfInBounds_toArray, List.set_cons_zero, List.set_cons_succ, i64_w, i32_w]
            rfl
          refine pure_ (i := 5) (N := (some 85)) (v := .int .i64 ((i : Int) + 1)) (a' := ?_) #[true, true, true, true, true, true, false, false, false, false, false, false, false, false, false, false, false, false, false, false, false, false, false, false, false, false, false, false] rfl rfl (any_of HT_.out (by kernel_rfl)) (fun _ _ _ h => h) (Or.inl ⟨by rfl, ?_⟩) ?_ ?_
          · intro w'
            first | (go_simp; with_reducible rfl) | (go_simp; rw [show wrap64 ((i : Int) + 1) = (i : Int) + 1 from by unfold wrap64; omega]) | (go_simp; rw [IntKind.wrap_i64]; omega)
          rotate_left
          · simp only [Act.put, List.setIfInBounds_toArray, List.set_cons_zero, List.set_cons_succ, i64_w, i32_w]
            rfl
          refine pure_ (i := 6) (N := (some 86)) (v := ?_) (a' := ?_) #[true, true, true, true, true, true, true, false, false, false, false, false, false, false, false, false, false, false, false, false, false, false, false, false, false, false, false, false] rfl rfl (any_of HT_.out (by kernel_rfl)) (fun _ _ _ h => h) (Or.inl ⟨by rfl, ?_⟩) ?_ ?_
          rotate_left
          · intro w'
            go_simp
            with_reducible rfl
          rotate_left
          · simp only [Act.put, List.setIfInBounds_toArray, List.set_cons_zero, List.set_cons_succ, i64_w, i32_w]
            rfl
          refine pure_ (i := 7) (N := (some 87)) (v := ?_) (a' := ?_) #[true, true, true, true, true, true, true, true, false, false, false, false, false, false, false, false, false, false, false, false, false, false, false, false, false, false, false, false] rfl rfl (any_of HT_.out (by kernel_rfl)) (fun _ _ _ h => h) (Or.inl ⟨by rfl, ?_⟩) ?_ ?_
          rotate_left
          · intro w'
            go_simp
            with_reducible rfl
          rotate_left
          · simp only [Act.put, List.setIfInBounds_toArray, List.set_cons_zero, List.set_cons_succ, i64_w, i32_w]
            rfl
          refine one_ (i := 8) (N := (some 88)) #[true, true, true, true, true, true, true, true, true, false, false, false, false, false, false, false, false, false, false, false, false, false, false, false, false, false, false, false] rfl rfl (one_of HT_.out (by kernel_rfl)) (by decide) (fun K9 hK => ?_)
          refine goes_ Try.func27 (by kernel_rfl) rfl #[.pointer (some ⟨C, 0, none⟩), .int .i64 ((i : Int) + 1), .int .i64 z, .slice A7 ne c7] (by rfl) rfl rfl (by (try simp only [List.map_toArray, List.map_cons, List.map_nil]); first | done | rfl) ?_
          refine (HWT.out w7.drew rfl).mono ?_
          rintro e w8 ⟨rfl, hc8, hf8⟩
          refine ⟨_, rfl, ?_⟩
          have HF8 : Aside (UI L B0 w3 w8 C M f2 z (320 * (j + 1 + 1))) := ⟨⟨hc8, HU2.out.1, HU2.out.2.1, HU2.out.2.2.1, HD.out.bel.trans (hf8.below HD.out.size (fun k hk => by have := HCM.out; omega)), Nat.le_trans HD.out.size hf8.size⟩⟩
          clear hc8 hf8
          refine hK.out _ _ (HCT.out w8 HF8.out.bel) (fun hHeld => ?_)
          clear hK K9
          refine norm_ (a' := ?_) ?_ ?_
          rotate_left
          · show Act.put _ (some 88) _ = _
            simp only [Act.put, List.setIfInBounds_toArray, List.set_cons_zero, List.set_cons_succ]
            rfl
          refine pure_ (i := 9) (N := (some 89)) (v := .bool false) (a' := ?_) #[true, true, true, true, true, true, true, true, true, true, false, false, false, false, false, false, false, false, false, false, false, false, false, false, false, false, false, false] rfl rfl (any_of HT_.out (by kernel_rfl)) (fun _ _ _ h => h) (Or.inl ⟨by rfl, ?_⟩) ?_ ?_
          · intro w'
            first | (go_simp; done) | (go_simp; with_reducible rfl) | (go_simp; simp [*]; done) | (go_simp; simp; omega)
          rotate_left
          · simp only [Act.put, List.setIfInBounds_toArray, List.set_cons_zero, List.set_cons_succ, i64_w, i32_w]
            rfl
          refine pure_ (i := 10) (N := (some 90)) (v := ?_) (a' := ?_) #[true, true, true, true, true, true, true, true, true, true, true, false, false, false, false, false, false, false, false, false, false, false, false, false, false, false, false, false] rfl rfl (any_of HT_.out (by kernel_rfl)) (fun _ _ _ h => h) (Or.inl ⟨by rfl, ?_⟩) ?_ ?_
          rotate_left
          · intro w'
            go_simp
            with_reducible rfl
          rotate_left
          · simp only [Act.put, List.setIfInBounds_toArray, List.set_cons_zero, List.set_cons_succ, i64_w, i32_w]
            rfl
          refine pure_ (i := 11) (N := (some 91)) (v := ?_) (a' := ?_) #[true, true, true, true, true, true, true, true, true, true, true, true, false, false, false, false, false, false, false, false, false, false, false, false, false, false, false, false] rfl rfl (any_of HT_.out (by kernel_rfl)) (fun _ _ _ h => h) (Or.inl ⟨by rfl, ?_⟩) ?_ ?_
          rotate_left
          · intro w'
            go_simp
            with_reducible rfl
          rotate_left
          · simp only [Act.put, List.setIfInBounds_toArray, List.set_cons_zero, List.set_cons_succ, i64_w, i32_w]
            rfl
          refine pure_ (i := 12) (N := (some 92)) (v := ?_) (a' := ?_) #[true, true, true, true, true, true, true, true, true, true, true, true, true, false, false, false, false, false, false, false, false, false, false, false, false, false, false, false] rfl rfl (any_of HT_.out (by kernel_rfl)) (fun _ _ _ h => h) (Or.inl ⟨by rfl, ?_⟩) ?_ ?_
          rotate_left
          · intro w'
            go_simp
            with_reducible rfl
          rotate_left
          · simp only [Act.put, List.setIfInBounds_toArray, List.set_cons_zero, List.set_cons_succ, i64_w, i32_w]
            rfl
          refine pure_ (i := 14) (N := (some 94)) (v := ?_) (a' := ?_) #[true, true, true, true, true, true, true, true, true, true, true, true, true, false, true, false, false, false, false, false, false, false, false, false, false, false, false, false] rfl rfl (any_of HT_.out (by kernel_rfl)) (fun _ _ _ h => h) (Or.inl ⟨by rfl, ?_⟩) ?_ ?_
          rotate_left
          · intro w'
            go_simp
            with_reducible rfl
          rotate_left
          · simp only [Act.put, List.setIfInBounds_toArray, List.set_cons_zero, List.set_cons_succ, i64_w, i32_w]
            rfl
          refine one_ (i := 13) (N := (some 93)) #[true, true, true, true, true, true, true, true, true, true, true, true, true, true, true, false, false, false, false, false, false, false, false, false, false, false, false, false] rfl rfl (one_of HT_.out (by kernel_rfl)) (by decide) (fun K9 hK => ?_)
          refine goes_ Try.func20 (by kernel_rfl) rfl #[.pointer (some ⟨C, 0, none⟩)] (by rfl) rfl rfl (by (try simp only [List.map_toArray, List.map_cons, List.map_nil]); first | done | rfl) ?_
          refine (cupto_calls C M f2 z w8 HF8.out.ca).mono ?_
          rintro e w9 ⟨rfl, rfl⟩
          refine ⟨_, rfl, ?_⟩

          refine hK.out _ _ (HCT.out w8 HF8.out.bel) (fun hHeld => ?_)
          clear hK K9
          refine norm_ (a' := ?_) ?_ ?_
          rotate_left
          · show Act.put _ (some 93) _ = _
            simp only [Act.put, List.setIfInBounds_toArray, List.set_cons_zero, List.set_cons_succ]
            rfl
          refine pure_ (i := 15) (N := (some 95)) (v := .bool false) (a' := ?_) #[true, true, true, true, true, true, true, true, true, true, true, true, true, true, true, true, false, false, false, false, false, false, false, false, false, false, false, false] rfl rfl (any_of HT_.out (by kernel_rfl)) (fun _ _ _ h => h) (Or.inl ⟨by rfl, ?_⟩) ?_ ?_
          · intro w'
            first | (go_simp; done) | (go_simp; with_reducible rfl) | (go_simp; simp [*]; done) | (go_simp; simp; omega)
          rotate_left
          · simp only [Act.put, List.setIfInBounds_toArray, List.set_cons_zero, List.set_cons_succ, i64_w, i32_w]
            rfl
          refine pure_ (i := 16) (N := (some 96)) (v := ?_) (a' := ?_) #[true, true, true, true, true, true, true, true, true, true, true, true, true, true, true, true, true, false, false, false, false, false, false, false, false, false, false, false] rfl rfl (any_of HT_.out (by kernel_rfl)) (fun _ _ _ h => h) (Or.inl ⟨by rfl, ?_⟩) ?_ ?_
          rotate_left
          · intro w'
            go_simp
            with_reducible rfl
          rotate_left
          · simp only [Act.put, List.setIfInBounds_toArray, List.set_cons_zero, List.set_cons_succ, i64_w, i32_w]
            rfl
          refine pure_ (i := 17) (N := (some 97)) (v := ?_) (a' := ?_) #[true, true, true, true, true, true, true, true, true, true, true, true, true, true, true, true, true, true, false, false, false, false, false, false, false, false, false, false] rfl rfl (any_of HT_.out (by kernel_rfl)) (fun _ _ _ h => h) (Or.inl ⟨by rfl, ?_⟩) ?_ ?_
          rotate_left
          · intro w'
            go_simp
            with_reducible rfl
          rotate_left
          · simp only [Act.put, List.setIfInBounds_toArray, List.set_cons_zero, List.set_cons_succ, i64_w, i32_w]
            rfl
          refine pure_ (i := 18) (N := (some 98)) (v := ?_) (a' := ?_) #[true, true, true, true, true, true, true, true, true, true, true, true, true, true, true, true, true, true, true, false, false, false, false, false, false, false, false, false] rfl rfl (any_of HT_.out (by kernel_rfl)) (fun _ _ _ h => h) (Or.inl ⟨by rfl, ?_⟩) ?_ ?_
          rotate_left
          · intro w'
            go_simp
            with_reducible rfl
          rotate_left
          · simp only [Act.put, List.setIfInBounds_toArray, List.set_cons_zero, List.set_cons_succ, i64_w, i32_w]
            rfl
          refine pure_ (i := 20) (N := (some 100)) (v := ?_) (a' := ?_) #[true, true, true, true, true, true, true, true, true, true, true, true, true, true, true, true, true, true, true, false, true, false, false, false, false, false, false, false] rfl rfl (any_of HT_.out (by kernel_rfl)) (fun _ _ _ h => h) (Or.inl ⟨by rfl, ?_⟩) ?_ ?_
          rotate_left
          · intro w'
            go_simp
            with_reducible rfl
          rotate_left
          · simp only [Act.put, List.setIfInBounds_toArray, List.set_cons_zero, List.set_cons_succ, i64_w, i32_w]
            rfl
          refine pure_ (i := 21) (N := (some 101)) (v := ?_) (a' := ?_) #[true, true, true, true, true, true, true, true, true, true, true, true, true, true, true, true, true, true, true, false, true, true, false, false, false, false, false, false] rfl rfl (any_of HT_.out (by kernel_rfl)) (fun _ _ _ h => h) (Or.inl ⟨by rfl, ?_⟩) ?_ ?_
          rotate_left
          · intro w'
            go_simp
            with_reducible rfl
          rotate_left
          · simp only [Act.put, List.setIfInBounds_toArray, List.set_cons_zero, List.set_cons_succ, i64_w, i32_w]
            rfl
          refine pure_ (i := 22) (N := (some 102)) (v := ?_) (a' := ?_) #[true, true, true, true, true, true, true, true, true, true, true, true, true, true, true, true, true, true, true, false, true, true, true, false, false, false, false, false] rfl rfl (any_of HT_.out (by kernel_rfl)) (fun _ _ _ h => h) (Or.inl ⟨by rfl, ?_⟩) ?_ ?_
          rotate_left
          · intro w'
            go_simp
            with_reducible rfl
          rotate_left
          · simp only [Act.put, List.setIfInBounds_toArray, List.set_cons_zero, List.set_cons_succ, i64_w, i32_w]
            rfl
          refine take_ (i := 23) (N := (some 103)) (v := ?_) (a' := ?_) #[true, true, true, true, true, true, true, true, true, true, true, true, true, true, true, true, true, true, true, false, true, true, true, true, false, false, false, false] rfl rfl (take_ofW HT_.out HW_.out (by kernel_rfl)) (fun _ _ _ h => h) (Or.inl ⟨by rfl, ?_⟩) hHeld ?_ ?_
          rotate_left
          · rintro w' s1
            go_simp
            with_reducible rfl
          rotate_left
          · simp only [Act.put, List.setIfInBounds_toArray, List.set_cons_zero, List.set_cons_succ, i64_w, i32_w]
            rfl
          refine one_ (i := 19) (N := (some 99)) #[true, true, true, true, true, true, true, true, true, true, true, true, true, true, true, true, true, true, true, true, true, true, true, true, false, false, false, false] rfl rfl (one_of HT_.out (by kernel_rfl)) (by decide) (fun K9 hK => ?_)
          refine goes_ Try.func19 (by kernel_rfl) rfl #[.pointer (some ⟨C, 0, none⟩), .string { data := #[] }] (by rfl) rfl rfl (by (try simp only [List.map_toArray, List.map_cons, List.map_nil]); first | done | rfl) ?_
          refine (entries_calls C M (320 * (j + 1 + 1)) f2 z { data := #[] } w8 HF8.out.ca HF8.out.fb.bnd (by omega)).mono ?_
          rintro e w9 ⟨A9, c9, k9, rfl, hk9, hcx, hlx, hC9, hb9⟩
          refine ⟨_, rfl, ?_⟩
          have HF9 : Aside (UI L B0 w3 w9 C M f2 z (320 * (j + 1 + 1))) := ⟨HF8.out.below hb9⟩
          have hq1 := ents_eq HU2.out.2.2.2.2 HU2.out.2.2.2.1 hk9
          rw [show (ByteArray.mk #[]) = ({ data := #[] } : ByteArray) from rfl] at hq1
          rw [hq1] at hcx hlx hC9 ⊢
          rw [HEN.out.2.2] at hcx hlx hC9 ⊢
          have HEN1 := Aside.mk (And.intro hcx hC9)
          clear hcx hlx hC9 hk9 hb9 hq1
          refine hK.out _ _ (HCT.out w9 HF9.out.bel) (fun hHeld => ?_)
          clear hK K9
          refine norm_ (a' := ?_) ?_ ?_
          rotate_left
          · show Act.put _ (some 99) _ = _
            simp only [Act.put, List.setIfInBounds_toArray, List.set_cons_zero, List.set_cons_succ]
            rfl
          refine one_ (i := 24) (N := (some 104)) #[true, true, true, true, true, true, true, true, true, true, true, true, true, true, true, true, true, true, true, true, true, true, true, true, true, false, false, false] rfl rfl (one_of HT_.out (by kernel_rfl)) (by decide) (fun K9 hK => ?_)
          refine goes_ Try.func25 (by kernel_rfl) rfl #[.pointer (some ⟨T, 0, none⟩), .string { data := #[] }] (by rfl) rfl rfl (by (try simp only [List.map_toArray, List.map_cons, List.map_nil]); first | done | rfl) ?_
          refine (HEN.out.1 w9 HF9.out.bel).mono ?_
          rintro e w10 ⟨A10, c10, rfl, hc10, hC10, hA10, hb10⟩
          refine ⟨_, rfl, ?_⟩
          have HFA : Aside (UI L B0 w3 w10 C M f2 z (320 * (j + 1 + 1))) := ⟨HF9.out.below hb10⟩
          have HEN2 : Aside (tz ≤ c9 ∧ k46.C w10 A9 tz (tlsM Z.t) ∧ tz ≤ c10 ∧ k46.C w10 A10 tz (tlsM Z.t)) := ⟨HEN1.out.1, Kd.C_below HEN1.out.2 hb10, hc10, hC10⟩
          clear hc10 hC10 hA10 hb10
          refine hK.out _ _ (HCT.out w10 HFA.out.bel) (fun hHeld => ?_)
          clear hK K9
          refine norm_ (a' := ?_) ?_ ?_
          rotate_left
          · show Act.put _ (some 104) _ = _
            simp only [Act.put, List.setIfInBounds_toArray, List.set_cons_zero, List.set_cons_succ]
            rfl
          refine one_ (i := 25) (N := (some 105)) #[true, true, true, true, true, true, true, true, true, true, true, true, true, true, true, true, true, true, true, true, true, true, true, true, true, true, false, false] rfl rfl (one_of HT_.out (by kernel_rfl)) (by decide) (fun K9 hK => ?_)
          refine goes_ Try.func21 (by kernel_rfl) rfl #[.slice A9 tz c9, .slice A10 tz c10] (by rfl) rfl rfl (by (try simp only [List.map_toArray, List.map_cons, List.map_nil]); first | done | rfl) ?_
          refine (HEN.out.2.1 w10 A9 c9 A10 c10 HEN2.out.2.1 HEN2.out.1 HEN2.out.2.2.2 HEN2.out.2.2.1).mono ?_
          rintro e w11 ⟨rfl, hb⟩
          refine ⟨_, rfl, ?_⟩
          have HFB : Aside (UI L B0 w3 w11 C M f2 z (320 * (j + 1 + 1))) := ⟨HFA.out.below hb⟩
          clear hb
          refine hK.out _ _ (HCT.out w11 HFB.out.bel) (fun hHeld => ?_)
          clear hK K9
          refine norm_ (a' := ?_) ?_ ?_
          rotate_left
          · show Act.put _ (some 105) _ = _
            simp only [Act.put, List.setIfInBounds_toArray, List.set_cons_zero, List.set_cons_succ]
            rfl
          refine pure_ (i := 26) (N := (some 106)) (v := .bool false) (a' := ?_) #[true, true, true, true, true, true, true, true, true, true, true, true, true, true, true, true, true, true, true, true, true, true, true, true, true, true, true, false] rfl rfl (any_of HT_.out (by kernel_rfl)) (fun _ _ _ h => h) (Or.inl ⟨by rfl, ?_⟩) ?_ ?_
          · intro w'
            first | (go_simp; done) | (go_simp; with_reducible rfl) | (go_simp; simp [*]; done) | (go_simp; simp; omega)
          rotate_left
          · simp only [Act.put, List.setIfInBounds_toArray, List.set_cons_zero, List.set_cons_succ, i64_w, i32_w]
            rfl
          refine pure_ (i := 27) (N := (some 107)) (v := ?_) (a' := ?_) #[true, true, true, true, true, true, true, true, true, true, true, true, true, true, true, true, true, true, true, true, true, true, true, true, true, true, true, true] rfl rfl (any_of HT_.out (by kernel_rfl)) (fun _ _ _ h => h) (Or.inl ⟨by rfl, ?_⟩) ?_ ?_
          rotate_left
          · intro w'
            go_simp
            with_reducible rfl
          rotate_left
          · simp only [Act.put, List.setIfInBounds_toArray, List.set_cons_zero, List.set_cons_succ, i64_w, i32_w]
            rfl
          refine done_ (done_of HT_.out (by kernel_rfl)) ?_
          clear HT_ HW_ hHeld
          clear HEN HEN1 HEN2 HD H7 HWT HF8 HF9 HFA
          go_wp2_with fail
          go_roundw
          case rel => exact ⟨j + 1, z, by omega, by go_num, rfl, hzl, ⟨f2, HFB.out⟩⟩
          case measure => simp [intOf]; omega
        · by_cases hjs2 : j = s
          · have hnl : ¬ (j : Int) < (s : Int) := by omega
            obtain ⟨dd, hdd⟩ : ∃ d, ll - 1 - i = d := ⟨_, rfl⟩
            have hddl : dd < ll - i := by omega
            obtain ⟨z, hz⟩ : ∃ z, i + dd = z := ⟨_, rfl⟩
            have hY : L[i]? = some (L[i]'(by rw [HLL.out]; exact hil)) := List.getElem?_eq_getElem _
            obtain ⟨Y, hYe⟩ : ∃ Y, L[i]'(by rw [HLL.out]; exact hil) = Y := ⟨_, rfl⟩
            rw [hYe] at hY
            have hZl : i + dd < L.length := by rw [HLL.out]; omega
            have hZ : L[i + dd]? = some (L[i + dd]'hZl) := List.getElem?_eq_getElem _
            obtain ⟨Z, hZe⟩ : ∃ Z, L[i + dd]'hZl = Z := ⟨_, rfl⟩
            rw [hZe] at hZ
            obtain ⟨adQ, T, heQ, qT, hT⟩ := H3.out.1.at_ hZ
            cases heQ
            obtain ⟨r1, r2, hw, r3, r4⟩ := HCR.out.at_ _ _ hZ
            obtain ⟨v1, v2, -, -, -, v6⟩ := watch_told HCR.out (by rw [HLL.out]; omega) hY hZ (by omega) HI.out.know
            obtain ⟨v7, v8, v9⟩ := v6 rfl HI.out.all
            obtain ⟨vE1, vE2⟩ := since_few hn40 r4 (hap_ev HCR.out _ Z hZ) ((i : Int) + 1)
            have hsn := fun W (hW : Below B0 w3 W) => since_calls T Z ((i : Int) + 1) W (hT.below (by rw [H3.out.2.2]; exact hW)) (by omega) (by rw [r1]; omega)
            rw [v1] at hsn
            obtain ⟨E, hE⟩ : ∃ E, (sinceM Z ((i : Int) + 1)).1 = E := ⟨_, rfl⟩
            rw [hE] at v2 v7 v8 v9 vE1 vE2 hsn
            have vfb := watch_fb (u := i) (fr := (i : Int) + 1) (rev := ((i + dd : Nat) : Int)) HI.out.fb vE1 vE2
            obtain ⟨P, hP⟩ : ∃ P, watchM f i ((i : Int) + 1) ((i + dd : Nat) : Int) E = P := ⟨_, rfl⟩
            rw [hP] at v2 v7 v8 v9 vfb
            obtain ⟨⟨f2, u2⟩, z2⟩ := P
            dsimp only at v2 v7 v8 v9 vfb
            subst v7
            subst v8
            rw [hz] at v2 v9 hP qT
            have HU2 : Aside (Know L f2 z ∧ (∀ k, asofM f2 z k = z) ∧ FB f2 (320 * (j + 1 + 1)) ∧ (∀ k, getM f2 k = Shf.get k Z.t) ∧ WF Z) := ⟨v2.know, v9, by rw [show 320 * (j + 1 + 1) = 320 * (j + 1) + 320 by omega]; exact vfb, fun k => know_get v2.know v9 (by rw [← hz]; exact hZ) k, hw⟩
            have HCT : Aside (∀ W, Below B0 w3 W → W.cell? (adT.add z) = some (.pointer (some ⟨T, 0, none⟩))) := ⟨fun W hW => by rw [← H3.out.2.2] at hW; exact (hW.cell (cell_lt' qT)).trans qT⟩
            have htz : (tlsM Z.t).length ≤ 320 := by unfold tlsM; rw [List.length_map, Shf.ord_len]; omega
            obtain ⟨tz, htze⟩ : ∃ t, (tlsM Z.t).length = t := ⟨_, rfl⟩
            have htl := fun W (hW : Below B0 w3 W) => tlist_calls T Z W (hT.below (by rw [H3.out.2.2]; exact hW)) (by omega)
            have hen := fun v A1 c1 A2 c2 h1 h2 h3 h4 => (batonref12_Entries.calls ((tlsM Z.t).length + 1) A1 c1 (tlsM Z.t) A2 c2 (tlsM Z.t) true v h1 h2 h3 h4 (entries_refl (tlsM Z.t) (by omega))).mono fun e w1 (h : e = .returned (.bool true) ∧ Drawn0 v w1) => (show e = .returned (.bool true) ∧ Below v.heap.size v w1 from ⟨h.1, by obtain ⟨q, rfl⟩ := drawn_fr h.2; exact pw_below_drewN (Below.refl _ _) q⟩)
            rw [htze] at htl hen htz
            have HEN := Aside.mk (And.intro htl (And.intro hen htze))
            have HSN := Aside.mk (And.intro hsn (And.intro hP (And.intro vE1 vE2)))
            have hzl : z < ll := by omega
            have q0 := HCT.out wr HI.out.bel
            have hzl2 : z = lz := by omega
            clear hdd
            subst hzl2
            clear v1 v2 v9 vfb vE1 vE2 hsn hP hE hYe hZe hY hZ hZl hT hw r1 r2 r3 r4 qT htze htl hen hz
            go_wp2_with fail
            refine (HSN.out.1 wr HI.out.bel).mono ?_
            rintro e w7 ⟨V, rfl, hR7, hb7⟩
            have hA7 := hR7.1
            obtain ⟨A7, c7, rfl, hc7, hC7⟩ := Kd.R_reads hR7
            have hwt := watch_calls C M f i ((i : Int) + 1) z A7 c7 E w7 (HI.out.ca.below hb7) hC7 hc7 (by have := HSN.out.2.2.1; omega) HSN.out.2.2.2 (by omega) (fun ad e => by
              subst e
              have h1 := hA7 ad.block rfl
              have h2 := HI.out.ca.ltC
              have h3 := HI.out.ca.ltM
              constructor <;> omega)
            rw [HSN.out.2.1] at hwt
            obtain ⟨ne, hne⟩ : ∃ k, E.length = k := ⟨_, rfl⟩
            rw [hne] at hwt hc7 ⊢
            have H7 := Aside.mk (HI.out.below hb7)
            have HWT : Aside (∀ W, W = w7.drew → Calls Try.prog 27 #[.pointer (some ⟨C, 0, none⟩), .int .i64 ((i : Int) + 1), .int .i64 z, .slice A7 ne c7] W fun e w' => e = .returned (.int .i64 0) ∧ CA w' C M f2 z ∧ Fr (fun k => k = C ∨ k = M) w7.drew w') := ⟨by
              have hbd : Below w7.heap.size w7 w7.drew := below_drew1 (Below.refl _ _)
              have hwt2 := watch_calls C M f i ((i : Int) + 1) z A7 c7 E w7.drew ((HI.out.ca.below hb7).below hbd) (Kd.C_below hC7 hbd) (by rw [hne]; exact hc7) (by have := HSN.out.2.2.1; omega) HSN.out.2.2.2 (by omega) (fun ad e => by
                subst e
                have h1 := hA7 ad.block rfl
                have h2 := HI.out.ca.ltC
                have h3 := HI.out.ca.ltM
                constructor <;> omega)
              rw [HSN.out.2.1, hne] at hwt2
              rintro W rfl
              exact hwt2⟩
            have HD : Aside (UI L B0 w3 w7.drew C M f i (320 * (j + 1))) := ⟨H7.out.below (below_drew1 (Below.refl _ _))⟩
            clear hR7 hb7 hA7 hc7 hC7 hne hwt HI q0 HSN
            go_upto_region 16 with fail
            refine start_ (n := 28) (S := (fun w' => w'.cell? (adT.add z) = some (.pointer (some ⟨T, 0, none⟩)))) (ds := []) #[false, false, false, false, false, false, false, false, false, false, false, false, false, false, false, false, false, false, false, false, false, false, false, false, false, false, false, false] (by kernel_rfl) rfl rfl (HCT.out w7.drew HD.out.bel) (fun hHeld => ?_); refine with_tabW uw16_tab uw16_bits (fun HT_ HW_ => ?_)
            refine pure_ (i := 0) (N := (some 80)) (v := ?_) (a' := ?_) #[true, false, false, false, false, false, false, false, false, false, false, false, false, false, false, false, false, false, false, false, false, false, false, false, false, false, false, false] rfl rfl (any_of HT_.out (by kernel_rfl)) (fun _ _ _ h => h) (Or.inl ⟨by rfl, ?_⟩) ?_ ?_
            rotate_left
            · intro w'
              go_simp
              with_reducible rfl
            rotate_left
            · simp only [Act.put, List.setIfInBounds_toArray, List.set_cons_zero, List.set_cons_succ, i64_w, i32_w]
              rfl
            refine pure_ (i := 1) (N := (some 81)) (v := .bool false) (a' := ?_) #[true, true, false, false, false, false, false, false, false, false, false, false, false, false, false, false, false, false, false, false, false, false, false, false, false, false, false, false] rfl rfl (any_of HT_.out (by kernel_rfl)) (fun _ _ _ h => h) (Or.inl ⟨by rfl, ?_⟩) ?_ ?_
            · intro w'
              first | (go_simp; done) | (go_simp; with_reducible rfl) | (go_simp; simp [*]; done) | (go_simp; simp; omega)
            rotate_left
            · simp only [Act.put, List.setIfInBounds_toArray, List.set_cons_zero, List.set_cons_succ, i64_w, i32_w]
              rfl
            refine pure_ (i := 2) (N := (some 82)) (v := ?_) (a' := ?_) #[true, true, true, false, false, false, false, false, false, false, false, false, false, false, false, false, false, false, false, false, false, false, false, false, false, false, false, false] rfl rfl (any_of HT_.out (by kernel_rfl)) (fun _ _ _ h => h) (Or.inl ⟨by rfl, ?_⟩) ?_ ?_
            rotate_left
            · intro w'
              go_simp
              with_reducible rfl
            rotate_left
            · simp only [Act.put, List.setIfInBounds_toArray, List.set_cons_zero, List.set_cons_succ, i64_w, i32_w]
              rfl
            refine pure_ (i := 3) (N := (some 83)) (v := ?_) (a' := ?_) #[true, true, true, true, false, false, false, false, false, false, false, false, false, false, false, false, false, false, false, false, false, false, false, false, false, false, false, false] rfl rfl (any_of HT_.out (by kernel_rfl)) (fun _ _ _ h => h) (Or.inl ⟨by rfl, ?_⟩) ?_ ?_
            rotate_left
            · intro w'
              go_simp
              with_reducible rfl
            rotate_left
            · simp only [Act.put, List.setIfInBounds_toArray, List.set_cons_zero, List.set_cons_succ, i64_w, i32_w]
              rfl
            refine pure_ (i := 4) (N := (some 84)) (v := ?_) (a' := ?_) #[true, true, true, true, true, false, false, false, false, false, false, false, false, false, false, false, false, false, false, false, false, false, false, false, false, false, false, false] rfl rfl (any_of HT_.out (by kernel_rfl)) (fun _ _ _ h => h) (Or.inl ⟨by rfl, ?_⟩) ?_ ?_
            rotate_left
            · intro w'
              go_simp
              with_reducible rfl
            rotate_left
            · simp only [Act.put, List.setIfInBounds_toArray, List.set_cons_zero, List.set_cons_succ, i64_w, i32_w]
              rfl
            refine pure_ (i := 5) (N := (some 85)) (v := .int .i64 ((i : Int) + 1)) (a' := ?_) #[true, true, true, true, true, true, false, false, false, false, false, false, false, false, false, false, false, false, false, false, false, false, false, false, false, false, false, false] rfl rfl (any_of HT_.out (by kernel_rfl)) (fun _ _ _ h => h) (Or.inl ⟨by rfl, ?_⟩) ?_ ?_
            · intro w'
              first | (go_simp; with_reducible rfl) | (go_simp; rw [show wrap64 ((i : Int) + 1) = (i : Int) + 1 from by unfold wrap64; omega]) | (go_simp; rw [IntKind.wrap_i64]; omega)
            rotate_left
            · simp only [Act.put, List.setIfInBounds_toArray, List.set_cons_zero, List.set_cons_succ, i64_w, i32_w]
              rfl
            refine pure_ (i := 6) (N := (some 86)) (v := ?_) (a' := ?_) #[true, true, true, true, true, true, true, false, false, false, false, false, false, false, false, false, false, false, false, false, false, false, false, false, false, false, false, false] rfl rfl (any_of HT_.out (by kernel_rfl)) (fun _ _ _ h => h) (Or.inl ⟨by rfl, ?_⟩) ?_ ?_
            rotate_left
            · intro w'
              go_simp
              with_reducible rfl
            rotate_left
            · simp only [Act.put, List.setIfInBounds_toArray, List.set_cons_zero, List.set_cons_succ, i64_w, i32_w]
              rfl
            refine pure_ (i := 7) (N := (some 87)) (v := ?_) (a' := ?_) #[true, true, true, true, true, true, true, true, false, false, false, false, false, false, false, false, false, false, false, false, false, false, false, false, false, false, false, false] rfl rfl (any_of HT_.out (by kernel_rfl)) (fun _ _ _ h => h) (Or.inl ⟨by rfl, ?_⟩) ?_ ?_
            rotate_left
            · intro w'
              go_simp
              with_reducible rfl
            rotate_left
            · simp only [Act.put, List.setIfInBounds_toArray, List.set_cons_zero, List.set_cons_succ, i64_w, i32_w]
              rfl
            refine one_ (i := 8) (N := (some 88)) #[true, true, true, true, true, true, true, true, true, false, false, false, false, false, false, false, false, false, false, false, false, false, false, false, false, false, false, false] rfl rfl (one_of HT_.out (by kernel_rfl)) (by decide) (fun K9 hK => ?_)
            refine goes_ Try.func27 (by kernel_rfl) rfl #[.pointer (some ⟨C, 0, none⟩), .int .i64 ((i : Int) + 1), .int .i64 z, .slice A7 ne c7] (by rfl) rfl rfl (by (try simp only [List.map_toArray, List.map_cons, List.map_nil]); first | done | rfl) ?_
            refine (HWT.out w7.drew rfl).mono ?_
            rintro e w8 ⟨rfl, hc8, hf8⟩
            refine ⟨_, rfl, ?_⟩
            have HF8 : Aside (UI L B0 w3 w8 C M f2 z (320 * (j + 1 + 1))) := ⟨⟨hc8, HU2.out.1, HU2.out.2.1, HU2.out.2.2.1, HD.out.bel.trans (hf8.below HD.out.size (fun k hk => by have := HCM.out; omega)), Nat.le_trans HD.out.size hf8.size⟩⟩
            clear hc8 hf8
            refine hK.out _ _ (HCT.out w8 HF8.out.bel) (fun hHeld => ?_)
            clear hK K9
            refine norm_ (a' := ?_) ?_ ?_
            rotate_left
            · show Act.put _ (some 88) _ = _
              simp only [Act.put, List.setIfInBounds_toArray, List.set_cons_zero, List.set_cons_succ]
              rfl
            refine pure_ (i := 9) (N := (some 89)) (v := .bool false) (a' := ?_) #[true, true, true, true, true, true, true, true, true, true, false, false, false, false, false, false, false, false, false, false, false, false, false, false, false, false, false, false] rfl rfl (any_of HT_.out (by kernel_rfl)) (fun _ _ _ h => h) (Or.inl ⟨by rfl, ?_⟩) ?_ ?_
            · intro w'
              first | (go_simp; done) | (go_simp; with_reducible rfl) | (go_simp; simp [*]; done) | (go_simp; simp; omega)
            rotate_left
            · simp only [Act.put, List.setIfInBounds_toArray, List.set_cons_zero, List.set_cons_succ, i64_w, i32_w]
              rfl
            refine pure_ (i := 10) (N := (some 90)) (v := ?_) (a' := ?_) #[true, true, true, true, true, true, true, true, true, true, true, false, false, false, false, false, false, false, false, false, false, false, false, false, false, false, false, false] rfl rfl (any_of HT_.out (by kernel_rfl)) (fun _ _ _ h => h) (Or.inl ⟨by rfl, ?_⟩) ?_ ?_
            rotate_left
            · intro w'
              go_simp
              with_reducible rfl
            rotate_left
            · simp only [Act.put, List.setIfInBounds_toArray, List.set_cons_zero, List.set_cons_succ, i64_w, i32_w]
              rfl
            refine pure_ (i := 11) (N := (some 91)) (v := ?_) (a' := ?_) #[true, true, true, true, true, true, true, true, true, true, true, true, false, false, false, false, false, false, false, false, false, false, false, false, false, false, false, false] rfl rfl (any_of HT_.out (by kernel_rfl)) (fun _ _ _ h => h) (Or.inl ⟨by rfl, ?_⟩) ?_ ?_
            rotate_left
            · intro w'
              go_simp
              with_reducible rfl
            rotate_left
            · simp only [Act.put, List.setIfInBounds_toArray, List.set_cons_zero, List.set_cons_succ, i64_w, i32_w]
              rfl
            refine pure_ (i := 12) (N := (some 92)) (v := ?_) (a' := ?_) #[true, true, true, true, true, true, true, true, true, true, true, true, true, false, false, false, false, false, false, false, false, false, false, false, false, false, false, false] rfl rfl (any_of HT_.out (by kernel_rfl)) (fun _ _ _ h => h) (Or.inl ⟨by rfl, ?_⟩) ?_ ?_
            rotate_left
            · intro w'
              go_simp
              with_reducible rfl
            rotate_left
            · simp only [Act.put, List.setIfInBounds_toArray, List.set_cons_zero, List.set_cons_succ, i64_w, i32_w]
              rfl
            refine pure_ (i := 14) (N := (some 94)) (v := ?_) (a' := ?_) #[true, true, true, true, true, true, true, true, true, true, true, true, true, false, true, false, false, false, false, false, false, false, false, false, false, false, false, false] rfl rfl (any_of HT_.out (by kernel_rfl)) (fun _ _ _ h => h) (Or.inl ⟨by rfl, ?_⟩) ?_ ?_
            rotate_left
            · intro w'
              go_simp
              with_reducible rfl
            rotate_left
            · simp only [Act.put, List.setIfInBounds_toArray, List.set_cons_zero, List.set_cons_succ, i64_w, i32_w]
              rfl
            refine one_ (i := 13) (N := (some 93)) #[true, true, true, true, true, true, true, true, true, true, true, true, true, true, true, false, false, false, false, false, false, false, false, false, false, false, false, false] rfl rfl (one_of HT_.out (by kernel_rfl)) (by decide) (fun K9 hK => ?_)
            refine goes_ Try.func20 (by kernel_rfl) rfl #[.pointer (some ⟨C, 0, none⟩)] (by rfl) rfl rfl (by (try simp only [List.map_toArray, List.map_cons, List.map_nil]); first | done | rfl) ?_
            refine (cupto_calls C M f2 z w8 HF8.out.ca).mono ?_
            rintro e w9 ⟨rfl, rfl⟩
            refine ⟨_, rfl, ?_⟩

            refine hK.out _ _ (HCT.out w8 HF8.out.bel) (fun hHeld => ?_)
            clear hK K9
            refine norm_ (a' := ?_) ?_ ?_
            rotate_left
            · show Act.put _ (some 93) _ = _
              simp only [Act.put, List.setIfInBounds_toArray, List.set_cons_zero, List.set_cons_succ]
              rfl
            refine pure_ (i := 15) (N := (some 95)) (v := .bool false) (a' := ?_) #[true, true, true, true, true, true, true, true, true, true, true, true, true, true, true, true, false, false, false, false, false, false, false, false, false, false, false, false] rfl rfl (any_of HT_.out (by kernel_rfl)) (fun _ _ _ h => h) (Or.inl ⟨by rfl, ?_⟩) ?_ ?_
            · intro w'
              first | (go_simp; done) | (go_simp; with_reducible rfl) | (go_simp; simp [*]; done) | (go_simp; simp; omega)
            rotate_left
            · simp only [Act.put, List.setIfInBounds_toArray, List.set_cons_zero, List.set_cons_succ, i64_w, i32_w]
              rfl
            refine pure_ (i := 16) (N := (some 96)) (v := ?_) (a' := ?_) #[true, true, true, true, true, true, true, true, true, true, true, true, true, true, true, true, true, false, false, false, false, false, false, false, false, false, false, false] rfl rfl (any_of HT_.out (by kernel_rfl)) (fun _ _ _ h => h) (Or.inl ⟨by rfl, ?_⟩) ?_ ?_
            rotate_left
            · intro w'
              go_simp
              with_reducible rfl
            rotate_left
            · simp only [Act.put, List.setIfInBounds_toArray, List.set_cons_zero, List.set_cons_succ, i64_w, i32_w]
              rfl
            refine pure_ (i := 17) (N := (some 97)) (v := ?_) (a' := ?_) #[true, true, true, true, true, true, true, true, true, true, true, true, true, true, true, true, true, true, false, false, false, false, false, false, false, false, false, false] rfl rfl (any_of HT_.out (by kernel_rfl)) (fun _ _ _ h => h) (Or.inl ⟨by rfl, ?_⟩) ?_ ?_
            rotate_left
            · intro w'
              go_simp
              with_reducible rfl
            rotate_left
            · simp only [Act.put, List.setIfInBounds_toArray, List.set_cons_zero, List.set_cons_succ, i64_w, i32_w]
              rfl
            refine pure_ (i := 18) (N := (some 98)) (v := ?_) (a' := ?_) #[true, true, true, true, true, true, true, true, true, true, true, true, true, true, true, true, true, true, true, false, false, false, false, false, false, false, false, false] rfl rfl (any_of HT_.out (by kernel_rfl)) (fun _ _ _ h => h) (Or.inl ⟨by rfl, ?_⟩) ?_ ?_
            rotate_left
            · intro w'
              go_simp
              with_reducible rfl
            rotate_left
            · simp only [Act.put, List.setIfInBounds_toArray, List.set_cons_zero, List.set_cons_succ, i64_w, i32_w]
              rfl
            refine pure_ (i := 20) (N := (some 100)) (v := ?_) (a' := ?_) #[true, true, true, true, true, true, true, true, true, true, true, true, true, true, true, true, true, true, true, false, true, false, false, false, false, false, false, false] rfl rfl (any_of HT_.out (by kernel_rfl)) (fun _ _ _ h => h) (Or.inl ⟨by rfl, ?_⟩) ?_ ?_
            rotate_left
            · intro w'
              go_simp
              with_reducible rfl
            rotate_left
            · simp only [Act.put, List.setIfInBounds_toArray, List.set_cons_zero, List.set_cons_succ, i64_w, i32_w]
              rfl
            refine pure_ (i := 21) (N := (some 101)) (v := ?_) (a' := ?_) #[true, true, true, true, true, true, true, true, true, true, true, true, true, true, true, true, true, true, true, false, true, true, false, false, false, false, false, false] rfl rfl (any_of HT_.out (by kernel_rfl)) (fun _ _ _ h => h) (Or.inl ⟨by rfl, ?_⟩) ?_ ?_
            rotate_left
            · intro w'
              go_simp
              with_reducible rfl
            rotate_left
            · simp only [Act.put, List.setIfInBounds_toArray, List.set_cons_zero, List.set_cons_succ, i64_w, i32_w]
              rfl
            refine pure_ (i := 22) (N := (some 102)) (v := ?_) (a' := ?_) #[true, true, true, true, true, true, true, true, true, true, true, true, true, true, true, true, true, true, true, false, true, true, true, false, false, false, false, false] rfl rfl (any_of HT_.out (by kernel_rfl)) (fun _ _ _ h => h) (Or.inl ⟨by rfl, ?_⟩) ?_ ?_
            rotate_left
            · intro w'
              go_simp
              with_reducible rfl
            rotate_left
            · simp only [Act.put, List.setIfInBounds_toArray, List.set_cons_zero, List.set_cons_succ, i64_w, i32_w]
              rfl
            refine take_ (i := 23) (N := (some 103)) (v := ?_) (a' := ?_) #[true, true, true, true, true, true, true, true, true, true, true, true, true, true, true, true, true, true, true, false, true, true, true, true, false, false, false, false] rfl rfl (take_ofW HT_.out HW_.out (by kernel_rfl)) (fun _ _ _ h => h) (Or.inl ⟨by rfl, ?_⟩) hHeld ?_ ?_
            rotate_left
            · rintro w' s1
              go_simp
              with_reducible rfl
            rotate_left
            · simp only [Act.put, List.setIfInBounds_toArray, List.set_cons_zero, List.set_cons_succ, i64_w, i32_w]
              rfl
            refine one_ (i := 19) (N := (some 99)) #[true, true, true, true, true, true, true, true, true, true, true, true, true, true, true, true, true, true, true, true, true, true, true, true, false, false, false, false] rfl rfl (one_of HT_.out (by kernel_rfl)) (by decide) (fun K9 hK => ?_)
            refine goes_ Try.func19 (by kernel_rfl) rfl #[.pointer (some ⟨C, 0, none⟩), .string { data := #[] }] (by rfl) rfl rfl (by (try simp only [List.map_toArray, List.map_cons, List.map_nil]); first | done | rfl) ?_
            refine (entries_calls C M (320 * (j + 1 + 1)) f2 z { data := #[] } w8 HF8.out.ca HF8.out.fb.bnd (by omega)).mono ?_
            rintro e w9 ⟨A9, c9, k9, rfl, hk9, hcx, hlx, hC9, hb9⟩
            refine ⟨_, rfl, ?_⟩
            have HF9 : Aside (UI L B0 w3 w9 C M f2 z (320 * (j + 1 + 1))) := ⟨HF8.out.below hb9⟩
            have hq1 := ents_eq HU2.out.2.2.2.2 HU2.out.2.2.2.1 hk9
            rw [show (ByteArray.mk #[]) = ({ data := #[] } : ByteArray) from rfl] at hq1
            rw [hq1] at hcx hlx hC9 ⊢
            rw [HEN.out.2.2] at hcx hlx hC9 ⊢
            have HEN1 := Aside.mk (And.intro hcx hC9)
            clear hcx hlx hC9 hk9 hb9 hq1
            refine hK.out _ _ (HCT.out w9 HF9.out.bel) (fun hHeld => ?_)
            clear hK K9
            refine norm_ (a' := ?_) ?_ ?_
            rotate_left
            · show Act.put _ (some 99) _ = _
              simp only [Act.put, List.setIfInBounds_toArray, List.set_cons_zero, List.set_cons_succ]
              rfl
            refine one_ (i := 24) (N := (some 104)) #[true, true, true, true, true, true, true, true, true, true, true, true, true, true, true, true, true, true, true, true, true, true, true, true, true, false, false, false] rfl rfl (one_of HT_.out (by kernel_rfl)) (by decide) (fun K9 hK => ?_)
            refine goes_ Try.func25 (by kernel_rfl) rfl #[.pointer (some ⟨T, 0, none⟩), .string { data := #[] }] (by rfl) rfl rfl (by (try simp only [List.map_toArray, List.map_cons, List.map_nil]); first | done | rfl) ?_
            refine (HEN.out.1 w9 HF9.out.bel).mono ?_
            rintro e w10 ⟨A10, c10, rfl, hc10, hC10, hA10, hb10⟩
            refine ⟨_, rfl, ?_⟩
            have HFA : Aside (UI L B0 w3 w10 C M f2 z (320 * (j + 1 + 1))) := ⟨HF9.out.below hb10⟩
            have HEN2 : Aside (tz ≤ c9 ∧ k46.C w10 A9 tz (tlsM Z.t) ∧ tz ≤ c10 ∧ k46.C w10 A10 tz (tlsM Z.t)) := ⟨HEN1.out.1, Kd.C_below HEN1.out.2 hb10, hc10, hC10⟩
            clear hc10 hC10 hA10 hb10
            refine hK.out _ _ (HCT.out w10 HFA.out.bel) (fun hHeld => ?_)
            clear hK K9
            refine norm_ (a' := ?_) ?_ ?_
            rotate_left
            · show Act.put _ (some 104) _ = _
              simp only [Act.put, List.setIfInBounds_toArray, List.set_cons_zero, List.set_cons_succ]
              rfl
            refine one_ (i := 25) (N := (some 105)) #[true, true, true, true, true, true, true, true, true, true, true, true, true, true, true, true, true, true, true, true, true, true, true, true, true, true, false, false] rfl rfl (one_of HT_.out (by kernel_rfl)) (by decide) (fun K9 hK => ?_)
            refine goes_ Try.func21 (by kernel_rfl) rfl #[.slice A9 tz c9, .slice A10 tz c10] (by rfl) rfl rfl (by (try simp only [List.map_toArray, List.map_cons, List.map_nil]); first | done | rfl) ?_
            refine (HEN.out.2.1 w10 A9 c9 A10 c10 HEN2.out.2.1 HEN2.out.1 HEN2.out.2.2.2 HEN2.out.2.2.1).mono ?_
            rintro e w11 ⟨rfl, hb⟩
            refine ⟨_, rfl, ?_⟩
            have HFB : Aside (UI L B0 w3 w11 C M f2 z (320 * (j + 1 + 1))) := ⟨HFA.out.below hb⟩
            clear hb
            refine hK.out _ _ (HCT.out w11 HFB.out.bel) (fun hHeld => ?_)
            clear hK K9
            refine norm_ (a' := ?_) ?_ ?_
            rotate_left
            · show Act.put _ (some 105) _ = _
              simp only [Act.put, List.setIfInBounds_toArray, List.set_cons_zero, List.set_cons_succ]
              rfl
            refine pure_ (i := 26) (N := (some 106)) (v := .bool false) (a' := ?_) #[true, true, true, true, true, true, true, true, true, true, true, true, true, true, true, true, true, true, true, true, true, true, true, true, true, true, true, false] rfl rfl (any_of HT_.out (by kernel_rfl)) (fun _ _ _ h => h) (Or.inl ⟨by rfl, ?_⟩) ?_ ?_
            · intro w'
              first | (go_simp; done) | (go_simp; with_reducible rfl) | (go_simp; simp [*]; done) | (go_simp; simp; omega)
            rotate_left
            · simp only [Act.put, List.setIfInBounds_toArray, List.set_cons_zero, List.set_cons_succ, i64_w, i32_w]
              rfl
            refine pure_ (i := 27) (N := (some 107)) (v := ?_) (a' := ?_) #[true, true, true, true, true, true, true, true, true, true, true, true, true, true, true, true, true, true, true, true, true, true, true, true, true, true, true, true] rfl rfl (any_of HT_.out (by kernel_rfl)) (fun _ _ _ h => h) (Or.inl ⟨by rfl, ?_⟩) ?_ ?_
            rotate_left
            · intro w'
              go_simp
              with_reducible rfl
            rotate_left
            · simp only [Act.put, List.setIfInBounds_toArray, List.set_cons_zero, List.set_cons_succ, i64_w, i32_w]
              rfl
            refine done_ (done_of HT_.out (by kernel_rfl)) ?_
            clear HT_ HW_ hHeld
            clear HEN HEN1 HEN2 HD H7 HWT HF8 HF9 HFA
            go_wp2_with fail
            go_roundw
            case rel => exact ⟨j + 1, z, by omega, by go_num, rfl, hzl, ⟨f2, HFB.out⟩⟩
            case measure => simp [intOf]; omega
          · obtain rfl : j = s + 1 := by omega
            have HB9 : Aside (Below w.heap.size w wr) := ⟨H3.out.2.1.trans (by have h := HI.out.bel; rw [← H3.out.2.2] at h; exact h.mono H3.out.2.1.size)⟩
            clear HI
            go_wp2_with fail
            go_ret
            exact ⟨rfl, HB9.out⟩
theorem upto_walk (A : Option Addr) (c : Nat) (l : List S101) (a1 : Int) (S : Option Addr) (d : Nat) (st : List Int) {W : World} (g : Kd.C k101 W A l.length l) (hlc : l.length ≤ c) (ok : Open.okSl 48 ok101 l) (gs : (Kd.int .u8).C W S st.length st) (hld : st.length ≤ d) (ok2 : Open.okSl 1 (Open.okInt .u8) st) (w1 : (Lit.int .u8 a1).wf = true) :
    Calls Try.prog 5 #[.slice A l.length c, .int .u8 a1, .slice S st.length d] W fun e w' => e = .returned (.bool true) ∧ Below W.heap.size W w' :=
  cacheUpto_calls A S c d l a1 st W g hlc gs hld (txn_ok ok) (okU8 w1) (fun s hs => okU8 (ok2.2.2 s hs)) (by have := ok2.2.1; omega)
end Go.Proofs.Ytagkobpbhfkmdaa.C
