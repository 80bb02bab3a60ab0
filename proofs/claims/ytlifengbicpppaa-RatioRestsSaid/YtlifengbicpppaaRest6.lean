/- Part 6 of the texts for the claim RatioRests: Go functions of the program and of the document's answers, each with a proof that its calls come to a Lean function's answers, and plain laws about these. Joined by wip/merge.py of the claimant's repo out of its texts and of what the kit's print wrote for this claim. -/
import Derived.Test.YtlifengbicpppaaRest2
import Derived.Test.YtlifengbicpppaaRest5
set_option linter.unusedVariables false
set_option linter.unusedSimpArgs false
section
namespace Go.Proofs.Ytlifengbicpppaa.G
open Go.RowKit Go.Proofs.YtlifengbicpppaaW.PrintWords Go.Proofs.YtlifengbicpppaaW.PrintLast Go.Proofs.YtlifengbicpppaaW.PrintMore
attribute [local go_sem] max2_int min2_int max_two min_two max_three min_three max_four min_four   -- for this text's walks alone
set_option linter.unusedVariables false
set_option linter.unusedSimpArgs false
mutual
def postmarkref02_Sub.j0 : Nat → List Int → List Int → Bool → Option (List Int × Int)
  | 0, _, _, _ => none
  | k + 1, x0, x1, x25 => if x25 = true then (some (([] : List Int), 20)) else ((postmarkref02_Digits.f k x0).bind fun t388 => ((postmarkref02_Digits.f k x1).bind fun t391 => (postmarkref02_Sub.l0 k t388 t391 ([] : List Int) 0 0)))
def postmarkref02_Sub.l0 : Nat → List Int → List Int → List Int → Int → Int → Option (List Int × Int)
  | 0, _, _, _, _, _ => none
  | k + 1, x8, x9, x10, x11, x12 => if x12 < (x8.length : Int) then (if 0 ≤ x12 then (if x12 < (x9.length : Int) then (if (wrap64 ((wrap64 ((rd x8 x12) - x11)) - (rd x9 x12))) < 0 then (if x10.length < 17592186044416 then (postmarkref02_Sub.l0 k x8 x9 (x10 ++ [wrap64 ((wrap64 ((wrap64 ((rd x8 x12) - x11)) - (rd x9 x12))) + 256)]) 1 (wrap64 (x12 + 1))) else (none)) else (if x10.length < 17592186044416 then (postmarkref02_Sub.l0 k x8 x9 (x10 ++ [wrap64 ((wrap64 ((rd x8 x12) - x11)) - (rd x9 x12))]) 0 (wrap64 (x12 + 1))) else (none))) else (if (wrap64 ((rd x8 x12) - x11)) < 0 then (if x10.length < 17592186044416 then (postmarkref02_Sub.l0 k x8 x9 (x10 ++ [wrap64 ((wrap64 ((rd x8 x12) - x11)) + 256)]) 1 (wrap64 (x12 + 1))) else (none)) else (if x10.length < 17592186044416 then (postmarkref02_Sub.l0 k x8 x9 (x10 ++ [wrap64 ((rd x8 x12) - x11)]) 0 (wrap64 (x12 + 1))) else (none)))) else (none)) else ((postmarkref02_Cut.f k x10).bind fun bt394 => (some (bt394.1, bt394.2)))
end
def postmarkref02_Sub.f (k : Nat) (l0 : List Int) (l1 : List Int) : Option (List Int × Int) := (postmarkref02_May.f k l0 l1).bind fun t386 => ((postmarkref02_Cmp.f k l0 l1).bind fun t387 => (if t386 = true then (postmarkref02_Sub.j0 k l0 l1 (decide (t387 < 0))) else (postmarkref02_Sub.j0 k l0 l1 true)))
set_option maxHeartbeats 8000000 in
set_option maxRecDepth 100000 in
theorem postmarkref02_Sub.calls (k : Nat) (A0 : Option Addr) (c0 : Nat) (l0 : List Int) (A1 : Option Addr) (c1 : Nat) (l1 : List Int) (r1 : List Int) (r2 : Int) (w : World) (hr0 : Kd.C (Kd.int .u32) w A0 l0.length l0) (hc0 : l0.length ≤ c0) (hr1 : Kd.C (Kd.int .u32) w A1 l1.length l1) (hc1 : l1.length ≤ c1) (h : postmarkref02_Sub.f k l0 l1 = some (r1, r2)) :
    Calls Try.prog 91 #[.slice A0 l0.length c0, .slice A1 l1.length c1] w fun e w' => ∃ v0_ : Value, e = .returned (.tuple #[v0_, .int .i64 r2]) ∧ Kd.R (Kd.int .u32) 75 w' w.heap.size (fun _ => True) v0_ r1 ∧ Below w.heap.size w w' := by
  have HR0 := Aside0.mk hr0
  have HC0 := Aside0.mk hc0
  clear hr0 hc0
  have HR1 := Aside0.mk hr1
  have HC1 := Aside0.mk hc1
  clear hr1 hc1
  have HB := Aside0.mk (Below.refl w.heap.size w)
  have H : ((postmarkref02_May.f k l0 l1).bind fun t386 => ((postmarkref02_Cmp.f k l0 l1).bind fun t387 => (if t386 = true then (postmarkref02_Sub.j0 k l0 l1 (decide (t387 < 0))) else (postmarkref02_Sub.j0 k l0 l1 true)))) = some (r1, r2) := h
  clear h
  replace H := Option.bind_eq_some_iff.mp H
  obtain ⟨t386, A30, H⟩ := H
  replace H : ((postmarkref02_Cmp.f k l0 l1).bind fun t387 => (if t386 = true then (postmarkref02_Sub.j0 k l0 l1 (decide (t387 < 0))) else (postmarkref02_Sub.j0 k l0 l1 true))) = some (r1, r2) := H
  have A3 := Aside0.mk A30
  clear A30
  replace H := Option.bind_eq_some_iff.mp H
  obtain ⟨t387, A40, H⟩ := H
  replace H : (if t386 = true then (postmarkref02_Sub.j0 k l0 l1 (decide (t387 < 0))) else (postmarkref02_Sub.j0 k l0 l1 true)) = some (r1, r2) := H
  have A4 := Aside0.mk A40
  clear A40
  have HC5 := Aside0.mk H
  clear H
  go_enter Try.func91, Try.ntmps91
  go_upto_region 3 with (first | ((with_reducible refine gate_callee (f := 30) rfl ?_); refine goesL_ (some 16) rfl rfl Try.func30 (by kernel_rfl) rfl #[.slice A0 l0.length c0, .slice A1 l1.length c1] rfl (by (try simp only [List.map_toArray, List.map_cons, List.map_nil]); first | done | rfl | (simp only [List.length_drop, List.length_take]; rfl)) ?_; (with_reducible refine (postmarkref02_May.calls k _ _ l0 _ _ l1 t386 _ ?side1 ?side2 ?side3 ?side4 A3.out).mono ?_); (case side1 => repeat (first | exact HR0.out | (with_reducible refine Kd.C_alloc ?_ _) | (with_reducible refine Kd.C_drewN ?_ _) | (with_reducible refine Kd.C_drew ?_))); (case side2 => exact HC0.out); (case side3 => repeat (first | exact HR1.out | (with_reducible refine Kd.C_alloc ?_ _) | (with_reducible refine Kd.C_drewN ?_ _) | (with_reducible refine Kd.C_drew ?_))); (case side4 => exact HC1.out); rintro e w6 ⟨rfl, hb⟩; refine ⟨_, rfl, ?_⟩; have n0_ := Aside0.mk (below_step (by repeat (first | (with_reducible first | exact HB.out | apply below_alloc | apply pw_below_drewN | apply below_drew1) | exact HB.out)) hb); clear HB; have HB := n0_; clear n0_; (try clear hb); (try clear hb2); (try clear hk); (try clear hi)) | ((with_reducible refine gate_callee (f := 62) rfl ?_); refine goesL_ (some 19) rfl rfl Try.func62 (by kernel_rfl) rfl #[.slice A0 l0.length c0, .slice A1 l1.length c1] rfl (by (try simp only [List.map_toArray, List.map_cons, List.map_nil]); first | done | rfl | (simp only [List.length_drop, List.length_take]; rfl)) ?_; (with_reducible refine (postmarkref02_Cmp.calls k _ _ l0 _ _ l1 t387 _ ?side1 ?side2 ?side3 ?side4 A4.out).mono ?_); (case side1 => repeat (first | exact (Kd.C_below HR0.out HB.out) | (with_reducible refine Kd.C_alloc ?_ _) | (with_reducible refine Kd.C_drewN ?_ _) | (with_reducible refine Kd.C_drew ?_))); (case side2 => exact HC0.out); (case side3 => repeat (first | exact (Kd.C_below HR1.out HB.out) | (with_reducible refine Kd.C_alloc ?_ _) | (with_reducible refine Kd.C_drewN ?_ _) | (with_reducible refine Kd.C_drew ?_))); (case side4 => exact HC1.out); rintro e w7 ⟨rfl, hb⟩; refine ⟨_, rfl, ?_⟩; have n0_ := Aside0.mk (below_step (by repeat (first | (with_reducible first | exact HB.out | apply below_alloc | apply pw_below_drewN | apply below_drew1) | exact HB.out)) hb); clear HB; have HB := n0_; clear n0_; (try clear hb); (try clear hb2); (try clear hk); (try clear hi)))
  (try simp only [Act.put, List.setIfInBounds_toArray, List.set_cons_zero, List.set_cons_succ])
  go_cut [25] (fun v25 wc => ∃ (kq : Nat) (x25_4 : Bool), v25 = .bool x25_4 ∧ Aside0 (postmarkref02_Sub.j0 kq l0 l1 x25_4 = some (r1, r2)) ∧ Aside0 (kq ≤ k) ∧ Aside0 (Below w.heap.size w wc))
  case first =>
    have H := HC5.out
    clear HC5
    by_cases c8 : t386 = true
    · subst c8
      have H1 : (postmarkref02_Sub.j0 k l0 l1 (decide (t387 < 0))) = some (r1, r2) := by rw [if_pos rfl] at H; exact H
      clear H
      have H := H1
      clear H1
      have H' := Aside0.mk H
      clear H
      go_wp2
      go_meet
      case rel => exact ⟨_, (decide (t387 < 0)), (by first | rfl | (simp; done) | (simp [*]; done)), H', ⟨by first | omega | exact Nat.le_refl _⟩, ⟨by repeat (first | (with_reducible first | exact HB.out | apply below_alloc | apply pw_below_drewN | apply below_drew1) | exact HB.out)⟩⟩
    · replace c8 := Bool.eq_false_iff.mpr c8
      subst c8
      have H1 : (postmarkref02_Sub.j0 k l0 l1 true) = some (r1, r2) := by rw [if_neg (show ¬ (false = true) by decide)] at H; exact H
      clear H
      have H := H1
      clear H1
      have H' := Aside0.mk H
      clear H
      go_wp2
      go_meet
      case rel => exact ⟨_, (true), (by first | rfl | (simp; done) | (simp [*]; done)), H', ⟨by first | omega | exact Nat.le_refl _⟩, ⟨by repeat (first | (with_reducible first | exact HB.out | apply below_alloc | apply pw_below_drewN | apply below_drew1) | exact HB.out)⟩⟩
  case rest =>
    clear HC5
    try clear c1
    try clear p2
    try clear c3
    try clear c6
    try clear c8
    obtain ⟨kq, x25_4, rfl, HA, HJ4, HB⟩ := hcut
    cases kq with
    | zero => exact absurd HA.out (by simp [postmarkref02_Sub.j0])
    | succ kj4 =>
      have H := HA.out
      clear HA
      simp only [postmarkref02_Sub.j0] at H
      by_cases c9 : x25_4 = true
      · subst c9
        have H1 : (some (([] : List Int), 20)) = some (r1, r2) := by rw [if_pos rfl] at H; exact H
        clear H
        have H := H1
        clear H1
        simp only [Option.some.injEq, Prod.mk.injEq] at H
        obtain ⟨rfl, rfl⟩ := H
        go_wp2
        go_ret2
        exact ⟨_, by first | rfl | (simp [errW_none, errW_some] <;> rfl) | (simp [*, errW_none, errW_some] <;> rfl), by first | exact Kd.R_nil _ _ _ _ _ | exact Kd.N_nil _ _ _ _ _ | exact Kd.V_nil _ _ _ _ _ | exact Kd.Q_nil _ _ _ _ _ | exact Kd.S_nil _ _ _ _ _, by repeat (first | (with_reducible first | exact HB.out | apply below_alloc | apply pw_below_drewN | apply below_drew1) | exact HB.out)⟩
      · replace c9 := Bool.eq_false_iff.mpr c9
        subst c9
        have H1 : ((postmarkref02_Digits.f kj4 l0).bind fun t388 => ((postmarkref02_Digits.f kj4 l1).bind fun t391 => (postmarkref02_Sub.l0 kj4 t388 t391 ([] : List Int) 0 0))) = some (r1, r2) := by rw [if_neg (show ¬ (false = true) by decide)] at H; exact H
        clear H
        have H := H1
        clear H1
        replace H := Option.bind_eq_some_iff.mp H
        obtain ⟨t388, A100, H⟩ := H
        replace H : ((postmarkref02_Digits.f kj4 l1).bind fun t391 => (postmarkref02_Sub.l0 kj4 t388 t391 ([] : List Int) 0 0)) = some (r1, r2) := H
        have A10 := Aside0.mk A100
        clear A100
        replace H := Option.bind_eq_some_iff.mp H
        obtain ⟨t391, A110, H⟩ := H
        replace H : (postmarkref02_Sub.l0 kj4 t388 t391 ([] : List Int) 0 0) = some (r1, r2) := H
        have A11 := Aside0.mk A110
        clear A110
        have H' := Aside0.mk H
        clear H
        go_wp2_with (first | ((with_reducible refine gate_callee (f := 76) rfl ?_); refine goesL_ (some 27) rfl rfl Try.func76 (by kernel_rfl) rfl #[.slice A0 l0.length c0] rfl (by (try simp only [List.map_toArray, List.map_cons, List.map_nil]); first | done | rfl | (simp only [List.length_drop, List.length_take]; rfl)) ?_; (with_reducible refine (postmarkref02_Digits.calls kj4 _ _ l0 t388 _ ?side1 ?side2 A10.out).mono ?_); (case side1 => repeat (first | exact (Kd.C_below HR0.out HB.out) | (with_reducible refine Kd.C_alloc ?_ _) | (with_reducible refine Kd.C_drewN ?_ _) | (with_reducible refine Kd.C_drew ?_))); (case side2 => exact HC0.out); rintro e w12 ⟨v389, rfl, ho0, hb⟩; refine ⟨_, rfl, ?_⟩; have n0_ := Aside0.mk (Kd.R_lower ho0 (below_size (by repeat (first | (with_reducible first | exact HB.out | apply below_alloc | apply pw_below_drewN | apply below_drew1) | exact HB.out)))); have n1_ := Aside0.mk (below_step (by repeat (first | (with_reducible first | exact HB.out | apply below_alloc | apply pw_below_drewN | apply below_drew1) | exact HB.out)) hb); clear HB; have HO390 := n0_; have HB := n1_; clear n0_ n1_; (try clear hb); (try clear hb2); (try clear hk); (try clear hi); (try clear ho0)) | ((with_reducible refine gate_callee (f := 76) rfl ?_); refine goesL_ (some 29) rfl rfl Try.func76 (by kernel_rfl) rfl #[.slice A1 l1.length c1] rfl (by (try simp only [List.map_toArray, List.map_cons, List.map_nil]); first | done | rfl | (simp only [List.length_drop, List.length_take]; rfl)) ?_; (with_reducible refine (postmarkref02_Digits.calls kj4 _ _ l1 t391 _ ?side1 ?side2 A11.out).mono ?_); (case side1 => repeat (first | exact (Kd.C_below HR1.out HB.out) | (with_reducible refine Kd.C_alloc ?_ _) | (with_reducible refine Kd.C_drewN ?_ _) | (with_reducible refine Kd.C_drew ?_))); (case side2 => exact HC1.out); rintro e w13 ⟨v392, rfl, ho0, hb⟩; refine ⟨_, rfl, ?_⟩; have n0_ := Aside0.mk (Kd.R_elder' (by (with_reducible repeat (first | apply Kd.R_alloc | apply Kd.R_drewN | apply Kd.R_drew)); exact HO390.out) (Kd.R_base ho0) hb); have n1_ := Aside0.mk (Kd.R_lower (Kd.R_new' ho0 (Kd.R_lt (by (with_reducible repeat (first | apply Kd.R_alloc | apply Kd.R_drewN | apply Kd.R_drew)); exact HO390.out))) (below_size (by repeat (first | (with_reducible first | exact HB.out | apply below_alloc | apply pw_below_drewN | apply below_drew1) | exact HB.out)))); have n2_ := Aside0.mk (below_step (by repeat (first | (with_reducible first | exact HB.out | apply below_alloc | apply pw_below_drewN | apply below_drew1) | exact HB.out)) hb); clear HO390; clear HB; have HO390 := n0_; have HO393 := n1_; have HB := n2_; clear n0_ n1_ n2_; (try clear hb); (try clear hb2); (try clear hk); (try clear hi); (try clear ho0)))
        go_loopg [10, 11, 12] kj4 (fun kq v10 v11 v12 w' => ∃ (x10_2 : List Int) (x11_2 : Int) (x12_2 : Int), v11 = .int .i64 x11_2 ∧ v12 = .int .i64 x12_2 ∧ Aside0 (postmarkref02_Sub.l0 kq t388 t391 x10_2 x11_2 x12_2 = some (r1, r2)) ∧ Aside0 (kq ≤ kj4) ∧ Aside0 (Kd.R (Kd.int .i64) 3 w' w.heap.size (fun k_ => some k_ ≠ (v392 : Value).ownBlock ∧ some k_ ≠ (v10 : Value).ownBlock) v389 t388) ∧ Aside0 (Kd.R (Kd.int .i64) 3 w' w.heap.size (fun k_ => some k_ ≠ (v389 : Value).ownBlock ∧ some k_ ≠ (v10 : Value).ownBlock) v392 t391) ∧ Aside0 (Kd.R (Kd.int .i64) 3 w' w.heap.size (fun k_ => some k_ ≠ (v389 : Value).ownBlock ∧ some k_ ≠ (v392 : Value).ownBlock) v10 x10_2) ∧ Aside0 (Below w.heap.size w w'))
        case atStart => exact ⟨(([] : List Int)), (0), (0), (by first | rfl | (simp; done) | (simp [*]; done)), (by first | rfl | (simp; done) | (simp [*]; done)), H', ⟨Nat.le_refl _⟩, ⟨by (with_reducible repeat (first | apply Kd.R_alloc | apply Kd.R_drewN | apply Kd.R_drew)); exact Kd.R_mono HO390.out (fun _ hk => ⟨hk.2, (by simp [Value.ownBlock])⟩)⟩, ⟨by (with_reducible repeat (first | apply Kd.R_alloc | apply Kd.R_drewN | apply Kd.R_drew)); exact Kd.R_mono HO393.out (fun _ hk => ⟨hk.2, (by simp [Value.ownBlock])⟩)⟩, ⟨by first | exact Kd.R_nil _ _ _ _ _ | exact Kd.N_nil _ _ _ _ _ | exact Kd.V_nil _ _ _ _ _ | exact Kd.Q_nil _ _ _ _ _ | exact Kd.S_nil _ _ _ _ _⟩, ⟨by repeat (first | (with_reducible first | exact HB.out | apply below_alloc | apply pw_below_drewN | apply below_drew1) | exact HB.out)⟩⟩
        case round =>
          clear H'
          try clear c1
          try clear p2
          try clear c3
          try clear c6
          try clear c7
          try clear c8
          try clear c9
          try clear p2
          obtain ⟨x10_2, x11_2, x12_2, rfl, rfl, HA, HK2, HO_8, HO_9, HO_10, HB⟩ := hrel
          cases gk with
          | zero => exact absurd HA.out (by simp [postmarkref02_Sub.l0])
          | succ k2 =>
            have H := HA.out
            clear HA
            simp only [postmarkref02_Sub.l0] at H
            by_cases c14 : x12_2 < (t388.length : Int)
            · rw [if_pos c14] at H
              have c14b0 : decide (x12_2 < (t388.length : Int)) = true := decide_eq_true c14
              clear c14
              by_cases c15 : 0 ≤ x12_2
              · rw [if_pos c15] at H
                have c15b0 : decide (0 ≤ x12_2) = true := decide_eq_true c15
                clear c15
                by_cases c16 : x12_2 < (t391.length : Int)
                · rw [if_pos c16] at H
                  have c16b0 : decide (x12_2 < (t391.length : Int)) = true := decide_eq_true c16
                  clear c16
                  by_cases c17 : (wrap64 ((wrap64 ((rd t388 x12_2) - x11_2)) - (rd t391 x12_2))) < 0
                  · rw [if_pos c17] at H
                    have c17b0 : decide ((wrap64 ((wrap64 ((rd t388 x12_2) - x11_2)) - (rd t391 x12_2))) < 0) = true := decide_eq_true c17
                    clear c17
                    by_cases c18 : x10_2.length < 17592186044416
                    · rw [if_pos c18] at H
                      have LMc18 := Aside0.mk c18
                      clear c18
                      obtain ⟨y400, hy400⟩ : ∃ y_ : List Int, y_ = (x10_2 ++ [wrap64 ((wrap64 ((wrap64 ((rd t388 x12_2) - x11_2)) - (rd t391 x12_2))) + 256)]) := ⟨_, rfl⟩
                      replace H : (postmarkref02_Sub.l0 k2 t388 t391 y400 1 (wrap64 (x12_2 + 1))) = some (r1, r2) := by first | (rw [hy400]; with_reducible exact H) | (have H2_ := (Option.bind_some _ _).symm.trans H; rw [hy400]; with_reducible exact H2_) | (have H2_ := (Option.bind_some _ _).symm.trans H; with_reducible exact H2_) | with_reducible exact H | (rw [hy400]; exact H) | exact H
                      have Ny400 := Aside0.mk hy400
                      clear hy400
                      have H' := Aside0.mk H
                      clear H
                      obtain ⟨Ao19, co19, eo19⟩ := Kd.R_slice HO_8.out
                      subst eo19
                      have p398 : 0 ≤ (x12_2 : Int) := of_decide_eq_true (by first | (with_reducible assumption) | assumption)
                      have q398 : x12_2 < (t388.length : Int) := of_decide_eq_true (by first | (with_reducible assumption) | assumption)
                      obtain ⟨ad398, e398, hx398_0⟩ := Kd.at_int (Kd.R_reads' HO_8.out).2.2 x12_2 p398 q398
                      cases e398
                      replace p398 := eq_true p398
                      replace q398 := eq_true q398
                      obtain ⟨Ao20, co20, eo20⟩ := Kd.R_slice HO_9.out
                      subst eo20
                      have p399 : 0 ≤ (x12_2 : Int) := of_decide_eq_true (by first | (with_reducible assumption) | assumption)
                      have q399 : x12_2 < (t391.length : Int) := of_decide_eq_true (by first | (with_reducible assumption) | assumption)
                      obtain ⟨ad399, e399, hx399_0⟩ := Kd.at_int (Kd.R_reads' HO_9.out).2.2 x12_2 p399 q399
                      cases e399
                      replace p399 := eq_true p399
                      replace q399 := eq_true q399
                      go_wp2_with (first | ((with_reducible refine gate_builtin (b := .append) (xs := #[.tmp 56, .tmp 58]) rfl ?_); at_builtin; refine Kd.R_append (Kd.int .i64) (w0 := w) w.heap.size rfl (.tmp 56) (.tmp 58) 100 3 (.int .i64 0) 8 rfl Try.underlying100 info3 rfl (by decide) (by omega) u10 x10_2 (wrap64 ((wrap64 ((wrap64 ((rd t388 x12_2) - x11_2)) - (rd t391 x12_2))) + 256)) [.int .i64 (wrap64 ((wrap64 ((wrap64 ((rd t388 x12_2) - x11_2)) - (rd t391 x12_2))) + 256))] (fun k_ => some k_ ≠ (.slice (some ad398) t388.length co19 : Value).ownBlock ∧ some k_ ≠ (.slice (some ad399) t391.length co20 : Value).ownBlock) (fun _ => False) rfl rfl ?aP (fun _ hk => hk.elim) ?aF ?aO ?aB ?aS ?aL ?_; (case aP => exact rfl); (case aB => exact (by repeat (first | (with_reducible first | exact HB.out | apply below_alloc | apply pw_below_drewN | apply below_drew1) | exact HB.out))); (case aF => exact (fun k_ hk => ⟨Kd.fresh' (Kd.R_lt (by (with_reducible repeat (first | apply Kd.R_alloc | apply Kd.R_drewN | apply Kd.R_drew)); exact HO_8.out)) k_ hk, Kd.fresh' (Kd.R_lt (by (with_reducible repeat (first | apply Kd.R_alloc | apply Kd.R_drewN | apply Kd.R_drew)); exact HO_9.out)) k_ hk⟩)); (case aO => exact (by (with_reducible repeat (first | apply Kd.R_alloc | apply Kd.R_drewN | apply Kd.R_drew)); exact HO_10.out)); (case aS => exact (below_size (by repeat (first | (with_reducible first | exact HB.out | apply below_alloc | apply pw_below_drewN | apply below_drew1) | exact HB.out)))); (case aL => have := LMc18.out; omega); intro v401 w21 ho hb hg hat; rw [← Ny400.out] at ho; have n0_ := Aside0.mk (Kd.R_after (ok := (fun k_ => some k_ ≠ (.slice (some ad399) t391.length co20 : Value).ownBlock)) (by (with_reducible repeat (first | apply Kd.R_alloc | apply Kd.R_drewN | apply Kd.R_drew)); exact HO_8.out) hg hat); have n1_ := Aside0.mk (Kd.R_after (ok := (fun k_ => some k_ ≠ (.slice (some ad398) t388.length co19 : Value).ownBlock)) (by (with_reducible repeat (first | apply Kd.R_alloc | apply Kd.R_drewN | apply Kd.R_drew)); exact HO_9.out) hg hat); have n2_ := Aside0.mk (hb); have n3_ := Aside0.mk (ho); clear HO_8; clear HO_9; clear HB; clear HO_10; have HO_8 := n0_; have HO_9 := n1_; have HB := n2_; have HO402 := n3_; clear n0_ n1_ n2_ n3_; clear ho hb hg hat))
                      go_roundg k2
                      case measure => have := HJ4.out; have := HK2.out; omega
                      case rel => exact ⟨(y400), (1), (wrap64 (x12_2 + 1)), (by first | rfl | (simp; done) | (simp [*]; done)), (by first | rfl | (simp; done) | (simp [*]; done)), H', ⟨by have := HJ4.out; have := HK2.out; omega⟩, ⟨by (with_reducible repeat (first | apply Kd.R_alloc | apply Kd.R_drewN | apply Kd.R_drew)); exact HO_8.out⟩, ⟨by (with_reducible repeat (first | apply Kd.R_alloc | apply Kd.R_drewN | apply Kd.R_drew)); exact HO_9.out⟩, ⟨by (with_reducible repeat (first | apply Kd.R_alloc | apply Kd.R_drewN | apply Kd.R_drew)); exact HO402.out⟩, ⟨by repeat (first | (with_reducible first | exact HB.out | apply below_alloc | apply pw_below_drewN | apply below_drew1) | exact HB.out)⟩⟩
                    · rw [if_neg c18] at H
                      exact absurd H (by simp)
                  · rw [if_neg c17] at H
                    have c17b0 : decide ((wrap64 ((wrap64 ((rd t388 x12_2) - x11_2)) - (rd t391 x12_2))) < 0) = false := decide_eq_false c17
                    clear c17
                    by_cases c22 : x10_2.length < 17592186044416
                    · rw [if_pos c22] at H
                      have LMc22 := Aside0.mk c22
                      clear c22
                      obtain ⟨y403, hy403⟩ : ∃ y_ : List Int, y_ = (x10_2 ++ [wrap64 ((wrap64 ((rd t388 x12_2) - x11_2)) - (rd t391 x12_2))]) := ⟨_, rfl⟩
                      replace H : (postmarkref02_Sub.l0 k2 t388 t391 y403 0 (wrap64 (x12_2 + 1))) = some (r1, r2) := by first | (rw [hy403]; with_reducible exact H) | (have H2_ := (Option.bind_some _ _).symm.trans H; rw [hy403]; with_reducible exact H2_) | (have H2_ := (Option.bind_some _ _).symm.trans H; with_reducible exact H2_) | with_reducible exact H | (rw [hy403]; exact H) | exact H
                      have Ny403 := Aside0.mk hy403
                      clear hy403
                      have H' := Aside0.mk H
                      clear H
                      obtain ⟨Ao23, co23, eo23⟩ := Kd.R_slice HO_8.out
                      subst eo23
                      have p398 : 0 ≤ (x12_2 : Int) := of_decide_eq_true (by first | (with_reducible assumption) | assumption)
                      have q398 : x12_2 < (t388.length : Int) := of_decide_eq_true (by first | (with_reducible assumption) | assumption)
                      obtain ⟨ad398, e398, hx398_0⟩ := Kd.at_int (Kd.R_reads' HO_8.out).2.2 x12_2 p398 q398
                      cases e398
                      replace p398 := eq_true p398
                      replace q398 := eq_true q398
                      obtain ⟨Ao24, co24, eo24⟩ := Kd.R_slice HO_9.out
                      subst eo24
                      have p399 : 0 ≤ (x12_2 : Int) := of_decide_eq_true (by first | (with_reducible assumption) | assumption)
                      have q399 : x12_2 < (t391.length : Int) := of_decide_eq_true (by first | (with_reducible assumption) | assumption)
                      obtain ⟨ad399, e399, hx399_0⟩ := Kd.at_int (Kd.R_reads' HO_9.out).2.2 x12_2 p399 q399
                      cases e399
                      replace p399 := eq_true p399
                      replace q399 := eq_true q399
                      go_wp2_with (first | ((with_reducible refine gate_builtin (b := .append) (xs := #[.tmp 56, .tmp 58]) rfl ?_); at_builtin; refine Kd.R_append (Kd.int .i64) (w0 := w) w.heap.size rfl (.tmp 56) (.tmp 58) 100 3 (.int .i64 0) 8 rfl Try.underlying100 info3 rfl (by decide) (by omega) u10 x10_2 (wrap64 ((wrap64 ((rd t388 x12_2) - x11_2)) - (rd t391 x12_2))) [.int .i64 (wrap64 ((wrap64 ((rd t388 x12_2) - x11_2)) - (rd t391 x12_2)))] (fun k_ => some k_ ≠ (.slice (some ad398) t388.length co23 : Value).ownBlock ∧ some k_ ≠ (.slice (some ad399) t391.length co24 : Value).ownBlock) (fun _ => False) rfl rfl ?aP (fun _ hk => hk.elim) ?aF ?aO ?aB ?aS ?aL ?_; (case aP => exact rfl); (case aB => exact (by repeat (first | (with_reducible first | exact HB.out | apply below_alloc | apply pw_below_drewN | apply below_drew1) | exact HB.out))); (case aF => exact (fun k_ hk => ⟨Kd.fresh' (Kd.R_lt (by (with_reducible repeat (first | apply Kd.R_alloc | apply Kd.R_drewN | apply Kd.R_drew)); exact HO_8.out)) k_ hk, Kd.fresh' (Kd.R_lt (by (with_reducible repeat (first | apply Kd.R_alloc | apply Kd.R_drewN | apply Kd.R_drew)); exact HO_9.out)) k_ hk⟩)); (case aO => exact (by (with_reducible repeat (first | apply Kd.R_alloc | apply Kd.R_drewN | apply Kd.R_drew)); exact HO_10.out)); (case aS => exact (below_size (by repeat (first | (with_reducible first | exact HB.out | apply below_alloc | apply pw_below_drewN | apply below_drew1) | exact HB.out)))); (case aL => have := LMc22.out; omega); intro v404 w25 ho hb hg hat; rw [← Ny403.out] at ho; have n0_ := Aside0.mk (Kd.R_after (ok := (fun k_ => some k_ ≠ (.slice (some ad399) t391.length co24 : Value).ownBlock)) (by (with_reducible repeat (first | apply Kd.R_alloc | apply Kd.R_drewN | apply Kd.R_drew)); exact HO_8.out) hg hat); have n1_ := Aside0.mk (Kd.R_after (ok := (fun k_ => some k_ ≠ (.slice (some ad398) t388.length co23 : Value).ownBlock)) (by (with_reducible repeat (first | apply Kd.R_alloc | apply Kd.R_drewN | apply Kd.R_drew)); exact HO_9.out) hg hat); have n2_ := Aside0.mk (hb); have n3_ := Aside0.mk (ho); clear HO_8; clear HO_9; clear HB; clear HO_10; have HO_8 := n0_; have HO_9 := n1_; have HB := n2_; have HO405 := n3_; clear n0_ n1_ n2_ n3_; clear ho hb hg hat))
                      go_roundg k2
                      case measure => have := HJ4.out; have := HK2.out; omega
                      case rel => exact ⟨(y403), (0), (wrap64 (x12_2 + 1)), (by first | rfl | (simp; done) | (simp [*]; done)), (by first | rfl | (simp; done) | (simp [*]; done)), H', ⟨by have := HJ4.out; have := HK2.out; omega⟩, ⟨by (with_reducible repeat (first | apply Kd.R_alloc | apply Kd.R_drewN | apply Kd.R_drew)); exact HO_8.out⟩, ⟨by (with_reducible repeat (first | apply Kd.R_alloc | apply Kd.R_drewN | apply Kd.R_drew)); exact HO_9.out⟩, ⟨by (with_reducible repeat (first | apply Kd.R_alloc | apply Kd.R_drewN | apply Kd.R_drew)); exact HO405.out⟩, ⟨by repeat (first | (with_reducible first | exact HB.out | apply below_alloc | apply pw_below_drewN | apply below_drew1) | exact HB.out)⟩⟩
                    · rw [if_neg c22] at H
                      exact absurd H (by simp)
                · rw [if_neg c16] at H
                  have c16b0 : decide (x12_2 < (t391.length : Int)) = false := decide_eq_false c16
                  clear c16
                  by_cases c26 : (wrap64 ((rd t388 x12_2) - x11_2)) < 0
                  · rw [if_pos c26] at H
                    have c26b0 : decide ((wrap64 ((rd t388 x12_2) - x11_2)) < 0) = true := decide_eq_true c26
                    clear c26
                    by_cases c27 : x10_2.length < 17592186044416
                    · rw [if_pos c27] at H
                      have LMc27 := Aside0.mk c27
                      clear c27
                      obtain ⟨y406, hy406⟩ : ∃ y_ : List Int, y_ = (x10_2 ++ [wrap64 ((wrap64 ((rd t388 x12_2) - x11_2)) + 256)]) := ⟨_, rfl⟩
                      replace H : (postmarkref02_Sub.l0 k2 t388 t391 y406 1 (wrap64 (x12_2 + 1))) = some (r1, r2) := by first | (rw [hy406]; with_reducible exact H) | (have H2_ := (Option.bind_some _ _).symm.trans H; rw [hy406]; with_reducible exact H2_) | (have H2_ := (Option.bind_some _ _).symm.trans H; with_reducible exact H2_) | with_reducible exact H | (rw [hy406]; exact H) | exact H
                      have Ny406 := Aside0.mk hy406
                      clear hy406
                      have H' := Aside0.mk H
                      clear H
                      obtain ⟨Ao28, co28, eo28⟩ := Kd.R_slice HO_8.out
                      subst eo28
                      have p398 : 0 ≤ (x12_2 : Int) := of_decide_eq_true (by first | (with_reducible assumption) | assumption)
                      have q398 : x12_2 < (t388.length : Int) := of_decide_eq_true (by first | (with_reducible assumption) | assumption)
                      obtain ⟨ad398, e398, hx398_0⟩ := Kd.at_int (Kd.R_reads' HO_8.out).2.2 x12_2 p398 q398
                      cases e398
                      replace p398 := eq_true p398
                      replace q398 := eq_true q398
                      obtain ⟨Ao29, co29, eo29⟩ := Kd.R_slice HO_9.out
                      subst eo29
                      go_wp2_with (first | ((with_reducible refine gate_builtin (b := .append) (xs := #[.tmp 56, .tmp 58]) rfl ?_); at_builtin; refine Kd.R_append (Kd.int .i64) (w0 := w) w.heap.size rfl (.tmp 56) (.tmp 58) 100 3 (.int .i64 0) 8 rfl Try.underlying100 info3 rfl (by decide) (by omega) u10 x10_2 (wrap64 ((wrap64 ((rd t388 x12_2) - x11_2)) + 256)) [.int .i64 (wrap64 ((wrap64 ((rd t388 x12_2) - x11_2)) + 256))] (fun k_ => some k_ ≠ (.slice (some ad398) t388.length co28 : Value).ownBlock ∧ some k_ ≠ (.slice Ao29 t391.length co29 : Value).ownBlock) (fun _ => False) rfl rfl ?aP (fun _ hk => hk.elim) ?aF ?aO ?aB ?aS ?aL ?_; (case aP => exact rfl); (case aB => exact (by repeat (first | (with_reducible first | exact HB.out | apply below_alloc | apply pw_below_drewN | apply below_drew1) | exact HB.out))); (case aF => exact (fun k_ hk => ⟨Kd.fresh' (Kd.R_lt (by (with_reducible repeat (first | apply Kd.R_alloc | apply Kd.R_drewN | apply Kd.R_drew)); exact HO_8.out)) k_ hk, Kd.fresh' (Kd.R_lt (by (with_reducible repeat (first | apply Kd.R_alloc | apply Kd.R_drewN | apply Kd.R_drew)); exact HO_9.out)) k_ hk⟩)); (case aO => exact (by (with_reducible repeat (first | apply Kd.R_alloc | apply Kd.R_drewN | apply Kd.R_drew)); exact HO_10.out)); (case aS => exact (below_size (by repeat (first | (with_reducible first | exact HB.out | apply below_alloc | apply pw_below_drewN | apply below_drew1) | exact HB.out)))); (case aL => have := LMc27.out; omega); intro v407 w30 ho hb hg hat; rw [← Ny406.out] at ho; have n0_ := Aside0.mk (Kd.R_after (ok := (fun k_ => some k_ ≠ (.slice Ao29 t391.length co29 : Value).ownBlock)) (by (with_reducible repeat (first | apply Kd.R_alloc | apply Kd.R_drewN | apply Kd.R_drew)); exact HO_8.out) hg hat); have n1_ := Aside0.mk (Kd.R_after (ok := (fun k_ => some k_ ≠ (.slice (some ad398) t388.length co28 : Value).ownBlock)) (by (with_reducible repeat (first | apply Kd.R_alloc | apply Kd.R_drewN | apply Kd.R_drew)); exact HO_9.out) hg hat); have n2_ := Aside0.mk (hb); have n3_ := Aside0.mk (ho); clear HO_8; clear HO_9; clear HB; clear HO_10; have HO_8 := n0_; have HO_9 := n1_; have HB := n2_; have HO408 := n3_; clear n0_ n1_ n2_ n3_; clear ho hb hg hat))
                      go_roundg k2
                      case measure => have := HJ4.out; have := HK2.out; omega
                      case rel => exact ⟨(y406), (1), (wrap64 (x12_2 + 1)), (by first | rfl | (simp; done) | (simp [*]; done)), (by first | rfl | (simp; done) | (simp [*]; done)), H', ⟨by have := HJ4.out; have := HK2.out; omega⟩, ⟨by (with_reducible repeat (first | apply Kd.R_alloc | apply Kd.R_drewN | apply Kd.R_drew)); exact HO_8.out⟩, ⟨by (with_reducible repeat (first | apply Kd.R_alloc | apply Kd.R_drewN | apply Kd.R_drew)); exact HO_9.out⟩, ⟨by (with_reducible repeat (first | apply Kd.R_alloc | apply Kd.R_drewN | apply Kd.R_drew)); exact HO408.out⟩, ⟨by repeat (first | (with_reducible first | exact HB.out | apply below_alloc | apply pw_below_drewN | apply below_drew1) | exact HB.out)⟩⟩
                    · rw [if_neg c27] at H
                      exact absurd H (by simp)
                  · rw [if_neg c26] at H
                    have c26b0 : decide ((wrap64 ((rd t388 x12_2) - x11_2)) < 0) = false := decide_eq_false c26
                    clear c26
                    by_cases c31 : x10_2.length < 17592186044416
                    · rw [if_pos c31] at H
                      have LMc31 := Aside0.mk c31
                      clear c31
                      obtain ⟨y409, hy409⟩ : ∃ y_ : List Int, y_ = (x10_2 ++ [wrap64 ((rd t388 x12_2) - x11_2)]) := ⟨_, rfl⟩
                      replace H : (postmarkref02_Sub.l0 k2 t388 t391 y409 0 (wrap64 (x12_2 + 1))) = some (r1, r2) := by first | (rw [hy409]; with_reducible exact H) | (have H2_ := (Option.bind_some _ _).symm.trans H; rw [hy409]; with_reducible exact H2_) | (have H2_ := (Option.bind_some _ _).symm.trans H; with_reducible exact H2_) | with_reducible exact H | (rw [hy409]; exact H) | exact H
                      have Ny409 := Aside0.mk hy409
                      clear hy409
                      have H' := Aside0.mk H
                      clear H
                      obtain ⟨Ao32, co32, eo32⟩ := Kd.R_slice HO_8.out
                      subst eo32
                      have p398 : 0 ≤ (x12_2 : Int) := of_decide_eq_true (by first | (with_reducible assumption) | assumption)
                      have q398 : x12_2 < (t388.length : Int) := of_decide_eq_true (by first | (with_reducible assumption) | assumption)
                      obtain ⟨ad398, e398, hx398_0⟩ := Kd.at_int (Kd.R_reads' HO_8.out).2.2 x12_2 p398 q398
                      cases e398
                      replace p398 := eq_true p398
                      replace q398 := eq_true q398
                      obtain ⟨Ao33, co33, eo33⟩ := Kd.R_slice HO_9.out
                      subst eo33
                      go_wp2_with (first | ((with_reducible refine gate_builtin (b := .append) (xs := #[.tmp 56, .tmp 58]) rfl ?_); at_builtin; refine Kd.R_append (Kd.int .i64) (w0 := w) w.heap.size rfl (.tmp 56) (.tmp 58) 100 3 (.int .i64 0) 8 rfl Try.underlying100 info3 rfl (by decide) (by omega) u10 x10_2 (wrap64 ((rd t388 x12_2) - x11_2)) [.int .i64 (wrap64 ((rd t388 x12_2) - x11_2))] (fun k_ => some k_ ≠ (.slice (some ad398) t388.length co32 : Value).ownBlock ∧ some k_ ≠ (.slice Ao33 t391.length co33 : Value).ownBlock) (fun _ => False) rfl rfl ?aP (fun _ hk => hk.elim) ?aF ?aO ?aB ?aS ?aL ?_; (case aP => exact rfl); (case aB => exact (by repeat (first | (with_reducible first | exact HB.out | apply below_alloc | apply pw_below_drewN | apply below_drew1) | exact HB.out))); (case aF => exact (fun k_ hk => ⟨Kd.fresh' (Kd.R_lt (by (with_reducible repeat (first | apply Kd.R_alloc | apply Kd.R_drewN | apply Kd.R_drew)); exact HO_8.out)) k_ hk, Kd.fresh' (Kd.R_lt (by (with_reducible repeat (first | apply Kd.R_alloc | apply Kd.R_drewN | apply Kd.R_drew)); exact HO_9.out)) k_ hk⟩)); (case aO => exact (by (with_reducible repeat (first | apply Kd.R_alloc | apply Kd.R_drewN | apply Kd.R_drew)); exact HO_10.out)); (case aS => exact (below_size (by repeat (first | (with_reducible first | exact HB.out | apply below_alloc | apply pw_below_drewN | apply below_drew1) | exact HB.out)))); (case aL => have := LMc31.out; omega); intro v410 w34 ho hb hg hat; rw [← Ny409.out] at ho; have n0_ := Aside0.mk (Kd.R_after (ok := (fun k_ => some k_ ≠ (.slice Ao33 t391.length co33 : Value).ownBlock)) (by (with_reducible repeat (first | apply Kd.R_alloc | apply Kd.R_drewN | apply Kd.R_drew)); exact HO_8.out) hg hat); have n1_ := Aside0.mk (Kd.R_after (ok := (fun k_ => some k_ ≠ (.slice (some ad398) t388.length co32 : Value).ownBlock)) (by (with_reducible repeat (first | apply Kd.R_alloc | apply Kd.R_drewN | apply Kd.R_drew)); exact HO_9.out) hg hat); have n2_ := Aside0.mk (hb); have n3_ := Aside0.mk (ho); clear HO_8; clear HO_9; clear HB; clear HO_10; have HO_8 := n0_; have HO_9 := n1_; have HB := n2_; have HO411 := n3_; clear n0_ n1_ n2_ n3_; clear ho hb hg hat))
                      go_roundg k2
                      case measure => have := HJ4.out; have := HK2.out; omega
                      case rel => exact ⟨(y409), (0), (wrap64 (x12_2 + 1)), (by first | rfl | (simp; done) | (simp [*]; done)), (by first | rfl | (simp; done) | (simp [*]; done)), H', ⟨by have := HJ4.out; have := HK2.out; omega⟩, ⟨by (with_reducible repeat (first | apply Kd.R_alloc | apply Kd.R_drewN | apply Kd.R_drew)); exact HO_8.out⟩, ⟨by (with_reducible repeat (first | apply Kd.R_alloc | apply Kd.R_drewN | apply Kd.R_drew)); exact HO_9.out⟩, ⟨by (with_reducible repeat (first | apply Kd.R_alloc | apply Kd.R_drewN | apply Kd.R_drew)); exact HO411.out⟩, ⟨by repeat (first | (with_reducible first | exact HB.out | apply below_alloc | apply pw_below_drewN | apply below_drew1) | exact HB.out)⟩⟩
                    · rw [if_neg c31] at H
                      exact absurd H (by simp)
              · rw [if_neg c15] at H
                exact absurd H (by simp)
            · rw [if_neg c14] at H
              have c14b0 : decide (x12_2 < (t388.length : Int)) = false := decide_eq_false c14
              clear c14
              replace H := Option.bind_eq_some_iff.mp H
              obtain ⟨⟨t394, t397⟩, A350, H⟩ := H
              replace H : (some (t394, t397)) = some (r1, r2) := H
              have A35 := Aside0.mk A350
              clear A350
              simp only [Option.some.injEq, Prod.mk.injEq] at H
              obtain ⟨rfl, rfl⟩ := H
              obtain ⟨Ao36, co36, eo36⟩ := Kd.R_slice HO_8.out
              subst eo36
              obtain ⟨Ao37, co37, eo37⟩ := Kd.R_slice HO_10.out
              subst eo37
              go_wp2_with (first | ((with_reducible refine gate_callee (f := 126) rfl ?_); refine goesL_ (some 61) rfl rfl Try.func126 (by kernel_rfl) rfl #[.slice Ao37 x10_2.length co37] rfl (by (try simp only [List.map_toArray, List.map_cons, List.map_nil]); first | done | rfl | (simp only [List.length_drop, List.length_take]; rfl)) ?_; (with_reducible refine (postmarkref02_Cut.calls k2 (fun k_ => some k_ = (.slice Ao37 x10_2.length co37 : Value).ownBlock) (.slice Ao37 x10_2.length co37) x10_2 t394 t397 w _ ?side1 ?side2 A35.out).mono ?_); (case side1 => repeat (first | (with_reducible first | exact HB.out | apply below_alloc | apply pw_below_drewN | apply below_drew1) | exact HB.out)); (case side2 => exact Kd.R_tight rfl HO_10.out); rintro e w38 ⟨v395, rfl, ho0, hb, hkp⟩; refine ⟨_, rfl, ?_⟩; have n0_ := Aside0.mk (Kd.R_mono (ok' := fun k_ => some k_ ≠ (v392 : Value).ownBlock) (Kd.R_keptB (HO_8.out) hkp (fun k_ hk_ hs_ => (hk_.2) hs_)) (fun k_ hk_ => hk_.1.1)); have n1_ := Aside0.mk (Kd.R_mono (ok' := fun k_ => some k_ ≠ (.slice Ao36 t388.length co36 : Value).ownBlock) (Kd.R_keptB (HO_9.out) hkp (fun k_ hk_ hs_ => (hk_.2) hs_)) (fun k_ hk_ => hk_.1.1)); have n2_ := Aside0.mk (Kd.R_mono (ok' := fun k_ => True) ho0 (fun k_ hk_ => trivial)); have n3_ := Aside0.mk (hb); clear HO_8; clear HO_9; clear HB; clear HO_10; have HO_8 := n0_; have HO_9 := n1_; have HO396 := n2_; have HB := n3_; clear n0_ n1_ n2_ n3_; (try clear hb); (try clear hkp); (try clear ho0)))
              go_ret2
              exact ⟨_, by first | rfl | (simp [errW_none, errW_some] <;> rfl) | (simp [*, errW_none, errW_some] <;> rfl), by (with_reducible repeat (first | apply Kd.R_alloc | apply Kd.R_drewN | apply Kd.R_drew)); exact HO396.out, by repeat (first | (with_reducible first | exact HB.out | apply below_alloc | apply pw_below_drewN | apply below_drew1) | exact HB.out)⟩
end Go.Proofs.Ytlifengbicpppaa.G
end
section
namespace Go.Proofs.Ytlifengbicpppaa.G
open Go.RowKit Go.Proofs.YtlifengbicpppaaW.PrintWords Go.Proofs.YtlifengbicpppaaW.PrintLast Go.Proofs.YtlifengbicpppaaW.PrintMore
attribute [local go_sem] max2_int min2_int max_two min_two max_three min_three max_four min_four   -- for this text's walks alone
set_option linter.unusedVariables false
set_option linter.unusedSimpArgs false
mutual
def postmarkref02_Mul.l0 : Nat → List Int → List Int → List Int → Int → Option (List Int × Int)
  | 0, _, _, _, _ => none
  | k + 1, x7, x8, x9, x10 => if x10 < (x7.length : Int) then (postmarkref02_Mul.l1 k x7 x8 x9 x10 0) else (postmarkref02_Mul.l2 k x9 0)
def postmarkref02_Mul.l1 : Nat → List Int → List Int → List Int → Int → Int → Option (List Int × Int)
  | 0, _, _, _, _, _ => none
  | k + 1, x7, x8, x9, x10, x11 => if x11 < (x8.length : Int) then (if 0 ≤ (wrap64 (x10 + x11)) then (if (wrap64 (x10 + x11)) < (x9.length : Int) then (if 0 ≤ x10 then (if x10 < (x7.length : Int) then (if 0 ≤ x11 then (postmarkref02_Mul.l1 k x7 x8 (x9.set ((wrap64 (x10 + x11)) : Int).toNat (wrap64 ((rd x9 (wrap64 (x10 + x11))) + (wrap64 ((rd x7 x10) * (rd x8 x11)))))) x10 (wrap64 (x11 + 1))) else (none)) else (none)) else (none)) else (none)) else (none)) else (postmarkref02_Mul.l0 k x7 x8 x9 (wrap64 (x10 + 1)))
def postmarkref02_Mul.l2 : Nat → List Int → Int → Option (List Int × Int)
  | 0, _, _ => none
  | k + 1, x9, x12 => if (wrap64 (x12 + 1)) < (x9.length : Int) then (if 0 ≤ (wrap64 (x12 + 1)) then (if 0 ≤ x12 then (if x12 < (x9.length : Int) then ((some (x9.set ((wrap64 (x12 + 1)) : Int).toNat (wrap64 ((rd x9 (wrap64 (x12 + 1))) + (wrap64 (Int.tdiv (rd x9 x12) 256)))) : List Int)).bind fun y326 => (postmarkref02_Mul.l2 k (y326.set (x12 : Int).toNat (Int.tmod (rd y326 x12) 256)) (wrap64 (x12 + 1)))) else (none)) else (none)) else (none)) else ((postmarkref02_Cut.f k x9).bind fun bt329 => (some (bt329.1, bt329.2)))
end
def postmarkref02_Mul.f (k : Nat) (l0 : List Int) (l1 : List Int) : Option (List Int × Int) := (postmarkref02_May.f k l0 l1).bind fun t310 => (if t310 = true then ((postmarkref02_Digits.f k l0).bind fun t311 => ((postmarkref02_Digits.f k l1).bind fun t314 => (if 0 ≤ (wrap64 ((wrap64 ((t311.length : Int) + (t314.length : Int))) + 4)) then (if (wrap64 ((wrap64 ((t311.length : Int) + (t314.length : Int))) + 4) : Int).toNat ≤ 35184372088832 then (postmarkref02_Mul.l0 k t311 t314 (List.replicate (wrap64 ((wrap64 ((t311.length : Int) + (t314.length : Int))) + 4) : Int).toNat 0) 0) else (none)) else (none)))) else (some (([] : List Int), 20)))
def postmarkref02_Mul.T13 : Bool × List (List Nat × List Nat) := (true, [([], []), ([], []), ([], []), ([1, 2], [1, 2]), ([], []), ([], []), ([], []), ([5, 6], [5, 6]), ([4, 7], [4, 7]), ([8], [8]), ([], []), ([], []), ([10, 11], [10, 11]), ([12], [12]), ([], []), ([], []), ([14, 15], [14, 15]), ([16], [16]), ([13, 17], [13, 17]), ([9, 18], [9, 18]), ([0, 3, 0, 1, 2, 3, 4, 5, 6, 7, 8, 9, 10, 11, 12, 13, 14, 15, 16, 17, 18, 19], [0, 3]), ([20, 19, 0, 1, 2, 3, 4, 5, 6, 7, 8, 9, 10, 11, 12, 13, 14, 15, 16, 17, 18, 19], [19, 20])])
def postmarkref02_Mul.B13 : List Nat := [0, 0, 0, 6, 0, 0, 0, 96, 240, 496, 0, 0, 3072, 7168, 0, 0, 49152, 114688, 261120, 524272, 1048575, 2097151]
theorem postmarkref02_Mul.tab13 : rtab .any (opsOf Try.f87 13) = postmarkref02_Mul.T13 := by kernel_rfl
theorem postmarkref02_Mul.bits13 : waitsOk postmarkref02_Mul.T13.2 postmarkref02_Mul.B13 = true := by kernel_rfl
def postmarkref02_Mul.T17 : Bool × List (List Nat × List Nat) := (true, [([], []), ([], []), ([1], [1]), ([], []), ([], []), ([4], [4]), ([3, 5], [3, 5]), ([6], [6]), ([], []), ([], []), ([8, 9], [8, 9]), ([10], [10]), ([11], [11]), ([7, 12], [7, 12]), ([0, 2, 0, 1, 2, 3, 4, 5, 6, 7, 8, 9, 10, 11, 12, 13], [0, 2]), ([14, 13, 0, 1, 2, 3, 4, 5, 6, 7, 8, 9, 10, 11, 12, 13], [13, 14])])
def postmarkref02_Mul.B17 : List Nat := [0, 0, 2, 0, 0, 16, 56, 120, 0, 0, 768, 1792, 3840, 8184, 16383, 32767]
theorem postmarkref02_Mul.tab17 : rtab .any (opsOf Try.f87 17) = postmarkref02_Mul.T17 := by kernel_rfl
theorem postmarkref02_Mul.bits17 : waitsOk postmarkref02_Mul.T17.2 postmarkref02_Mul.B17 = true := by kernel_rfl
set_option maxHeartbeats 8000000 in
set_option maxRecDepth 100000 in
theorem postmarkref02_Mul.calls (k : Nat) (A0 : Option Addr) (c0 : Nat) (l0 : List Int) (A1 : Option Addr) (c1 : Nat) (l1 : List Int) (r1 : List Int) (r2 : Int) (w : World) (hr0 : Kd.C (Kd.int .u32) w A0 l0.length l0) (hc0 : l0.length ≤ c0) (hr1 : Kd.C (Kd.int .u32) w A1 l1.length l1) (hc1 : l1.length ≤ c1) (h : postmarkref02_Mul.f k l0 l1 = some (r1, r2)) :
    Calls Try.prog 87 #[.slice A0 l0.length c0, .slice A1 l1.length c1] w fun e w' => ∃ v0_ : Value, e = .returned (.tuple #[v0_, .int .i64 r2]) ∧ Kd.R (Kd.int .u32) 75 w' w.heap.size (fun _ => True) v0_ r1 ∧ Below w.heap.size w w' := by
  have HR0 := Aside0.mk hr0
  have HC0 := Aside0.mk hc0
  clear hr0 hc0
  have HR1 := Aside0.mk hr1
  have HC1 := Aside0.mk hc1
  clear hr1 hc1
  have HB := Aside0.mk (Below.refl w.heap.size w)
  have H : ((postmarkref02_May.f k l0 l1).bind fun t310 => (if t310 = true then ((postmarkref02_Digits.f k l0).bind fun t311 => ((postmarkref02_Digits.f k l1).bind fun t314 => (if 0 ≤ (wrap64 ((wrap64 ((t311.length : Int) + (t314.length : Int))) + 4)) then (if (wrap64 ((wrap64 ((t311.length : Int) + (t314.length : Int))) + 4) : Int).toNat ≤ 35184372088832 then (postmarkref02_Mul.l0 k t311 t314 (List.replicate (wrap64 ((wrap64 ((t311.length : Int) + (t314.length : Int))) + 4) : Int).toNat 0) 0) else (none)) else (none)))) else (some (([] : List Int), 20)))) = some (r1, r2) := h
  clear h
  replace H := Option.bind_eq_some_iff.mp H
  obtain ⟨t310, A30, H⟩ := H
  replace H : (if t310 = true then ((postmarkref02_Digits.f k l0).bind fun t311 => ((postmarkref02_Digits.f k l1).bind fun t314 => (if 0 ≤ (wrap64 ((wrap64 ((t311.length : Int) + (t314.length : Int))) + 4)) then (if (wrap64 ((wrap64 ((t311.length : Int) + (t314.length : Int))) + 4) : Int).toNat ≤ 35184372088832 then (postmarkref02_Mul.l0 k t311 t314 (List.replicate (wrap64 ((wrap64 ((t311.length : Int) + (t314.length : Int))) + 4) : Int).toNat 0) 0) else (none)) else (none)))) else (some (([] : List Int), 20))) = some (r1, r2) := H
  have A3 := Aside0.mk A30
  clear A30
  by_cases c4 : t310 = true
  · subst c4
    have H1 : ((postmarkref02_Digits.f k l0).bind fun t311 => ((postmarkref02_Digits.f k l1).bind fun t314 => (if 0 ≤ (wrap64 ((wrap64 ((t311.length : Int) + (t314.length : Int))) + 4)) then (if (wrap64 ((wrap64 ((t311.length : Int) + (t314.length : Int))) + 4) : Int).toNat ≤ 35184372088832 then (postmarkref02_Mul.l0 k t311 t314 (List.replicate (wrap64 ((wrap64 ((t311.length : Int) + (t314.length : Int))) + 4) : Int).toNat 0) 0) else (none)) else (none)))) = some (r1, r2) := by rw [if_pos rfl] at H; exact H
    clear H
    have H := H1
    clear H1
    replace H := Option.bind_eq_some_iff.mp H
    obtain ⟨t311, A50, H⟩ := H
    replace H : ((postmarkref02_Digits.f k l1).bind fun t314 => (if 0 ≤ (wrap64 ((wrap64 ((t311.length : Int) + (t314.length : Int))) + 4)) then (if (wrap64 ((wrap64 ((t311.length : Int) + (t314.length : Int))) + 4) : Int).toNat ≤ 35184372088832 then (postmarkref02_Mul.l0 k t311 t314 (List.replicate (wrap64 ((wrap64 ((t311.length : Int) + (t314.length : Int))) + 4) : Int).toNat 0) 0) else (none)) else (none))) = some (r1, r2) := H
    have A5 := Aside0.mk A50
    clear A50
    replace H := Option.bind_eq_some_iff.mp H
    obtain ⟨t314, A60, H⟩ := H
    replace H : (if 0 ≤ (wrap64 ((wrap64 ((t311.length : Int) + (t314.length : Int))) + 4)) then (if (wrap64 ((wrap64 ((t311.length : Int) + (t314.length : Int))) + 4) : Int).toNat ≤ 35184372088832 then (postmarkref02_Mul.l0 k t311 t314 (List.replicate (wrap64 ((wrap64 ((t311.length : Int) + (t314.length : Int))) + 4) : Int).toNat 0) 0) else (none)) else (none)) = some (r1, r2) := H
    have A6 := Aside0.mk A60
    clear A60
    obtain ⟨ji7, hji7⟩ : ∃ j_ : Int, (wrap64 ((wrap64 ((t311.length : Int) + (t314.length : Int))) + 4)) = j_ := ⟨_, rfl⟩
    replace H : (if 0 ≤ (ji7) then (if (ji7 : Int).toNat ≤ 35184372088832 then (postmarkref02_Mul.l0 k t311 t314 (List.replicate (ji7 : Int).toNat 0) 0) else (none)) else (none)) = some (r1, r2) := by first | (rw [hji7] at H; exact H) | (simp only [hji7] at H ⊢; exact H)
    (try rw [hji7] at A3)
    (try rw [hji7] at A5)
    (try rw [hji7] at A6)
    have hji7w : (IntKind.i64.wrap ((wrap64 ((t311.length : Int) + (t314.length : Int))) + 4)) = ji7 := (i64_w _).trans hji7
    by_cases c8 : 0 ≤ (ji7)
    · rw [if_pos c8] at H
      have c8b0 := eq_true c8
      have c8b1 : decide (0 ≤ (ji7)) = true := decide_eq_true c8
      clear c8
      by_cases c9 : (ji7 : Int).toNat ≤ 35184372088832
      · rw [if_pos c9] at H
        have c9b0 := eq_true c9
        have c9b1 : decide ((ji7 : Int).toNat ≤ 35184372088832) = true := decide_eq_true c9
        clear c9
        obtain ⟨y317, hy317⟩ : ∃ y_ : List Int, y_ = (List.replicate (ji7 : Int).toNat 0) := ⟨_, rfl⟩
        replace H : (postmarkref02_Mul.l0 k t311 t314 y317 0) = some (r1, r2) := by first | (rw [hy317]; with_reducible exact H) | (have H2_ := (Option.bind_some _ _).symm.trans H; rw [hy317]; with_reducible exact H2_) | (have H2_ := (Option.bind_some _ _).symm.trans H; with_reducible exact H2_) | with_reducible exact H | (rw [hy317]; exact H) | exact H
        have Ny317 := Aside0.mk hy317
        clear hy317
        have H' := Aside0.mk H
        clear H
        go_enter Try.func87, Try.ntmps87
        go_wp2_with (first | ((with_reducible refine gate_callee (f := 30) rfl ?_); refine goesL_ (some 15) rfl rfl Try.func30 (by kernel_rfl) rfl #[.slice A0 l0.length c0, .slice A1 l1.length c1] rfl (by (try simp only [List.map_toArray, List.map_cons, List.map_nil]); first | done | rfl | (simp only [List.length_drop, List.length_take]; rfl)) ?_; (with_reducible refine (postmarkref02_May.calls k _ _ l0 _ _ l1 true _ ?side1 ?side2 ?side3 ?side4 A3.out).mono ?_); (case side1 => repeat (first | exact HR0.out | (with_reducible refine Kd.C_alloc ?_ _) | (with_reducible refine Kd.C_drewN ?_ _) | (with_reducible refine Kd.C_drew ?_))); (case side2 => exact HC0.out); (case side3 => repeat (first | exact HR1.out | (with_reducible refine Kd.C_alloc ?_ _) | (with_reducible refine Kd.C_drewN ?_ _) | (with_reducible refine Kd.C_drew ?_))); (case side4 => exact HC1.out); rintro e w10 ⟨rfl, hb⟩; refine ⟨_, rfl, ?_⟩; have n0_ := Aside0.mk (below_step (by repeat (first | (with_reducible first | exact HB.out | apply below_alloc | apply pw_below_drewN | apply below_drew1) | exact HB.out)) hb); clear HB; have HB := n0_; clear n0_; (try clear hb); (try clear hb2); (try clear hk); (try clear hi)) | ((with_reducible refine gate_callee (f := 76) rfl ?_); refine goesL_ (some 19) rfl rfl Try.func76 (by kernel_rfl) rfl #[.slice A0 l0.length c0] rfl (by (try simp only [List.map_toArray, List.map_cons, List.map_nil]); first | done | rfl | (simp only [List.length_drop, List.length_take]; rfl)) ?_; (with_reducible refine (postmarkref02_Digits.calls k _ _ l0 t311 _ ?side1 ?side2 A5.out).mono ?_); (case side1 => repeat (first | exact (Kd.C_below HR0.out HB.out) | (with_reducible refine Kd.C_alloc ?_ _) | (with_reducible refine Kd.C_drewN ?_ _) | (with_reducible refine Kd.C_drew ?_))); (case side2 => exact HC0.out); rintro e w11 ⟨v312, rfl, ho0, hb⟩; refine ⟨_, rfl, ?_⟩; have n0_ := Aside0.mk (Kd.R_lower ho0 (below_size (by repeat (first | (with_reducible first | exact HB.out | apply below_alloc | apply pw_below_drewN | apply below_drew1) | exact HB.out)))); have n1_ := Aside0.mk (below_step (by repeat (first | (with_reducible first | exact HB.out | apply below_alloc | apply pw_below_drewN | apply below_drew1) | exact HB.out)) hb); clear HB; have HO313 := n0_; have HB := n1_; clear n0_ n1_; (try clear hb); (try clear hb2); (try clear hk); (try clear hi); (try clear ho0)) | ((with_reducible refine gate_callee (f := 76) rfl ?_); refine goesL_ (some 21) rfl rfl Try.func76 (by kernel_rfl) rfl #[.slice A1 l1.length c1] rfl (by (try simp only [List.map_toArray, List.map_cons, List.map_nil]); first | done | rfl | (simp only [List.length_drop, List.length_take]; rfl)) ?_; (with_reducible refine (postmarkref02_Digits.calls k _ _ l1 t314 _ ?side1 ?side2 A6.out).mono ?_); (case side1 => repeat (first | exact (Kd.C_below HR1.out HB.out) | (with_reducible refine Kd.C_alloc ?_ _) | (with_reducible refine Kd.C_drewN ?_ _) | (with_reducible refine Kd.C_drew ?_))); (case side2 => exact HC1.out); rintro e w12 ⟨v315, rfl, ho0, hb⟩; refine ⟨_, rfl, ?_⟩; have n0_ := Aside0.mk (Kd.R_elder' (by (with_reducible repeat (first | apply Kd.R_alloc | apply Kd.R_drewN | apply Kd.R_drew)); exact HO313.out) (Kd.R_base ho0) hb); have n1_ := Aside0.mk (Kd.R_lower (Kd.R_new' ho0 (Kd.R_lt (by (with_reducible repeat (first | apply Kd.R_alloc | apply Kd.R_drewN | apply Kd.R_drew)); exact HO313.out))) (below_size (by repeat (first | (with_reducible first | exact HB.out | apply below_alloc | apply pw_below_drewN | apply below_drew1) | exact HB.out)))); have n2_ := Aside0.mk (below_step (by repeat (first | (with_reducible first | exact HB.out | apply below_alloc | apply pw_below_drewN | apply below_drew1) | exact HB.out)) hb); clear HO313; clear HB; have HO313 := n0_; have HO316 := n1_; have HB := n2_; clear n0_ n1_ n2_; (try clear hb); (try clear hb2); (try clear hk); (try clear hi); (try clear ho0); obtain ⟨Ao13, co13, eo13⟩ := Kd.R_slice HO313.out; subst eo13; obtain ⟨Ao14, co14, eo14⟩ := Kd.R_slice HO316.out; subst eo14) | ((with_reducible refine gate_dst (N := 28) rfl ?_); refine Kd.R_make (Kd.int .i64) _ 3 rfl (N := 28) rfl 100 _ _ rfl ji7 rfl rfl Try.underlying100 (.int .i64 0) 8 info3 rfl (by decide) (by omega) 0 (ok := fun _ => True) (okp := fun _ => True) rfl (fun _ hk => hk) trivial (of_decide_eq_true (by first | (with_reducible assumption) | assumption)) (Nat.le_trans (Nat.mul_le_mul_right _ (of_decide_eq_true (by first | (with_reducible assumption) | assumption) : ji7.toNat ≤ 35184372088832)) (by omega)) (Below.refl _ _) (Nat.le_refl _) ?_; intro v318 w15 ho16 hb hg_ hnew_; clear hg_ hnew_; (first | rw [← Ny317.out] at ho16 | (simp only [Int.reduceToNat] at ho16; rw [← Ny317.out] at ho16)); have n0_ := Aside0.mk (Kd.R_elder' (by (with_reducible repeat (first | apply Kd.R_alloc | apply Kd.R_drewN | apply Kd.R_drew)); exact HO313.out) (Kd.R_base ho16) hb); have n1_ := Aside0.mk (Kd.R_elder' (by (with_reducible repeat (first | apply Kd.R_alloc | apply Kd.R_drewN | apply Kd.R_drew)); exact HO316.out) (Kd.R_base ho16) hb); have n2_ := Aside0.mk (Kd.R_lower (Kd.R_new' (Kd.R_new' ho16 (Kd.R_lt (by (with_reducible repeat (first | apply Kd.R_alloc | apply Kd.R_drewN | apply Kd.R_drew)); exact HO313.out))) (Kd.R_lt (by (with_reducible repeat (first | apply Kd.R_alloc | apply Kd.R_drewN | apply Kd.R_drew)); exact HO316.out))) (below_size (by repeat (first | (with_reducible first | exact HB.out | apply below_alloc | apply pw_below_drewN | apply below_drew1) | exact HB.out)))); have n3_ := Aside0.mk (below_step (by repeat (first | (with_reducible first | exact HB.out | apply below_alloc | apply pw_below_drewN | apply below_drew1) | exact HB.out)) hb); clear HO313; clear HO316; clear HB; have HO313 := n0_; have HO316 := n1_; have HO319 := n2_; have HB := n3_; clear n0_ n1_ n2_ n3_; clear hb ho16))
        go_loopg [10] k (fun kq v10 w' => ∃ (x9_1 : List Int) (x10_1 : Int), v10 = .int .i64 x10_1 ∧ Aside0 (postmarkref02_Mul.l0 kq t311 t314 x9_1 x10_1 = some (r1, r2)) ∧ Aside0 (kq ≤ k) ∧ Aside0 (Kd.R (Kd.int .i64) 3 w' w.heap.size (fun k_ => some k_ ≠ ((.slice Ao14 t314.length co14) : Value).ownBlock ∧ some k_ ≠ (v318 : Value).ownBlock) (.slice Ao13 t311.length co13) t311) ∧ Aside0 (Kd.R (Kd.int .i64) 3 w' w.heap.size (fun k_ => some k_ ≠ ((.slice Ao13 t311.length co13) : Value).ownBlock ∧ some k_ ≠ (v318 : Value).ownBlock) (.slice Ao14 t314.length co14) t314) ∧ Aside0 (Kd.R (Kd.int .i64) 3 w' w.heap.size (fun k_ => some k_ ≠ ((.slice Ao13 t311.length co13) : Value).ownBlock ∧ some k_ ≠ ((.slice Ao14 t314.length co14) : Value).ownBlock) v318 x9_1) ∧ Aside0 (Below w.heap.size w w'))
        case atStart => exact ⟨(y317), (0), (by first | rfl | (simp; done) | (simp [*]; done)), H', ⟨Nat.le_refl _⟩, ⟨by (with_reducible repeat (first | apply Kd.R_alloc | apply Kd.R_drewN | apply Kd.R_drew)); exact Kd.R_mono HO313.out (fun _ hk => ⟨hk.1.2, hk.2⟩)⟩, ⟨by (with_reducible repeat (first | apply Kd.R_alloc | apply Kd.R_drewN | apply Kd.R_drew)); exact Kd.R_mono HO316.out (fun _ hk => ⟨hk.1.2, hk.2⟩)⟩, ⟨by (with_reducible repeat (first | apply Kd.R_alloc | apply Kd.R_drewN | apply Kd.R_drew)); exact Kd.R_mono HO319.out (fun _ hk => ⟨hk.1.2, hk.2⟩)⟩, ⟨by repeat (first | (with_reducible first | exact HB.out | apply below_alloc | apply pw_below_drewN | apply below_drew1) | exact HB.out)⟩⟩
        case round =>
          clear H'
          try clear c1
          try clear p2
          try clear c3
          try clear c4
          try clear p6
          try clear c7
          try clear c8
          try clear c8b0
          try clear c8b1
          try clear c9
          try clear c9b0
          try clear c9b1
          obtain ⟨x9_1, x10_1, rfl, HA, HK1, HO_7, HO_8, HO_9, HB⟩ := hrel
          cases gk with
          | zero => exact absurd HA.out (by simp [postmarkref02_Mul.l0])
          | succ k1 =>
            have H := HA.out
            clear HA
            simp only [postmarkref02_Mul.l0] at H
            by_cases c17 : x10_1 < (t311.length : Int)
            · rw [if_pos c17] at H
              have c17b0 : decide (x10_1 < (t311.length : Int)) = true := decide_eq_true c17
              clear c17
              have H' := Aside0.mk H
              clear H
              go_wp2
              go_loopg [11] k1 (fun kq v11 w' => ∃ (x9_2 : List Int) (x11_2 : Int), v11 = .int .i64 x11_2 ∧ Aside0 (postmarkref02_Mul.l1 kq t311 t314 x9_2 x10_1 x11_2 = some (r1, r2)) ∧ Aside0 (kq ≤ k1) ∧ Aside0 (Kd.R (Kd.int .i64) 3 w' w.heap.size (fun k_ => some k_ ≠ ((.slice Ao14 t314.length co14) : Value).ownBlock ∧ some k_ ≠ (v318 : Value).ownBlock) (.slice Ao13 t311.length co13) t311) ∧ Aside0 (Kd.R (Kd.int .i64) 3 w' w.heap.size (fun k_ => some k_ ≠ ((.slice Ao13 t311.length co13) : Value).ownBlock ∧ some k_ ≠ (v318 : Value).ownBlock) (.slice Ao14 t314.length co14) t314) ∧ Aside0 (Kd.R (Kd.int .i64) 3 w' w.heap.size (fun k_ => some k_ ≠ ((.slice Ao13 t311.length co13) : Value).ownBlock ∧ some k_ ≠ ((.slice Ao14 t314.length co14) : Value).ownBlock) v318 x9_2) ∧ Aside0 (Below w.heap.size w w'))
              case atStart => exact ⟨(x9_1), (0), (by first | rfl | (simp; done) | (simp [*]; done)), H', ⟨Nat.le_refl _⟩, ⟨by (with_reducible repeat (first | apply Kd.R_alloc | apply Kd.R_drewN | apply Kd.R_drew)); exact HO_7.out⟩, ⟨by (with_reducible repeat (first | apply Kd.R_alloc | apply Kd.R_drewN | apply Kd.R_drew)); exact HO_8.out⟩, ⟨by (with_reducible repeat (first | apply Kd.R_alloc | apply Kd.R_drewN | apply Kd.R_drew)); exact HO_9.out⟩, ⟨by repeat (first | (with_reducible first | exact HB.out | apply below_alloc | apply pw_below_drewN | apply below_drew1) | exact HB.out)⟩⟩
              case round =>
                clear H'
                try clear c1
                try clear p2
                try clear c3
                try clear c4
                try clear p6
                try clear c7
                try clear c8
                try clear c8b0
                try clear c8b1
                try clear c9
                try clear c9b0
                try clear c9b1
                try clear c17
                try clear c17b0
                try clear p2
                try clear p6
                obtain ⟨x9_2, x11_2, rfl, HA, HK2, HO_7, HO_8, HO_9, HB⟩ := hrel
                cases gk with
                | zero => exact absurd HA.out (by simp [postmarkref02_Mul.l1])
                | succ k2 =>
                  have H := HA.out
                  clear HA
                  simp only [postmarkref02_Mul.l1] at H
                  by_cases c18 : x11_2 < (t314.length : Int)
                  · rw [if_pos c18] at H
                    have c18b0 : decide (x11_2 < (t314.length : Int)) = true := decide_eq_true c18
                    clear c18
                    obtain ⟨ji19, hji19⟩ : ∃ j_ : Int, (wrap64 (x10_1 + x11_2)) = j_ := ⟨_, rfl⟩
                    replace H : (if 0 ≤ (ji19) then (if (ji19) < (x9_2.length : Int) then (if 0 ≤ x10_1 then (if x10_1 < (t311.length : Int) then (if 0 ≤ x11_2 then (postmarkref02_Mul.l1 k2 t311 t314 (x9_2.set ((ji19) : Int).toNat (wrap64 ((rd x9_2 (ji19)) + (wrap64 ((rd t311 x10_1) * (rd t314 x11_2)))))) x10_1 (wrap64 (x11_2 + 1))) else (none)) else (none)) else (none)) else (none)) else (none)) = some (r1, r2) := by first | (rw [hji19] at H; exact H) | (simp only [hji19] at H ⊢; exact H)
                    have hji19w : (IntKind.i64.wrap (x10_1 + x11_2)) = ji19 := (i64_w _).trans hji19
                    by_cases c20 : 0 ≤ (ji19)
                    · rw [if_pos c20] at H
                      have c20b0 : decide (0 ≤ (ji19)) = true := decide_eq_true c20
                      clear c20
                      by_cases c21 : (ji19) < (x9_2.length : Int)
                      · rw [if_pos c21] at H
                        have c21b0 : decide ((ji19) < (x9_2.length : Int)) = true := decide_eq_true c21
                        clear c21
                        by_cases c22 : 0 ≤ x10_1
                        · rw [if_pos c22] at H
                          have c22b0 : decide (0 ≤ x10_1) = true := decide_eq_true c22
                          clear c22
                          by_cases c23 : x10_1 < (t311.length : Int)
                          · rw [if_pos c23] at H
                            have c23b0 : decide (x10_1 < (t311.length : Int)) = true := decide_eq_true c23
                            clear c23
                            by_cases c24 : 0 ≤ x11_2
                            · rw [if_pos c24] at H
                              have c24b0 : decide (0 ≤ x11_2) = true := decide_eq_true c24
                              clear c24
                              obtain ⟨y323, hy323⟩ : ∃ y_ : List Int, y_ = (x9_2.set ((ji19) : Int).toNat (wrap64 ((rd x9_2 (ji19)) + (wrap64 ((rd t311 x10_1) * (rd t314 x11_2)))))) := ⟨_, rfl⟩
                              replace H : (postmarkref02_Mul.l1 k2 t311 t314 y323 x10_1 (wrap64 (x11_2 + 1))) = some (r1, r2) := by first | (rw [hy323]; with_reducible exact H) | (have H2_ := (Option.bind_some _ _).symm.trans H; rw [hy323]; with_reducible exact H2_) | (have H2_ := (Option.bind_some _ _).symm.trans H; with_reducible exact H2_) | with_reducible exact H | (rw [hy323]; exact H) | exact H
                              have Ny323 := Aside0.mk hy323
                              clear hy323
                              have H' := Aside0.mk H
                              clear H
                              try go_wp2
                              have n0_ := Aside0.mk (Kd.R_drew HO_7.out)
                              have n1_ := Aside0.mk (Kd.R_drew HO_8.out)
                              have n2_ := Aside0.mk (Kd.R_drew HO_9.out)
                              have n3_ := Aside0.mk (below_drew1 HB.out)
                              clear HO_7
                              clear HO_8
                              clear HO_9
                              clear HB
                              have HO_7 := n0_
                              have HO_8 := n1_
                              have HO_9 := n2_
                              have HB := n3_
                              clear n0_ n1_ n2_ n3_
                              obtain ⟨Ao27, co27, eo27⟩ := Kd.R_slice HO_9.out
                              (first | subst eo27 | (injection eo27 with f1_ f2_ f3_; have f4_ := f1_.symm; have f5_ := f3_.symm; clear f1_ f2_ f3_; subst f4_; subst f5_))
                              have p320 : 0 ≤ ((ji19) : Int) := of_decide_eq_true (by first | (with_reducible assumption) | assumption)
                              have q320 : (ji19) < (x9_2.length : Int) := of_decide_eq_true (by first | (with_reducible assumption) | assumption)
                              obtain ⟨ad320, e320, hx320_0⟩ := Kd.at_int (Kd.R_reads' HO_9.out).2.2 (ji19) p320 q320
                              cases e320
                              replace p320 := eq_true p320
                              replace q320 := eq_true q320
                              have p321 : 0 ≤ (x10_1 : Int) := of_decide_eq_true (by first | (with_reducible assumption) | assumption)
                              have q321 : x10_1 < (t311.length : Int) := of_decide_eq_true (by first | (with_reducible assumption) | assumption)
                              obtain ⟨ad321, e321, hx321_0⟩ := Kd.at_int (Kd.R_reads' HO_7.out).2.2 x10_1 p321 q321
                              cases e321
                              replace p321 := eq_true p321
                              replace q321 := eq_true q321
                              have p322 : 0 ≤ (x11_2 : Int) := of_decide_eq_true (by first | (with_reducible assumption) | assumption)
                              have q322 : x11_2 < (t314.length : Int) := of_decide_eq_true (by first | (with_reducible assumption) | assumption)
                              obtain ⟨ad322, e322, hx322_0⟩ := Kd.at_int (Kd.R_reads' HO_8.out).2.2 x11_2 p322 q322
                              cases e322
                              replace p322 := eq_true p322
                              replace q322 := eq_true q322
                              have p25 : 0 ≤ ((ji19) : Int) := of_decide_eq_true (by first | (with_reducible assumption) | assumption)
                              have q25 : ((ji19) : Int) < ((x9_2.length : Int) : Int) := of_decide_eq_true (by first | (with_reducible assumption) | assumption)
                              obtain ⟨go25, co25, eo25, gb25, gl25, cl25, HG25⟩ := Kd.R_form HO_9.out (by omega)
                              (first | cases eo25 | (injection eo25 with ea_ en_ ec_; (first | subst ea_ | (injection ea_ with ea_; subst ea_)); subst ec_; clear en_))
                              have GB25 := Aside0.mk gb25
                              have GG25 := Aside0.mk HG25
                              clear gb25 gl25 HG25
                              (first | simp only [add_plain] at hx320_0 | skip)
                              obtain ⟨hx25_0, hf25_0⟩ := Kd.R_celln 0 HO_9.out ((ji19) : Int) p25 q25
                              replace p25 := eq_true p25
                              replace q25 := eq_true q25
                              have HP28 := Kd.R_putn HO_9.out ((ji19) : Int) (wrap64 ((rd x9_2 (ji19)) + (wrap64 ((rd t311 x10_1) * (rd t314 x11_2)))))
                              rw [← Ny323.out] at HP28
                              have HQ28 := Aside0.mk HP28
                              clear HP28
                              refine start_ (n := 22) (S := fun w' => w'.cell? ⟨go25, ((ji19)).toNat, none⟩ = some (.int .i64 (rd x9_2 (ji19))) ∧ w'.cell? (ad321.add (x10_1).toNat) = some (.int .i64 (rd t311 x10_1)) ∧ w'.cell? (ad322.add (x11_2).toNat) = some (.int .i64 (rd t314 x11_2))) (ds := [21]) #[false, false, false, false, false, false, false, false, false, false, false, false, false, false, false, false, false, false, false, false, false, false] (by kernel_rfl) rfl rfl ⟨hx320_0, hx321_0, hx322_0⟩ (fun hHeld => ?_); refine with_tabW postmarkref02_Mul.tab13 postmarkref02_Mul.bits13 (fun HT_ HW_ => ?_)
                              generalize wr.drew = w26 at HO_7 HO_8 HO_9 HB GG25 HQ28 hf25_0 hx25_0 hx320_0 hx321_0 hx322_0 hHeld ⊢
                              refine pure_ (i := 0) (N := some 41) (v := ?_) (a' := ?_) #[true, false, false, false, false, false, false, false, false, false, false, false, false, false, false, false, false, false, false, false, false, false] rfl rfl (any_of HT_.out (by kernel_rfl)) (fun _ _ _ h => h) (Or.inl ⟨by rfl, ?_⟩) ?_ ?_
                              rotate_left
                              · intro w'
                                go_simp
                                with_reducible rfl
                              rotate_left
                              · simp only [Act.put, List.setIfInBounds_toArray, List.set_cons_zero, List.set_cons_succ, i64_w, i32_w]
                                rfl
                              refine pure_ (i := 1) (N := some 42) (v := ?_) (a' := ?_) #[true, true, false, false, false, false, false, false, false, false, false, false, false, false, false, false, false, false, false, false, false, false] rfl rfl (any_of HT_.out (by kernel_rfl)) (fun _ _ _ h => h) (Or.inl ⟨by rfl, ?_⟩) ?_ ?_
                              rotate_left
                              · intro w'
                                go_simp
                                with_reducible rfl
                              rotate_left
                              · simp only [Act.put, List.setIfInBounds_toArray, List.set_cons_zero, List.set_cons_succ, i64_w, i32_w]
                                rfl
                              refine pure_ (i := 2) (N := some 43) (v := ?_) (a' := ?_) #[true, true, true, false, false, false, false, false, false, false, false, false, false, false, false, false, false, false, false, false, false, false] rfl rfl (any_of HT_.out (by kernel_rfl)) (fun _ _ _ h => h) (Or.inl ⟨by rfl, ?_⟩) ?_ ?_
                              rotate_left
                              · intro w'
                                go_simp
                                with_reducible rfl
                              rotate_left
                              · simp only [Act.put, List.setIfInBounds_toArray, List.set_cons_zero, List.set_cons_succ, i64_w, i32_w]
                                rfl
                              refine pure_ (i := 3) (N := some 44) (v := ?_) (a' := ?_) #[true, true, true, true, false, false, false, false, false, false, false, false, false, false, false, false, false, false, false, false, false, false] rfl rfl (any_of HT_.out (by kernel_rfl)) (fun _ _ _ h => h) (Or.inl ⟨by rfl, ?_⟩) ?_ ?_
                              rotate_left
                              · intro w'
                                go_simp
                                with_reducible rfl
                              rotate_left
                              · simp only [Act.put, List.setIfInBounds_toArray, List.set_cons_zero, List.set_cons_succ, i64_w, i32_w]
                                rfl
                              refine pure_ (i := 4) (N := some 45) (v := ?_) (a' := ?_) #[true, true, true, true, true, false, false, false, false, false, false, false, false, false, false, false, false, false, false, false, false, false] rfl rfl (any_of HT_.out (by kernel_rfl)) (fun _ _ _ h => h) (Or.inl ⟨by rfl, ?_⟩) ?_ ?_
                              rotate_left
                              · intro w'
                                go_simp
                                with_reducible rfl
                              rotate_left
                              · simp only [Act.put, List.setIfInBounds_toArray, List.set_cons_zero, List.set_cons_succ, i64_w, i32_w]
                                rfl
                              refine pure_ (i := 5) (N := some 46) (v := ?_) (a' := ?_) #[true, true, true, true, true, true, false, false, false, false, false, false, false, false, false, false, false, false, false, false, false, false] rfl rfl (any_of HT_.out (by kernel_rfl)) (fun _ _ _ h => h) (Or.inl ⟨by rfl, ?_⟩) ?_ ?_
                              rotate_left
                              · intro w'
                                go_simp
                                with_reducible rfl
                              rotate_left
                              · simp only [Act.put, List.setIfInBounds_toArray, List.set_cons_zero, List.set_cons_succ, i64_w, i32_w]
                                rfl
                              refine pure_ (i := 6) (N := some 47) (v := ?_) (a' := ?_) #[true, true, true, true, true, true, true, false, false, false, false, false, false, false, false, false, false, false, false, false, false, false] rfl rfl (any_of HT_.out (by kernel_rfl)) (fun _ _ _ h => h) (Or.inl ⟨by rfl, ?_⟩) ?_ ?_
                              rotate_left
                              · intro w'
                                go_simp
                                with_reducible rfl
                              rotate_left
                              · simp only [Act.put, List.setIfInBounds_toArray, List.set_cons_zero, List.set_cons_succ, i64_w, i32_w]
                                rfl
                              refine pure_ (i := 7) (N := some 48) (v := ?_) (a' := ?_) #[true, true, true, true, true, true, true, true, false, false, false, false, false, false, false, false, false, false, false, false, false, false] rfl rfl (any_of HT_.out (by kernel_rfl)) (fun _ _ _ h => h) (Or.inl ⟨by rfl, ?_⟩) ?_ ?_
                              rotate_left
                              · intro w'
                                go_simp
                                with_reducible rfl
                              rotate_left
                              · simp only [Act.put, List.setIfInBounds_toArray, List.set_cons_zero, List.set_cons_succ, i64_w, i32_w]
                                rfl
                              refine pure_ (i := 8) (N := some 49) (v := ?_) (a' := ?_) #[true, true, true, true, true, true, true, true, true, false, false, false, false, false, false, false, false, false, false, false, false, false] rfl rfl (any_of HT_.out (by kernel_rfl)) (fun _ _ _ h => h) (Or.inl ⟨by rfl, ?_⟩) ?_ ?_
                              rotate_left
                              · intro w'
                                go_simp
                                with_reducible rfl
                              rotate_left
                              · simp only [Act.put, List.setIfInBounds_toArray, List.set_cons_zero, List.set_cons_succ, i64_w, i32_w]
                                rfl
                              refine pure_ (i := 10) (N := some 51) (v := ?_) (a' := ?_) #[true, true, true, true, true, true, true, true, true, false, true, false, false, false, false, false, false, false, false, false, false, false] rfl rfl (any_of HT_.out (by kernel_rfl)) (fun _ _ _ h => h) (Or.inl ⟨by rfl, ?_⟩) ?_ ?_
                              rotate_left
                              · intro w'
                                go_simp
                                with_reducible rfl
                              rotate_left
                              · simp only [Act.put, List.setIfInBounds_toArray, List.set_cons_zero, List.set_cons_succ, i64_w, i32_w]
                                rfl
                              refine pure_ (i := 11) (N := some 52) (v := ?_) (a' := ?_) #[true, true, true, true, true, true, true, true, true, false, true, true, false, false, false, false, false, false, false, false, false, false] rfl rfl (any_of HT_.out (by kernel_rfl)) (fun _ _ _ h => h) (Or.inl ⟨by rfl, ?_⟩) ?_ ?_
                              rotate_left
                              · intro w'
                                go_simp
                                with_reducible rfl
                              rotate_left
                              · simp only [Act.put, List.setIfInBounds_toArray, List.set_cons_zero, List.set_cons_succ, i64_w, i32_w]
                                rfl
                              refine pure_ (i := 12) (N := some 53) (v := ?_) (a' := ?_) #[true, true, true, true, true, true, true, true, true, false, true, true, true, false, false, false, false, false, false, false, false, false] rfl rfl (any_of HT_.out (by kernel_rfl)) (fun _ _ _ h => h) (Or.inl ⟨by rfl, ?_⟩) ?_ ?_
                              rotate_left
                              · intro w'
                                go_simp
                                with_reducible rfl
                              rotate_left
                              · simp only [Act.put, List.setIfInBounds_toArray, List.set_cons_zero, List.set_cons_succ, i64_w, i32_w]
                                rfl
                              refine pure_ (i := 14) (N := some 55) (v := ?_) (a' := ?_) #[true, true, true, true, true, true, true, true, true, false, true, true, true, false, true, false, false, false, false, false, false, false] rfl rfl (any_of HT_.out (by kernel_rfl)) (fun _ _ _ h => h) (Or.inl ⟨by rfl, ?_⟩) ?_ ?_
                              rotate_left
                              · intro w'
                                go_simp
                                with_reducible rfl
                              rotate_left
                              · simp only [Act.put, List.setIfInBounds_toArray, List.set_cons_zero, List.set_cons_succ, i64_w, i32_w]
                                rfl
                              refine pure_ (i := 15) (N := some 56) (v := ?_) (a' := ?_) #[true, true, true, true, true, true, true, true, true, false, true, true, true, false, true, true, false, false, false, false, false, false] rfl rfl (any_of HT_.out (by kernel_rfl)) (fun _ _ _ h => h) (Or.inl ⟨by rfl, ?_⟩) ?_ ?_
                              rotate_left
                              · intro w'
                                go_simp
                                with_reducible rfl
                              rotate_left
                              · simp only [Act.put, List.setIfInBounds_toArray, List.set_cons_zero, List.set_cons_succ, i64_w, i32_w]
                                rfl
                              refine pure_ (i := 16) (N := some 57) (v := ?_) (a' := ?_) #[true, true, true, true, true, true, true, true, true, false, true, true, true, false, true, true, true, false, false, false, false, false] rfl rfl (any_of HT_.out (by kernel_rfl)) (fun _ _ _ h => h) (Or.inl ⟨by rfl, ?_⟩) ?_ ?_
                              rotate_left
                              · intro w'
                                go_simp
                                with_reducible rfl
                              rotate_left
                              · simp only [Act.put, List.setIfInBounds_toArray, List.set_cons_zero, List.set_cons_succ, i64_w, i32_w]
                                rfl
                              refine take_ (i := 9) (N := some 50) (v := ?_) (a' := ?_) #[true, true, true, true, true, true, true, true, true, true, true, true, true, false, true, true, true, false, false, false, false, false] rfl rfl (take_ofW HT_.out HW_.out (by kernel_rfl)) (fun _ _ _ h => h) (Or.inl ⟨by rfl, ?_⟩) hHeld ?_ ?_
                              rotate_left
                              · rintro w' ⟨s0, s1, s2⟩
                                go_simp
                                with_reducible rfl
                              rotate_left
                              · simp only [Act.put, List.setIfInBounds_toArray, List.set_cons_zero, List.set_cons_succ, i64_w, i32_w]
                                rfl
                              refine take_ (i := 13) (N := some 54) (v := ?_) (a' := ?_) #[true, true, true, true, true, true, true, true, true, true, true, true, true, true, true, true, true, false, false, false, false, false] rfl rfl (take_ofW HT_.out HW_.out (by kernel_rfl)) (fun _ _ _ h => h) (Or.inl ⟨by rfl, ?_⟩) hHeld ?_ ?_
                              rotate_left
                              · rintro w' ⟨s0, s1, s2⟩
                                go_simp
                                with_reducible rfl
                              rotate_left
                              · simp only [Act.put, List.setIfInBounds_toArray, List.set_cons_zero, List.set_cons_succ, i64_w, i32_w]
                                rfl
                              refine take_ (i := 17) (N := some 58) (v := ?_) (a' := ?_) #[true, true, true, true, true, true, true, true, true, true, true, true, true, true, true, true, true, true, false, false, false, false] rfl rfl (take_ofW HT_.out HW_.out (by kernel_rfl)) (fun _ _ _ h => h) (Or.inl ⟨by rfl, ?_⟩) hHeld ?_ ?_
                              rotate_left
                              · rintro w' ⟨s0, s1, s2⟩
                                go_simp
                                with_reducible rfl
                              rotate_left
                              · simp only [Act.put, List.setIfInBounds_toArray, List.set_cons_zero, List.set_cons_succ, i64_w, i32_w]
                                rfl
                              refine pure_ (i := 18) (N := some 59) (v := ?_) (a' := ?_) #[true, true, true, true, true, true, true, true, true, true, true, true, true, true, true, true, true, true, true, false, false, false] rfl rfl (any_of HT_.out (by kernel_rfl)) (fun _ _ _ h => h) (Or.inl ⟨by rfl, ?_⟩) ?_ ?_
                              rotate_left
                              · intro w'
                                go_simp
                                with_reducible rfl
                              rotate_left
                              · simp only [Act.put, List.setIfInBounds_toArray, List.set_cons_zero, List.set_cons_succ, i64_w, i32_w]
                                rfl
                              refine pure_ (i := 19) (N := some 60) (v := ?_) (a' := ?_) #[true, true, true, true, true, true, true, true, true, true, true, true, true, true, true, true, true, true, true, true, false, false] rfl rfl (any_of HT_.out (by kernel_rfl)) (fun _ _ _ h => h) (Or.inl ⟨by rfl, ?_⟩) ?_ ?_
                              rotate_left
                              · intro w'
                                go_simp
                                with_reducible rfl
                              rotate_left
                              · simp only [Act.put, List.setIfInBounds_toArray, List.set_cons_zero, List.set_cons_succ, i64_w, i32_w]
                                rfl
                              refine pure_ (i := 20) (N := some 61) (v := ?_) (a' := ?_) #[true, true, true, true, true, true, true, true, true, true, true, true, true, true, true, true, true, true, true, true, true, false] rfl rfl (any_of HT_.out (by kernel_rfl)) (fun _ _ _ h => h) (Or.inl ⟨by rfl, ?_⟩) ?_ ?_
                              rotate_left
                              · intro w'
                                go_simp
                                with_reducible rfl
                              rotate_left
                              · simp only [Act.put, List.setIfInBounds_toArray, List.set_cons_zero, List.set_cons_succ, i64_w, i32_w]
                                rfl
                              refine last_ (i := 21) (N := none) #[true, true, true, true, true, true, true, true, true, true, true, true, true, true, true, true, true, true, true, true, true, true] rfl rfl (one_of HT_.out (by kernel_rfl)) (by decide) (fun K hK => ?_)
                              refine skip_ (w1 := ?_) (by rfl) rfl ?_ ?_
                              rotate_left
                              · go_simp
                                rfl
                              refine hK.out _ _ ?_
                              clear hK K
                              refine done_ (done_of HT_.out (by kernel_rfl)) ?_
                              try go_wp2
                              go_roundg k2
                              case measure => have := HK1.out; have := HK2.out; omega
                              case rel => exact ⟨(y323), (wrap64 (x11_2 + 1)), (by first | rfl | (simp; done) | (simp [*]; done)), H', ⟨by have := HK1.out; have := HK2.out; omega⟩, ⟨by (with_reducible repeat (first | apply Kd.R_alloc | apply Kd.R_drewN | apply Kd.R_drew)); exact Kd.R_mono (Kd.R_far (p := ⟨go25, ((ji19) : Int).toNat, none⟩) (Kd.R_mono HO_7.out (fun k_ hk => (⟨hk, fun e_ => hk.2 (by rw [e_]; rfl)⟩ : _ ∧ k_ ≠ go25))) (fun _ hk => hk.2) (.int .i64 (wrap64 ((rd x9_2 (ji19)) + (wrap64 ((rd t311 x10_1) * (rd t314 x11_2))))))) (fun _ hk => ⟨hk.1.1, hk.1.2⟩)⟩, ⟨by (with_reducible repeat (first | apply Kd.R_alloc | apply Kd.R_drewN | apply Kd.R_drew)); exact Kd.R_mono (Kd.R_far (p := ⟨go25, ((ji19) : Int).toNat, none⟩) (Kd.R_mono HO_8.out (fun k_ hk => (⟨hk, fun e_ => hk.2 (by rw [e_]; rfl)⟩ : _ ∧ k_ ≠ go25))) (fun _ hk => hk.2) (.int .i64 (wrap64 ((rd x9_2 (ji19)) + (wrap64 ((rd t311 x10_1) * (rd t314 x11_2))))))) (fun _ hk => ⟨hk.1.1, hk.1.2⟩)⟩, ⟨by (with_reducible repeat (first | apply Kd.R_alloc | apply Kd.R_drewN | apply Kd.R_drew)); exact HQ28.out⟩, ⟨by repeat (first | (with_reducible first | exact HB.out | apply below_alloc | apply pw_below_drewN | apply below_drew1 | refine below_set ?_ GB25.out) | exact HB.out)⟩⟩
                            · rw [if_neg c24] at H
                              exact absurd H (by simp)
                          · rw [if_neg c23] at H
                            exact absurd H (by simp)
                        · rw [if_neg c22] at H
                          exact absurd H (by simp)
                      · rw [if_neg c21] at H
                        exact absurd H (by simp)
                    · rw [if_neg c20] at H
                      exact absurd H (by simp)
                  · rw [if_neg c18] at H
                    have c18b0 : decide (x11_2 < (t314.length : Int)) = false := decide_eq_false c18
                    clear c18
                    have H' := Aside0.mk H
                    clear H
                    go_wp2
                    go_roundg k2
                    case measure => have := HK1.out; have := HK2.out; omega
                    case rel => exact ⟨(x9_2), (wrap64 (x10_1 + 1)), (by first | rfl | (simp; done) | (simp [*]; done)), H', ⟨by have := HK1.out; have := HK2.out; omega⟩, ⟨by (with_reducible repeat (first | apply Kd.R_alloc | apply Kd.R_drewN | apply Kd.R_drew)); exact HO_7.out⟩, ⟨by (with_reducible repeat (first | apply Kd.R_alloc | apply Kd.R_drewN | apply Kd.R_drew)); exact HO_8.out⟩, ⟨by (with_reducible repeat (first | apply Kd.R_alloc | apply Kd.R_drewN | apply Kd.R_drew)); exact HO_9.out⟩, ⟨by repeat (first | (with_reducible first | exact HB.out | apply below_alloc | apply pw_below_drewN | apply below_drew1) | exact HB.out)⟩⟩
            · rw [if_neg c17] at H
              have c17b0 : decide (x10_1 < (t311.length : Int)) = false := decide_eq_false c17
              clear c17
              have H' := Aside0.mk H
              clear H
              go_wp2
              go_loopg [12] k1 (fun kq v12 w' => ∃ (x9_2 : List Int) (x12_2 : Int), v12 = .int .i64 x12_2 ∧ Aside0 (postmarkref02_Mul.l2 kq x9_2 x12_2 = some (r1, r2)) ∧ Aside0 (kq ≤ k1) ∧ Aside0 (Kd.R (Kd.int .i64) 3 w' w.heap.size (fun _ => True) v318 x9_2) ∧ Aside0 (Below w.heap.size w w'))
              case atStart => exact ⟨(x9_1), (0), (by first | rfl | (simp; done) | (simp [*]; done)), H', ⟨Nat.le_refl _⟩, ⟨by (with_reducible repeat (first | apply Kd.R_alloc | apply Kd.R_drewN | apply Kd.R_drew)); exact Kd.R_mono HO_9.out (fun _ hk => trivial)⟩, ⟨by repeat (first | (with_reducible first | exact HB.out | apply below_alloc | apply pw_below_drewN | apply below_drew1) | exact HB.out)⟩⟩
              case round =>
                clear H'
                try clear c1
                try clear c2
                try clear p2
                try clear q2
                try clear hx2
                try clear hf2
                try clear c3
                try clear p3
                try clear q3
                try clear hx3
                try clear c4
                try clear p6
                try clear c7
                try clear c8
                try clear c8b0
                try clear c8b1
                try clear c9
                try clear c9b0
                try clear c9b1
                try clear c17
                try clear c17b0
                try clear c18
                try clear c18b0
                try clear c20
                try clear c20b0
                try clear c21
                try clear c21b0
                try clear c22
                try clear c22b0
                try clear c23
                try clear c23b0
                try clear c24
                try clear c24b0
                try clear p25
                try clear q25
                try clear hx25
                try clear hf25
                try clear hx25_0
                try clear hx320_0
                try clear hx321_0
                try clear hx322_0
                try clear p2
                try clear p25
                try clear p320
                try clear p321
                try clear p322
                try clear p6
                try clear q25
                try clear q320
                try clear q321
                try clear q322
                obtain ⟨x9_2, x12_2, rfl, HA, HK2, HO_9, HB⟩ := hrel
                cases gk with
                | zero => exact absurd HA.out (by simp [postmarkref02_Mul.l2])
                | succ k2 =>
                  have H := HA.out
                  clear HA
                  simp only [postmarkref02_Mul.l2] at H
                  by_cases c29 : (wrap64 (x12_2 + 1)) < (x9_2.length : Int)
                  · rw [if_pos c29] at H
                    have c29b0 : decide ((wrap64 (x12_2 + 1)) < (x9_2.length : Int)) = true := decide_eq_true c29
                    clear c29
                    obtain ⟨ji30, hji30⟩ : ∃ j_ : Int, (wrap64 (x12_2 + 1)) = j_ := ⟨_, rfl⟩
                    replace H : (if 0 ≤ (ji30) then (if 0 ≤ x12_2 then (if x12_2 < (x9_2.length : Int) then ((some (x9_2.set ((ji30) : Int).toNat (wrap64 ((rd x9_2 (ji30)) + (wrap64 (Int.tdiv (rd x9_2 x12_2) 256)))) : List Int)).bind fun y326 => (postmarkref02_Mul.l2 k2 (y326.set (x12_2 : Int).toNat (Int.tmod (rd y326 x12_2) 256)) ji30)) else (none)) else (none)) else (none)) = some (r1, r2) := by first | (rw [hji30] at H; exact H) | (simp only [hji30] at H ⊢; exact H)
                    (try rw [hji30] at c29b0)
                    have hji30w : (IntKind.i64.wrap (x12_2 + 1)) = ji30 := (i64_w _).trans hji30
                    by_cases c31 : 0 ≤ (ji30)
                    · rw [if_pos c31] at H
                      have c31b0 : decide (0 ≤ (ji30)) = true := decide_eq_true c31
                      clear c31
                      by_cases c32 : 0 ≤ x12_2
                      · rw [if_pos c32] at H
                        have c32b0 : decide (0 ≤ x12_2) = true := decide_eq_true c32
                        clear c32
                        by_cases c33 : x12_2 < (x9_2.length : Int)
                        · rw [if_pos c33] at H
                          have c33b0 : decide (x12_2 < (x9_2.length : Int)) = true := decide_eq_true c33
                          clear c33
                          obtain ⟨y326, hy326⟩ : ∃ y_ : List Int, y_ = (x9_2.set ((ji30) : Int).toNat (wrap64 ((rd x9_2 (ji30)) + (wrap64 (Int.tdiv (rd x9_2 x12_2) 256))))) := ⟨_, rfl⟩
                          replace H : (postmarkref02_Mul.l2 k2 (y326.set (x12_2 : Int).toNat (Int.tmod (rd y326 x12_2) 256)) ji30) = some (r1, r2) := by first | (rw [hy326]; with_reducible exact H) | (have H2_ := (Option.bind_some _ _).symm.trans H; rw [hy326]; with_reducible exact H2_) | (have H2_ := (Option.bind_some _ _).symm.trans H; with_reducible exact H2_) | with_reducible exact H | (rw [hy326]; exact H) | exact H
                          have Ny326 := Aside0.mk hy326
                          clear hy326
                          obtain ⟨y328, hy328⟩ : ∃ y_ : List Int, y_ = (y326.set (x12_2 : Int).toNat (Int.tmod (rd y326 x12_2) 256)) := ⟨_, rfl⟩
                          replace H : (postmarkref02_Mul.l2 k2 y328 ji30) = some (r1, r2) := by first | (rw [hy328]; with_reducible exact H) | (have H2_ := (Option.bind_some _ _).symm.trans H; rw [hy328]; with_reducible exact H2_) | (have H2_ := (Option.bind_some _ _).symm.trans H; with_reducible exact H2_) | with_reducible exact H | (rw [hy328]; exact H) | exact H
                          have Ny328 := Aside0.mk hy328
                          clear hy328
                          have H' := Aside0.mk H
                          clear H
                          obtain ⟨Ao36, co36, eo36⟩ := Kd.R_slice HO_9.out
                          subst eo36
                          try go_wp2
                          have n0_ := Aside0.mk (Kd.R_drew HO_9.out)
                          have n1_ := Aside0.mk (below_drew1 HB.out)
                          clear HO_9
                          clear HB
                          have HO_9 := n0_
                          have HB := n1_
                          clear n0_ n1_
                          have p324 : 0 ≤ ((ji30) : Int) := of_decide_eq_true (by first | (with_reducible assumption) | assumption)
                          have q324 : (ji30) < (x9_2.length : Int) := of_decide_eq_true (by first | (with_reducible assumption) | assumption)
                          obtain ⟨ad324, e324, hx324_0⟩ := Kd.at_int (Kd.R_reads' HO_9.out).2.2 (ji30) p324 q324
                          cases e324
                          replace p324 := eq_true p324
                          replace q324 := eq_true q324
                          have p325 : 0 ≤ (x12_2 : Int) := of_decide_eq_true (by first | (with_reducible assumption) | assumption)
                          have q325 : x12_2 < (x9_2.length : Int) := of_decide_eq_true (by first | (with_reducible assumption) | assumption)
                          obtain ⟨ad325, e325, hx325_0⟩ := Kd.at_int (Kd.R_reads' HO_9.out).2.2 x12_2 p325 q325
                          obtain rfl : ad324 = ad325 := (by injection e325)
                          replace p325 := eq_true p325
                          replace q325 := eq_true q325
                          have p34 : 0 ≤ ((ji30) : Int) := of_decide_eq_true (by first | (with_reducible assumption) | assumption)
                          have q34 : ((ji30) : Int) < ((x9_2.length : Int) : Int) := of_decide_eq_true (by first | (with_reducible assumption) | assumption)
                          obtain ⟨go34, co34, eo34, gb34, gl34, cl34, HG34⟩ := Kd.R_form HO_9.out (by omega)
                          (first | cases eo34 | (injection eo34 with ea_ en_ ec_; (first | subst ea_ | (injection ea_ with ea_; subst ea_)); subst ec_; clear en_))
                          have GB34 := Aside0.mk gb34
                          have GG34 := Aside0.mk HG34
                          clear gb34 gl34 HG34
                          (first | simp only [add_plain] at hx324_0 | skip)
                          (first | simp only [add_plain] at hx325_0 | skip)
                          obtain ⟨hx34_0, hf34_0⟩ := Kd.R_celln 0 HO_9.out ((ji30) : Int) p34 q34
                          replace p34 := eq_true p34
                          replace q34 := eq_true q34
                          have HP38 := Kd.R_putn HO_9.out ((ji30) : Int) (wrap64 ((rd x9_2 (ji30)) + (wrap64 (Int.tdiv (rd x9_2 x12_2) 256))))
                          rw [← Ny326.out] at HP38
                          have HQ38 := Aside0.mk HP38
                          clear HP38
                          refine start_ (n := 16) (S := fun w' => w'.cell? ⟨go34, ((ji30)).toNat, none⟩ = some (.int .i64 (rd x9_2 (ji30))) ∧ w'.cell? ⟨go34, (x12_2).toNat, none⟩ = some (.int .i64 (rd x9_2 x12_2))) (ds := [15]) #[false, false, false, false, false, false, false, false, false, false, false, false, false, false, false, false] (by kernel_rfl) rfl rfl ⟨hx324_0, hx325_0⟩ (fun hHeld => ?_); refine with_tabW postmarkref02_Mul.tab17 postmarkref02_Mul.bits17 (fun HT_ HW_ => ?_)
                          generalize wr.drew = w37 at HO_9 HB GG34 HQ38 hf34_0 hx324_0 hx325_0 hx34_0 hHeld ⊢
                          refine pure_ (i := 0) (N := some 69) (v := ?_) (a' := ?_) #[true, false, false, false, false, false, false, false, false, false, false, false, false, false, false, false] rfl rfl (any_of HT_.out (by kernel_rfl)) (fun _ _ _ h => h) (Or.inl ⟨by rfl, ?_⟩) ?_ ?_
                          rotate_left
                          · intro w'
                            go_simp
                            with_reducible rfl
                          rotate_left
                          · simp only [Act.put, List.setIfInBounds_toArray, List.set_cons_zero, List.set_cons_succ, i64_w, i32_w]
                            rfl
                          refine pure_ (i := 1) (N := some 70) (v := ?_) (a' := ?_) #[true, true, false, false, false, false, false, false, false, false, false, false, false, false, false, false] rfl rfl (any_of HT_.out (by kernel_rfl)) (fun _ _ _ h => h) (Or.inl ⟨by rfl, ?_⟩) ?_ ?_
                          rotate_left
                          · intro w'
                            go_simp
                            with_reducible rfl
                          rotate_left
                          · simp only [Act.put, List.setIfInBounds_toArray, List.set_cons_zero, List.set_cons_succ, i64_w, i32_w]
                            rfl
                          refine pure_ (i := 2) (N := some 71) (v := ?_) (a' := ?_) #[true, true, true, false, false, false, false, false, false, false, false, false, false, false, false, false] rfl rfl (any_of HT_.out (by kernel_rfl)) (fun _ _ _ h => h) (Or.inl ⟨by rfl, ?_⟩) ?_ ?_
                          rotate_left
                          · intro w'
                            go_simp
                            with_reducible rfl
                          rotate_left
                          · simp only [Act.put, List.setIfInBounds_toArray, List.set_cons_zero, List.set_cons_succ, i64_w, i32_w]
                            rfl
                          refine pure_ (i := 3) (N := some 72) (v := ?_) (a' := ?_) #[true, true, true, true, false, false, false, false, false, false, false, false, false, false, false, false] rfl rfl (any_of HT_.out (by kernel_rfl)) (fun _ _ _ h => h) (Or.inl ⟨by rfl, ?_⟩) ?_ ?_
                          rotate_left
                          · intro w'
                            go_simp
                            with_reducible rfl
                          rotate_left
                          · simp only [Act.put, List.setIfInBounds_toArray, List.set_cons_zero, List.set_cons_succ, i64_w, i32_w]
                            rfl
                          refine pure_ (i := 4) (N := some 73) (v := ?_) (a' := ?_) #[true, true, true, true, true, false, false, false, false, false, false, false, false, false, false, false] rfl rfl (any_of HT_.out (by kernel_rfl)) (fun _ _ _ h => h) (Or.inl ⟨by rfl, ?_⟩) ?_ ?_
                          rotate_left
                          · intro w'
                            go_simp
                            with_reducible rfl
                          rotate_left
                          · simp only [Act.put, List.setIfInBounds_toArray, List.set_cons_zero, List.set_cons_succ, i64_w, i32_w]
                            rfl
                          refine pure_ (i := 5) (N := some 74) (v := ?_) (a' := ?_) #[true, true, true, true, true, true, false, false, false, false, false, false, false, false, false, false] rfl rfl (any_of HT_.out (by kernel_rfl)) (fun _ _ _ h => h) (Or.inl ⟨by rfl, ?_⟩) ?_ ?_
                          rotate_left
                          · intro w'
                            go_simp
                            with_reducible rfl
                          rotate_left
                          · simp only [Act.put, List.setIfInBounds_toArray, List.set_cons_zero, List.set_cons_succ, i64_w, i32_w]
                            rfl
                          refine pure_ (i := 6) (N := some 75) (v := ?_) (a' := ?_) #[true, true, true, true, true, true, true, false, false, false, false, false, false, false, false, false] rfl rfl (any_of HT_.out (by kernel_rfl)) (fun _ _ _ h => h) (Or.inl ⟨by rfl, ?_⟩) ?_ ?_
                          rotate_left
                          · intro w'
                            go_simp
                            with_reducible rfl
                          rotate_left
                          · simp only [Act.put, List.setIfInBounds_toArray, List.set_cons_zero, List.set_cons_succ, i64_w, i32_w]
                            rfl
                          refine pure_ (i := 8) (N := some 77) (v := ?_) (a' := ?_) #[true, true, true, true, true, true, true, false, true, false, false, false, false, false, false, false] rfl rfl (any_of HT_.out (by kernel_rfl)) (fun _ _ _ h => h) (Or.inl ⟨by rfl, ?_⟩) ?_ ?_
                          rotate_left
                          · intro w'
                            go_simp
                            with_reducible rfl
                          rotate_left
                          · simp only [Act.put, List.setIfInBounds_toArray, List.set_cons_zero, List.set_cons_succ, i64_w, i32_w]
                            rfl
                          refine pure_ (i := 9) (N := some 78) (v := ?_) (a' := ?_) #[true, true, true, true, true, true, true, false, true, true, false, false, false, false, false, false] rfl rfl (any_of HT_.out (by kernel_rfl)) (fun _ _ _ h => h) (Or.inl ⟨by rfl, ?_⟩) ?_ ?_
                          rotate_left
                          · intro w'
                            go_simp
                            with_reducible rfl
                          rotate_left
                          · simp only [Act.put, List.setIfInBounds_toArray, List.set_cons_zero, List.set_cons_succ, i64_w, i32_w]
                            rfl
                          refine pure_ (i := 10) (N := some 79) (v := ?_) (a' := ?_) #[true, true, true, true, true, true, true, false, true, true, true, false, false, false, false, false] rfl rfl (any_of HT_.out (by kernel_rfl)) (fun _ _ _ h => h) (Or.inl ⟨by rfl, ?_⟩) ?_ ?_
                          rotate_left
                          · intro w'
                            go_simp
                            with_reducible rfl
                          rotate_left
                          · simp only [Act.put, List.setIfInBounds_toArray, List.set_cons_zero, List.set_cons_succ, i64_w, i32_w]
                            rfl
                          refine take_ (i := 7) (N := some 76) (v := ?_) (a' := ?_) #[true, true, true, true, true, true, true, true, true, true, true, false, false, false, false, false] rfl rfl (take_ofW HT_.out HW_.out (by kernel_rfl)) (fun _ _ _ h => h) (Or.inl ⟨by rfl, ?_⟩) hHeld ?_ ?_
                          rotate_left
                          · rintro w' ⟨s0, s1⟩
                            go_simp
                            with_reducible rfl
                          rotate_left
                          · simp only [Act.put, List.setIfInBounds_toArray, List.set_cons_zero, List.set_cons_succ, i64_w, i32_w]
                            rfl
                          refine take_ (i := 11) (N := some 80) (v := ?_) (a' := ?_) #[true, true, true, true, true, true, true, true, true, true, true, true, false, false, false, false] rfl rfl (take_ofW HT_.out HW_.out (by kernel_rfl)) (fun _ _ _ h => h) (Or.inl ⟨by rfl, ?_⟩) hHeld ?_ ?_
                          rotate_left
                          · rintro w' ⟨s0, s1⟩
                            go_simp
                            with_reducible rfl
                          rotate_left
                          · simp only [Act.put, List.setIfInBounds_toArray, List.set_cons_zero, List.set_cons_succ, i64_w, i32_w]
                            rfl
                          refine pure_ (i := 12) (N := some 81) (v := ?_) (a' := ?_) #[true, true, true, true, true, true, true, true, true, true, true, true, true, false, false, false] rfl rfl (any_of HT_.out (by kernel_rfl)) (fun _ _ _ h => h) (Or.inl ⟨by rfl, ?_⟩) ?_ ?_
                          rotate_left
                          · intro w'
                            go_simp
                            with_reducible rfl
                          rotate_left
                          · simp only [Act.put, List.setIfInBounds_toArray, List.set_cons_zero, List.set_cons_succ, i64_w, i32_w]
                            rfl
                          refine pure_ (i := 13) (N := some 82) (v := ?_) (a' := ?_) #[true, true, true, true, true, true, true, true, true, true, true, true, true, true, false, false] rfl rfl (any_of HT_.out (by kernel_rfl)) (fun _ _ _ h => h) (Or.inl ⟨by rfl, ?_⟩) ?_ ?_
                          rotate_left
                          · intro w'
                            go_simp
                            with_reducible rfl
                          rotate_left
                          · simp only [Act.put, List.setIfInBounds_toArray, List.set_cons_zero, List.set_cons_succ, i64_w, i32_w]
                            rfl
                          refine pure_ (i := 14) (N := some 83) (v := ?_) (a' := ?_) #[true, true, true, true, true, true, true, true, true, true, true, true, true, true, true, false] rfl rfl (any_of HT_.out (by kernel_rfl)) (fun _ _ _ h => h) (Or.inl ⟨by rfl, ?_⟩) ?_ ?_
                          rotate_left
                          · intro w'
                            go_simp
                            with_reducible rfl
                          rotate_left
                          · simp only [Act.put, List.setIfInBounds_toArray, List.set_cons_zero, List.set_cons_succ, i64_w, i32_w]
                            rfl
                          refine last_ (i := 15) (N := none) #[true, true, true, true, true, true, true, true, true, true, true, true, true, true, true, true] rfl rfl (one_of HT_.out (by kernel_rfl)) (by decide) (fun K hK => ?_)
                          refine skip_ (w1 := ?_) (by rfl) rfl ?_ ?_
                          rotate_left
                          · go_simp
                            rfl
                          refine hK.out _ _ ?_
                          clear hK K
                          refine done_ (done_of HT_.out (by kernel_rfl)) ?_
                          have n0_ : Aside0 (Kd.R (Kd.int .i64) 3 (w37.setCell ⟨go34, ((ji30) : Int).toNat, none⟩ (.int .i64 (wrap64 ((rd x9_2 (ji30)) + (wrap64 (Int.tdiv (rd x9_2 x12_2) 256)))))) w.heap.size (fun _ => True) (.slice (some ⟨go34, 0, none⟩) x9_2.length co36) y326) := ⟨by (with_reducible repeat (first | apply Kd.R_alloc | apply Kd.R_drewN | apply Kd.R_drew)); exact HQ38.out⟩
                          have n1_ : Aside0 (Below w.heap.size w (w37.setCell ⟨go34, ((ji30) : Int).toNat, none⟩ (.int .i64 (wrap64 ((rd x9_2 (ji30)) + (wrap64 (Int.tdiv (rd x9_2 x12_2) 256))))))) := ⟨by repeat (first | (with_reducible first | exact HB.out | apply below_alloc | apply pw_below_drewN | apply below_drew1 | refine below_set ?_ GB34.out) | exact HB.out)⟩
                          (try clear HO_9)
                          (try clear HB)
                          generalize (w37.setCell ⟨go34, ((ji30) : Int).toNat, none⟩ (.int .i64 (wrap64 ((rd x9_2 (ji30)) + (wrap64 (Int.tdiv (rd x9_2 x12_2) 256)))))) = w39 at n0_ n1_ ⊢
                          have HO_9 := n0_
                          have HB := n1_
                          clear n0_ n1_
                          have p327 : 0 ≤ (x12_2 : Int) := of_decide_eq_true (by first | (with_reducible assumption) | assumption)
                          have q327 : x12_2 < (y326.length : Int) := (by have h_ : (x12_2 : Int) < ((x9_2.length : Int) : Int) := of_decide_eq_true (by first | (with_reducible assumption) | assumption); first | (have e_ := (Kd.R_reads' HO_9.out).1; omega) | simpa only [Ny326.out, List.length_set] using h_)
                          have ql327 : ((x12_2 : Int) < ((x9_2.length : Int) : Int)) = True := eq_true (of_decide_eq_true (by first | (with_reducible assumption) | assumption))
                          obtain ⟨ad327, e327, hx327_0⟩ := Kd.at_int (Kd.R_reads' HO_9.out).2.2 x12_2 p327 q327
                          obtain rfl : (⟨go34, 0, none⟩ : Addr) = ad327 := (by injection e327)
                          (first | simp only [add_plain] at hx327_0 | simp only [add_at] at hx327_0 | simp only [Addr.add, Nat.zero_add] at hx327_0 | skip)
                          replace p327 := eq_true p327
                          replace q327 := eq_true q327
                          have p35 : 0 ≤ (x12_2 : Int) := of_decide_eq_true (by first | (with_reducible assumption) | assumption)
                          have q35 : (x12_2 : Int) < ((x9_2.length : Int) : Int) := of_decide_eq_true (by first | (with_reducible assumption) | assumption)
                          obtain ⟨hx35_0, hf35_0⟩ := Kd.R_celln 0 HO_9.out (x12_2 : Int) p35 q35
                          replace p35 := eq_true p35
                          replace q35 := eq_true q35
                          obtain ⟨hy40_, hz40_⟩ := Kd.R_celln 0 HO_9.out (x12_2 : Int) (of_decide_eq_true (by first | (with_reducible assumption) | assumption)) (of_decide_eq_true (by first | (with_reducible assumption) | assumption))
                          have HP40 := Kd.R_putg HO_9.out (x12_2 : Int) (Int.tmod (rd y326 x12_2) 256)
                          try go_wp2_with (first | ((with_reducible refine gate_store (t := 3) (p := 91) rfl ?_); refine store_event (t := 3) (p := 91) (v := ?vo_w41) (w1 := (w39.setCell ⟨go34, (x12_2 : Int).toNat, none⟩ (.int .i64 (Int.tmod (rd y326 x12_2) 256)))) ?hg ?ho ?hn ?hr ?_; (case ho => rfl); (case hg => rfl); (case hn => rfl); (case hr => first | (go_simp; done) | (go_simp; rfl)); intro w41 hw; have hg : w39.grownBy w41 (some go34) := (by rw [hw]; exact HP40.2); have hp_ : Kd.R (Kd.int .i64) 3 w41 w.heap.size (fun _ => True) (.slice (some ⟨go34, 0, none⟩) x9_2.length co36) y328 := (by rw [hw, Ny328.out]; exact HP40.1); clear HP40; have n0_ := Aside0.mk (hp_); have n1_ := Aside0.mk ((by rw [hw]; exact below_set (HB.out) GB34.out : Below w.heap.size w w41)); clear HO_9; clear HB; have HO_9 := n0_; have HB := n1_; clear n0_ n1_; clear hg hw hp_))
                          go_roundg k2
                          case measure => have := HK1.out; have := HK2.out; omega
                          case rel => exact ⟨(y328), (ji30), (by first | rfl | (simp; done) | (simp only [← hji30] <;> (first | rfl | simp)) | (simp [*]; done)), H', ⟨by have := HK1.out; have := HK2.out; omega⟩, ⟨by (with_reducible repeat (first | apply Kd.R_alloc | apply Kd.R_drewN | apply Kd.R_drew)); exact HO_9.out⟩, ⟨by repeat (first | (with_reducible first | exact HB.out | apply below_alloc | apply pw_below_drewN | apply below_drew1) | exact HB.out)⟩⟩
                        · rw [if_neg c33] at H
                          exact absurd H (by simp)
                      · rw [if_neg c32] at H
                        exact absurd H (by simp)
                    · rw [if_neg c31] at H
                      exact absurd H (by simp)
                  · rw [if_neg c29] at H
                    have c29b0 : decide ((wrap64 (x12_2 + 1)) < (x9_2.length : Int)) = false := decide_eq_false c29
                    clear c29
                    replace H := Option.bind_eq_some_iff.mp H
                    obtain ⟨⟨t329, t332⟩, A420, H⟩ := H
                    replace H : (some (t329, t332)) = some (r1, r2) := H
                    have A42 := Aside0.mk A420
                    clear A420
                    simp only [Option.some.injEq, Prod.mk.injEq] at H
                    obtain ⟨rfl, rfl⟩ := H
                    obtain ⟨Ao43, co43, eo43⟩ := Kd.R_slice HO_9.out
                    subst eo43
                    go_wp2_with (first | ((with_reducible refine gate_callee (f := 126) rfl ?_); refine goesL_ (some 93) rfl rfl Try.func126 (by kernel_rfl) rfl #[.slice Ao43 x9_2.length co43] rfl (by (try simp only [List.map_toArray, List.map_cons, List.map_nil]); first | done | rfl | (simp only [List.length_drop, List.length_take]; rfl)) ?_; (with_reducible refine (postmarkref02_Cut.calls k2 (fun k_ => some k_ = (.slice Ao43 x9_2.length co43 : Value).ownBlock) (.slice Ao43 x9_2.length co43) x9_2 t329 t332 w _ ?side1 ?side2 A42.out).mono ?_); (case side1 => repeat (first | (with_reducible first | exact HB.out | apply below_alloc | apply pw_below_drewN | apply below_drew1) | exact HB.out)); (case side2 => exact Kd.R_tight rfl HO_9.out); rintro e w44 ⟨v330, rfl, ho0, hb, hkp⟩; refine ⟨_, rfl, ?_⟩; have n0_ := Aside0.mk (Kd.R_mono (ok' := fun k_ => True) ho0 (fun k_ hk_ => trivial)); have n1_ := Aside0.mk (hb); clear HB; clear HO_9; have HO331 := n0_; have HB := n1_; clear n0_ n1_; (try clear hb); (try clear hkp); (try clear ho0)))
                    go_ret2
                    exact ⟨_, by first | rfl | (simp [errW_none, errW_some] <;> rfl) | (simp only [← hji7]; first | rfl | (simp [errW_none, errW_some] <;> rfl)) | (simp [*, errW_none, errW_some] <;> rfl), by (with_reducible repeat (first | apply Kd.R_alloc | apply Kd.R_drewN | apply Kd.R_drew)); exact HO331.out, by repeat (first | (with_reducible first | exact HB.out | apply below_alloc | apply pw_below_drewN | apply below_drew1) | exact HB.out)⟩
      · rw [if_neg c9] at H
        exact absurd H (by simp)
    · rw [if_neg c8] at H
      exact absurd H (by simp)
  · replace c4 := Bool.eq_false_iff.mpr c4
    subst c4
    have H1 : (some (([] : List Int), 20)) = some (r1, r2) := by rw [if_neg (show ¬ (false = true) by decide)] at H; exact H
    clear H
    have H := H1
    clear H1
    simp only [Option.some.injEq, Prod.mk.injEq] at H
    obtain ⟨rfl, rfl⟩ := H
    go_enter Try.func87, Try.ntmps87
    go_wp2_with (first | ((with_reducible refine gate_callee (f := 30) rfl ?_); refine goesL_ (some 15) rfl rfl Try.func30 (by kernel_rfl) rfl #[.slice A0 l0.length c0, .slice A1 l1.length c1] rfl (by (try simp only [List.map_toArray, List.map_cons, List.map_nil]); first | done | rfl | (simp only [List.length_drop, List.length_take]; rfl)) ?_; (with_reducible refine (postmarkref02_May.calls k _ _ l0 _ _ l1 false _ ?side1 ?side2 ?side3 ?side4 A3.out).mono ?_); (case side1 => repeat (first | exact HR0.out | (with_reducible refine Kd.C_alloc ?_ _) | (with_reducible refine Kd.C_drewN ?_ _) | (with_reducible refine Kd.C_drew ?_))); (case side2 => exact HC0.out); (case side3 => repeat (first | exact HR1.out | (with_reducible refine Kd.C_alloc ?_ _) | (with_reducible refine Kd.C_drewN ?_ _) | (with_reducible refine Kd.C_drew ?_))); (case side4 => exact HC1.out); rintro e w45 ⟨rfl, hb⟩; refine ⟨_, rfl, ?_⟩; have n0_ := Aside0.mk (below_step (by repeat (first | (with_reducible first | exact HB.out | apply below_alloc | apply pw_below_drewN | apply below_drew1) | exact HB.out)) hb); clear HB; have HB := n0_; clear n0_; (try clear hb); (try clear hb2); (try clear hk); (try clear hi)))
    go_ret2
    exact ⟨_, by first | rfl | (simp [errW_none, errW_some] <;> rfl) | (simp [*, errW_none, errW_some] <;> rfl), by first | exact Kd.R_nil _ _ _ _ _ | exact Kd.N_nil _ _ _ _ _ | exact Kd.V_nil _ _ _ _ _ | exact Kd.Q_nil _ _ _ _ _ | exact Kd.S_nil _ _ _ _ _, by repeat (first | (with_reducible first | exact HB.out | apply below_alloc | apply pw_below_drewN | apply below_drew1) | exact HB.out)⟩
end Go.Proofs.Ytlifengbicpppaa.G
end
section
namespace Go.Proofs.Ytlifengbicpppaa.G
open Go.RowKit Go.Proofs.YtlifengbicpppaaW.PrintWords Go.Proofs.YtlifengbicpppaaW.PrintLast Go.Proofs.YtlifengbicpppaaW.PrintMore
attribute [local go_sem] max2_int min2_int max_two min_two max_three min_three max_four min_four   -- for this text's walks alone
set_option linter.unusedVariables false
set_option linter.unusedSimpArgs false
def postmarkref06_Modulus.f (k : Nat) (l0 : List Int) : Option (Bool) := (postmarkref02_Digits.f k l0).bind fun t190 => (some (decide ((t190.length : Int) ≤ 512)))
set_option maxHeartbeats 8000000 in
set_option maxRecDepth 100000 in
theorem postmarkref06_Modulus.calls (k : Nat) (A0 : Option Addr) (c0 : Nat) (l0 : List Int) (r : Bool) (w : World) (hr0 : Kd.C (Kd.int .u32) w A0 l0.length l0) (hc0 : l0.length ≤ c0) (h : postmarkref06_Modulus.f k l0 = some r) :
    Calls Try.prog 42 #[.slice A0 l0.length c0] w fun e w' => e = .returned (.bool r) ∧ Below w.heap.size w w' := by
  have HR0 := Aside0.mk hr0
  have HC0 := Aside0.mk hc0
  clear hr0 hc0
  have HB := Aside0.mk (Below.refl w.heap.size w)
  have H : ((postmarkref02_Digits.f k l0).bind fun t190 => (some (decide ((t190.length : Int) ≤ 512)))) = some r := h
  clear h
  replace H := Option.bind_eq_some_iff.mp H
  obtain ⟨t190, A20, H⟩ := H
  replace H : (some (decide ((t190.length : Int) ≤ 512))) = some r := H
  have A2 := Aside0.mk A20
  clear A20
  obtain rfl := Option.some.inj H
  go_enter Try.func42, Try.ntmps42
  go_wp2_with (first | ((with_reducible refine gate_callee (f := 76) rfl ?_); refine goesL_ (some 4) rfl rfl Try.func76 (by kernel_rfl) rfl #[.slice A0 l0.length c0] rfl (by (try simp only [List.map_toArray, List.map_cons, List.map_nil]); first | done | rfl | (simp only [List.length_drop, List.length_take]; rfl)) ?_; (with_reducible refine (postmarkref02_Digits.calls k _ _ l0 t190 _ ?side1 ?side2 A2.out).mono ?_); (case side1 => repeat (first | exact HR0.out | (with_reducible refine Kd.C_alloc ?_ _) | (with_reducible refine Kd.C_drewN ?_ _) | (with_reducible refine Kd.C_drew ?_))); (case side2 => exact HC0.out); rintro e w3 ⟨v191, rfl, ho0, hb⟩; refine ⟨_, rfl, ?_⟩; have n0_ := Aside0.mk (Kd.R_lower ho0 (below_size (by repeat (first | (with_reducible first | exact HB.out | apply below_alloc | apply pw_below_drewN | apply below_drew1) | exact HB.out)))); have n1_ := Aside0.mk (below_step (by repeat (first | (with_reducible first | exact HB.out | apply below_alloc | apply pw_below_drewN | apply below_drew1) | exact HB.out)) hb); clear HB; have HO192 := n0_; have HB := n1_; clear n0_ n1_; (try clear hb); (try clear hb2); (try clear hk); (try clear hi); (try clear ho0); obtain ⟨Ao4, co4, eo4⟩ := Kd.R_slice HO192.out; subst eo4))
  go_ret
  exact ⟨by first | rfl | (simp [errW_none, errW_some] <;> rfl) | (simp [*, errW_none, errW_some] <;> rfl), by repeat (first | (with_reducible first | exact HB.out | apply below_alloc | apply pw_below_drewN | apply below_drew1) | exact HB.out)⟩
end Go.Proofs.Ytlifengbicpppaa.G
end
section
namespace Go.Proofs.Ytlifengbicpppaa.G
open Go.RowKit Go.Proofs.YtlifengbicpppaaW.PrintWords Go.Proofs.YtlifengbicpppaaW.PrintLast Go.Proofs.YtlifengbicpppaaW.PrintMore
open Go.Proofs.Ytlifengbicpppaa.Num
theorem cut_ev (l : List Int) (hd : Dg 256 l) (hl : l.length < 1000000) : Ev (fun k => postmarkref02_Cut.f k l) (CUT (val 256 l)) := by
  unfold postmarkref02_Cut.f CUT
  refine (short_ev l (by omega)).bind ?_
  have hm := len_max (val 256 l)
  rw [← digs_val (by decide) hd]
  have h1 := strip_length l
  rw [← digs_val (by decide) hd] at h1
  by_cases h : (digs 256 (val 256 l)).length ≤ 1024
  · rw [if_pos (hm.1 h)]
    have h2 : ¬ ((digs 256 (val 256 l)).length : Int) > 1024 := by omega
    simp only [if_neg h2]
    exact (limbs_ev _ (by omega)).bind (Ev.now _)
  · rw [if_neg (fun h' => h (hm.2 h'))]
    have h2 : ((digs 256 (val 256 l)).length : Int) > 1024 := by omega
    simp only [if_pos h2]
    exact Ev.now _
theorem modulus_ev (x : List Int) (hx : Lb x) : Ev (fun k => postmarkref06_Modulus.f k x) (decide ((strip x).length ≤ 128)) := by
  unfold postmarkref06_Modulus.f
  refine (digits_ev x hx.dg hx.len).bind ?_
  have h1 := len_le4 (val 4294967296 x) 128
  rw [digs_val (by decide) hx.dg] at h1
  have e : decide (((digs 256 (val 4294967296 x)).length : Int) ≤ 512) = decide ((strip x).length ≤ 128) := by
    rw [decide_eq_decide]
    omega
  simp only [e]
  exact Ev.now _
theorem rsub_l0 (x y : List Int) (hx : Dg 256 x) (hy : Dg 256 y) (hl : x.length < 1000000) (hly : y.length ≤ x.length) (hle : val 256 y ≤ val 256 x) : ∀ (d i : Nat) (out : List Int) (c : Int), d = x.length - i → i ≤ x.length → out.length = i → Dg 256 out → 0 ≤ c → c ≤ 1 →
    val 256 (x.take i) + 256 ^ i * c.toNat = val 256 out + val 256 (y.take i) → Ev (fun k => postmarkref02_Sub.l0 k x y out c (i : Int)) (CUT (val 256 x - val 256 y))
  | 0, i, out, c, hdd, hi, ho, hdo, c0, c1, h => by
    obtain rfl : i = x.length := by omega
    rw [List.take_length, List.take_of_length_le hly] at h
    have hb := val_lt hdo
    rw [ho] at hb
    have hc : c.toNat = 0 := by
      rcases Nat.eq_zero_or_pos c.toNat with h1 | h1
      · exact h1
      · have : 256 ^ x.length * 1 ≤ 256 ^ x.length * c.toNat := Nat.mul_le_mul_left _ h1
        omega
    have hv : val 256 x - val 256 y = val 256 out := by rw [hc] at h; omega
    rw [hv]
    refine Ev.step (f := fun k => (postmarkref02_Cut.f k out).bind fun t => some (t.1, t.2)) (fun k => ?_) ((cut_ev _ hdo (by omega)).bind (Ev.now _))
    show postmarkref02_Sub.l0 (k + 1) x y out c ((x.length : Nat) : Int) = _
    simp only [postmarkref02_Sub.l0]
    rw [if_neg (by omega)]
  | d + 1, i, out, c, hdd, hi, ho, hdo, c0, c1, h => by
    have hxi := rd_dg hx (by decide) (i : Int)
    have b1 : (i : Int) < (x.length : Int) := by omega
    have b2 : (0 : Int) ≤ (i : Int) := by omega
    have b3 : out.length < 17592186044416 := by omega
    have hlen : (x.take i).length = i := by rw [List.length_take]; omega
    have tx := take_snoc_int x i (by omega)
    generalize hxu : rd x (i : Int) = u at *
    have fin : ∀ (t p s : Int), 0 ≤ t → val 256 (y.take (i + 1)) = val 256 (y.take i) + 256 ^ i * t.toNat → u - c - t = p - 256 * s → 0 ≤ p → p < 256 → 0 ≤ s → s ≤ 1 →
        Ev (fun k => postmarkref02_Sub.l0 k x y (out ++ [p]) s ((i + 1 : Nat) : Int)) (CUT (val 256 x - val 256 y)) := fun t p s t0 ht hp p0 p1 s0 s1 => by
      refine rsub_l0 x y hx hy hl hly hle d (i + 1) _ _ (by omega) (by omega) (by simp [ho]) (hdo.append (Dg.cons p0 p1 Dg.nil)) s0 s1 ?_
      rw [ht, tx, val_snoc, val_snoc, ho, hlen, Nat.pow_succ]
      have h7 : u.toNat + 256 * s.toNat = p.toNat + t.toNat + c.toNat := by omega
      have h8 : 256 ^ i * 256 * s.toNat = 256 ^ i * (256 * s.toNat) := Nat.mul_assoc _ _ _
      have h9 : 256 ^ i * u.toNat + 256 ^ i * (256 * s.toNat) = 256 ^ i * p.toNat + 256 ^ i * t.toNat + 256 ^ i * c.toNat := by
        rw [← Nat.mul_add, h7, Nat.mul_add, Nat.mul_add]
      rw [h8]
      generalize 256 ^ i * (256 * s.toNat) = y1 at *
      generalize 256 ^ i * p.toNat = y2 at *
      generalize 256 ^ i * u.toNat = y3 at *
      generalize 256 ^ i * c.toNat = y4 at *
      generalize 256 ^ i * t.toNat = y5 at *
      omega
    have e1 : wrap64 (u - c) = u - c := w64 (by omega) (by omega)
    have e3 : wrap64 ((i : Int) + 1) = ((i + 1 : Nat) : Int) := (w64 (by omega) (by omega)).trans (by omega)
    by_cases hiy : i < y.length
    · have ht : val 256 (y.take (i + 1)) = val 256 (y.take i) + 256 ^ i * (rd y (i : Int)).toNat := by
        rw [take_snoc_int y i hiy, val_snoc, List.length_take, Nat.min_eq_left (Nat.le_of_lt hiy)]
      have hyi := rd_dg hy (by decide) (i : Int)
      have b4 : (i : Int) < (y.length : Int) := Int.ofNat_lt.2 hiy
      by_cases hn : u - c - rd y i < 0
      · have b5 : 0 ≤ u - c - rd y i + 256 ∧ u - c - rd y i + 256 < 256 := by clear e1 e3; omega
        have fin := fin (rd y i) (u - c - rd y i + 256) 1 hyi.1 ht (by clear e1 e3; omega) b5.1 b5.2 (by decide) (by decide)
        have e4 : wrap64 (u - c - rd y i) = u - c - rd y i := w64 (by clear e1 e3; omega) (by clear e1 e3; omega)
        have e5 : wrap64 (u - c - rd y i + 256) = u - c - rd y i + 256 := w64 (by clear e1 e3 e4; omega) (by clear e1 e3 e4; omega)
        refine Ev.step (fun k => ?_) fin
        simp only [postmarkref02_Sub.l0]
        rw [hxu, e1, e4, e5, e3, if_pos b1, if_pos b2, if_pos b4, if_pos hn, if_pos b3]
      · have b5 : 0 ≤ u - c - rd y i ∧ u - c - rd y i < 256 := by clear e1 e3; omega
        have fin := fin (rd y i) (u - c - rd y i) 0 hyi.1 ht (by clear e1 e3; omega) b5.1 b5.2 (by decide) (by decide)
        have e4 : wrap64 (u - c - rd y i) = u - c - rd y i := w64 (by clear e1 e3; omega) (by clear e1 e3; omega)
        refine Ev.step (fun k => ?_) fin
        simp only [postmarkref02_Sub.l0]
        rw [hxu, e1, e4, e3, if_pos b1, if_pos b2, if_pos b4, if_neg hn, if_pos b3]
    · have ht : val 256 (y.take (i + 1)) = val 256 (y.take i) + 256 ^ i * (0 : Int).toNat := by
        rw [List.take_of_length_le (Nat.le_succ_of_le (Nat.le_of_not_lt hiy)), List.take_of_length_le (Nat.le_of_not_lt hiy)]; simp
      have b4 : ¬ (i : Int) < (y.length : Int) := fun h => hiy (Int.ofNat_lt.1 h)
      by_cases hn : u - c < 0
      · have b5 : 0 ≤ u - c + 256 ∧ u - c + 256 < 256 := by clear e1 e3; omega
        have fin := fin 0 (u - c + 256) 1 (by decide) ht (by clear e1 e3; omega) b5.1 b5.2 (by decide) (by decide)
        have e5 : wrap64 (u - c + 256) = u - c + 256 := w64 (by clear e1 e3; omega) (by clear e1 e3; omega)
        refine Ev.step (fun k => ?_) fin
        simp only [postmarkref02_Sub.l0]
        rw [hxu, e1, e5, e3, if_pos b1, if_pos b2, if_neg b4, if_pos hn, if_pos b3]
      · have b5 : 0 ≤ u - c ∧ u - c < 256 := by clear e1 e3; omega
        have fin := fin 0 (u - c) 0 (by decide) ht (by clear e1 e3; omega) b5.1 b5.2 (by decide) (by decide)
        refine Ev.step (fun k => ?_) fin
        simp only [postmarkref02_Sub.l0]
        rw [hxu, e1, e3, if_pos b1, if_pos b2, if_neg b4, if_neg hn, if_pos b3]
theorem bytes_l0 (x : List Int) (hx : Dg 256 x) (hl : x.length < 9000000) : ∀ (m : Nat) (out : List Int), m ≤ x.length → out = (x.drop m).reverse → Ev (fun k => postmarkref02_Bytes.l0 k x out ((m : Int) - 1)) x.reverse
  | 0, out, hm, ho => by
    rw [List.drop_zero] at ho
    rw [← ho]
    refine Ev.step (f := fun _ => some out) (fun k => ?_) (Ev.now _)
    simp only [postmarkref02_Bytes.l0]
    rw [if_neg (by omega)]
  | m + 1, out, hm, ho => by
    have hb := rd_dg hx (by decide) (m : Int)
    have c0 : (((m + 1 : Nat) : Int) - 1) = (m : Int) := by omega
    have c1 : (m : Int) ≥ 0 := by omega
    have c2 : (m : Int) < (x.length : Int) := by omega
    have c3 : out.length < 140737488355328 := by rw [ho, List.length_reverse, List.length_drop]; omega
    have c4 : rd x (m : Int) % 256 = rd x (m : Int) := by omega
    have e : wrap64 ((m : Int) - 1) = (m : Int) - 1 := w64 (by omega) (by omega)
    refine Ev.step (fun k => ?_) (bytes_l0 x hx hl m (out ++ [rd x (m : Int)]) (by clear e; omega) (by rw [ho, drop_rd x m (by clear e; omega), List.reverse_cons]))
    show postmarkref02_Bytes.l0 (k + 1) x out (((m + 1 : Nat) : Int) - 1) = _
    rw [c0]
    simp only [postmarkref02_Bytes.l0]
    rw [if_pos c1, if_pos (show (0 : Int) ≤ (m : Int) from c1), if_pos c2, if_pos c3, c4, e]
theorem bytes_ev (x : List Int) (hx : Lb x) : Ev (fun k => postmarkref02_Bytes.f k x) (digs 256 (val 4294967296 x)).reverse := by
  unfold postmarkref02_Bytes.f
  refine (digits_ev x hx.dg hx.len).bind ?_
  have hl : (digs 256 (val 4294967296 x)).length < 1000000 * 4 := by
    have := (len_le4 (val 4294967296 x) x.length).2 (by rw [digs_val (by decide) hx.dg]; exact strip_length x)
    have := hx.len
    omega
  have h := bytes_l0 (digs 256 (val 4294967296 x)) (digs_Dg (by decide) _) (by omega) (digs 256 (val 4294967296 x)).length [] (Nat.le_refl _) (by simp)
  have e : wrap64 (((digs 256 (val 4294967296 x)).length : Int) - 1) = ((digs 256 (val 4294967296 x)).length : Int) - 1 := w64 (by omega) (by omega)
  simp only [e]
  exact h
theorem rd_reverse (x : List Int) (i : Nat) (h : i < x.length) : rd x.reverse (i : Int) = rd x ((x.length - 1 - i : Nat) : Int) := by
  simp only [rd, List.getD_eq_getElem?_getD, Int.toNat_natCast]
  rw [List.getElem?_reverse h]
theorem rcmp_l0 (x y : List Int) (hx : Dg 256 x) (hy : Dg 256 y) (hl : x.length = y.length) (hm : x.length < 9000000) : ∀ (d i : Nat), d = x.length - i → i ≤ x.length → x.drop (x.length - i) = y.drop (x.length - i) →
    Ev (fun k => postmarkref02_Cmp.l0 k x.reverse y.reverse (i : Int)) (CMP (val 256 x) (val 256 y))
  | 0, i, hd, hi, h => by
    obtain rfl : i = x.length := by omega
    rw [Nat.sub_self, List.drop_zero, List.drop_zero] at h
    subst h
    refine Ev.step (f := fun _ => some 0) (fun k => ?_) ?_
    · simp only [postmarkref02_Cmp.l0]
      rw [if_neg (by rw [List.length_reverse]; omega)]
    · unfold CMP
      rw [if_neg (by omega), if_neg (by omega)]
      exact Ev.now _
  | d + 1, i, hd, hi, h => by
    have c1 : (i : Int) < (x.reverse.length : Int) := by rw [List.length_reverse]; omega
    have c2 : (0 : Int) ≤ (i : Int) := by omega
    have c3 : (i : Int) < (y.reverse.length : Int) := by rw [List.length_reverse]; omega
    obtain ⟨m, hm'⟩ : ∃ m, x.length - i = m + 1 := ⟨x.length - i - 1, by omega⟩
    have r1 := rd_reverse x i (by omega)
    have r2 := rd_reverse y i (by omega)
    rw [show x.length - 1 - i = m by omega] at r1
    rw [show y.length - 1 - i = m by omega] at r2
    rw [hm'] at h
    have e : wrap64 ((i : Int) + 1) = ((i + 1 : Nat) : Int) := (w64 (by omega) (by omega)).trans (by omega)
    have st : ∀ k, postmarkref02_Cmp.l0 (k + 1) x.reverse y.reverse (i : Int) = if rd x (m : Int) < rd y (m : Int) then some (-1) else if rd x (m : Int) > rd y (m : Int) then some 1 else postmarkref02_Cmp.l0 k x.reverse y.reverse ((i + 1 : Nat) : Int) := fun k => by
      simp only [postmarkref02_Cmp.l0]
      rw [if_pos c1, if_pos c2, if_pos c3, r1, r2, e]
    refine Ev.step st ?_
    rcases Int.lt_trichotomy (rd x (m : Int)) (rd y (m : Int)) with h1 | h1 | h1
    · have := val_lt_top (b := 256) (by decide) hx hy (by clear e; omega) (by clear e; omega) h h1
      simp only [if_pos h1]
      unfold CMP
      rw [if_pos this]
      exact Ev.now _
    · have n1 : ¬ rd x (m : Int) < rd y (m : Int) := by clear e; omega
      have n2 : ¬ rd x (m : Int) > rd y (m : Int) := by clear e; omega
      simp only [if_neg n1, if_neg n2]
      refine rcmp_l0 x y hx hy hl hm d (i + 1) (by clear e; omega) (by clear e; omega) ?_
      rw [show x.length - (i + 1) = m by clear e; omega, drop_rd x m (by clear e; omega), drop_rd y m (by clear e; omega), h, h1]
    · have := val_lt_top (b := 256) (by decide) hy hx (by clear e; omega) (by clear e; omega) h.symm h1
      have n1 : ¬ rd x (m : Int) < rd y (m : Int) := by clear e; omega
      have n2 : rd x (m : Int) > rd y (m : Int) := h1
      simp only [if_neg n1, if_pos n2]
      unfold CMP
      rw [if_neg (by clear e; omega), if_pos this]
      exact Ev.now _
theorem rcmp_ev (x y : List Int) (hx : Lb x) (hy : Lb y) : Ev (fun k => postmarkref02_Cmp.f k x y) (CMP (val 4294967296 x) (val 4294967296 y)) := by
  unfold postmarkref02_Cmp.f
  refine (bytes_ev x hx).bind ?_
  refine (bytes_ev y hy).bind ?_
  have lx := (len_le4 (val 4294967296 x) x.length).2 (by rw [digs_val (by decide) hx.dg]; exact strip_length x)
  have hxl := hx.len
  have dx := digs_Dg (b := 256) (by decide) (val 4294967296 x)
  have dy := digs_Dg (b := 256) (by decide) (val 4294967296 y)
  have sx := strip_digs (b := 256) (by decide) (val 4294967296 x)
  have sy := strip_digs (b := 256) (by decide) (val 4294967296 y)
  have vx := val_digs (b := 256) (by decide) (val 4294967296 x)
  have vy := val_digs (b := 256) (by decide) (val 4294967296 y)
  rw [← vx, ← vy]
  rw [vx, vy]
  generalize digs 256 (val 4294967296 x) = u at *
  generalize digs 256 (val 4294967296 y) = v at *
  rw [← vx, ← vy]
  simp only [List.length_reverse]
  by_cases h : u.length = v.length
  · have hi : (u.length : Int) = (v.length : Int) := by omega
    simp only [if_pos hi]
    exact rcmp_l0 u v dx dy h (by omega) u.length 0 (by omega) (by omega) (by rw [Nat.sub_zero, List.drop_length, h, List.drop_length])
  · have hi : ¬ (u.length : Int) = (v.length : Int) := by omega
    simp only [if_neg hi]
    unfold CMP
    rcases Nat.lt_or_gt_of_ne h with h1 | h1
    · have := val_lt_len (b := 256) (by decide) dx dy sy h1
      have h2 : (u.length : Int) < (v.length : Int) := by omega
      simp only [if_pos h2]
      rw [if_pos this]
      exact Ev.now _
    · have := val_lt_len (b := 256) (by decide) dy dx sx h1
      have h2 : ¬ (u.length : Int) < (v.length : Int) := by omega
      simp only [if_neg h2]
      rw [if_neg (by omega), if_pos this]
      exact Ev.now _
theorem rsub_ev (x y : List Int) (hx : Lb x) (hy : Lb y) : Ev (fun k => postmarkref02_Sub.f k x y) (SUB x y) := by
  unfold postmarkref02_Sub.f SUB
  refine (may_ev x y hx.dg hy.dg hx.len hy.len).bind ?_
  refine (rcmp_ev x y hx hy).bind ?_
  show Ev (fun k => if (fits x && fits y) = true then _ else _) _
  have err : Ev (fun k => postmarkref02_Sub.j0 k x y true) ([], 20) := Ev.step (f := fun _ => some ([], 20)) (fun k => by simp [postmarkref02_Sub.j0]) (Ev.now _)
  by_cases hf : (fits x && fits y) = true
  · simp only [if_pos hf]
    rw [Bool.and_eq_true] at hf
    have l1 := fits_len hf.1
    rw [hx.strip_eq] at l1
    have m1 := (len_max _).2 l1
    by_cases hle : val 4294967296 y ≤ val 4294967296 x
    · have e : decide (CMP (val 4294967296 x) (val 4294967296 y) < 0) = false := by
        unfold CMP
        rw [if_neg (by omega)]
        split <;> rfl
      simp only [e, if_pos hle]
      refine Ev.step (f := fun k => (postmarkref02_Digits.f k x).bind fun t => (postmarkref02_Digits.f k y).bind fun s => postmarkref02_Sub.l0 k t s [] 0 0) (fun k => by simp [postmarkref02_Sub.j0]) ?_
      refine (digits_ev x hx.dg hx.len).bind ?_
      refine (digits_ev y hy.dg hy.len).bind ?_
      have h := rsub_l0 (digs 256 (val 4294967296 x)) (digs 256 (val 4294967296 y)) (digs_Dg (by decide) _) (digs_Dg (by decide) _) (by omega) (digs_lt (by decide) hle) (by rw [val_digs (by decide), val_digs (by decide)]; exact hle)
        (digs 256 (val 4294967296 x)).length 0 [] 0 (by omega) (by omega) rfl Dg.nil (by decide) (by decide) (by simp [val_nil])
      rw [val_digs (by decide), val_digs (by decide)] at h
      exact h
    · have e : decide (CMP (val 4294967296 x) (val 4294967296 y) < 0) = true := by
        unfold CMP
        rw [if_pos (by omega)]
        rfl
      simp only [e, if_neg hle]
      exact err
  · simp only [if_neg hf]
    exact err
end Go.Proofs.Ytlifengbicpppaa.G
end
section
namespace Go.Proofs.Ytlifengbicpppaa.G
open Go.RowKit Go.Proofs.YtlifengbicpppaaW.PrintWords Go.Proofs.YtlifengbicpppaaW.PrintLast Go.Proofs.YtlifengbicpppaaW.PrintMore
open Go.Proofs.Ytlifengbicpppaa.Num
theorem rd_out {l : List Int} {i : Nat} (h : l.length ≤ i) : rd l (i : Int) = 0 := by simp [rd, List.getD_eq_getElem?_getD, List.getElem?_eq_none h]
theorem radd_l0 (x y : List Int) (hx : Dg 256 x) (hy : Dg 256 y) (hlx : x.length < 100000) (hly : y.length < 100000) : ∀ (d i : Nat) (out : List Int) (c : Int), d + i = max x.length y.length + 1 → out.length = i → Dg 256 out → 0 ≤ c → c ≤ 1 → (d = 0 → c = 0) →
    val 256 out + 256 ^ i * c.toNat = val 256 (x.take i) + val 256 (y.take i) → Ev (fun k => postmarkref02_Add.l0 k x y out c (i : Int)) (CUT (val 256 x + val 256 y)) := by
  have fin : ∀ (i : Nat) (out : List Int), x.length ≤ i → y.length ≤ i → out.length = i → i ≤ 100001 → Dg 256 out → val 256 out = val 256 x + val 256 y → Ev (fun k => postmarkref02_Add.l0 k x y out 0 (i : Int)) (CUT (val 256 x + val 256 y)) := fun i out h1 h2 ho hi hd hv => by
    have n1 : ¬ (i : Int) < (x.length : Int) := by omega
    have n2 : ¬ (i : Int) < (y.length : Int) := by omega
    rw [← hv]
    refine Ev.step (f := fun k => postmarkref02_Add.j1 k x y out 0 (i : Int) false) (fun k => ?_) ?_
    · simp only [postmarkref02_Add.l0]
      rw [if_neg n1, if_neg n2]
      rfl
    · refine Ev.step (f := fun k => (postmarkref02_Cut.f k out).bind fun t => some (t.1, t.2)) (fun k => ?_) ((cut_ev _ hd (by omega)).bind (Ev.now _))
      simp only [postmarkref02_Add.j1]
      simp
  intro d
  induction d with
  | zero =>
    intro i out c hdi ho hd c0 c1 hc h
    obtain rfl : c = 0 := hc rfl
    refine fin i out (by omega) (by omega) ho (by omega) hd ?_
    rw [List.take_of_length_le (by omega), List.take_of_length_le (by omega)] at h
    simpa using h
  | succ d ih =>
    intro i out c hdi ho hd c0 c1 hc h
    by_cases hend : x.length ≤ i ∧ y.length ≤ i ∧ c = 0
    · obtain ⟨h1, h2, rfl⟩ := hend
      refine fin i out h1 h2 ho (by omega) hd ?_
      rw [List.take_of_length_le h1, List.take_of_length_le h2] at h
      simpa using h
    · have b1 := rd_dg hx (by decide) (i : Int)
      have b2 := rd_dg hy (by decide) (i : Int)
      have z1 : x.length ≤ i → rd x (i : Int) = 0 := rd_out
      have z2 : y.length ≤ i → rd y (i : Int) = 0 := rd_out
      have v1 := val_take_succ 256 x i
      have v2 := val_take_succ 256 y i
      have hol : out.length < 17592186044416 := by omega
      have c2 : (0 : Int) ≤ (i : Int) := by omega
      have hcx : (i : Int) < (x.length : Int) ↔ i < x.length := by omega
      have hcy : (i : Int) < (y.length : Int) ↔ i < y.length := by omega
      generalize hu : rd x (i : Int) = u at *
      generalize hv : rd y (i : Int) = v at *
      have key : Ev (fun k => postmarkref02_Add.l0 k x y (out ++ [(c + u + v) % 256]) ((c + u + v) / 256) ((i + 1 : Nat) : Int)) (CUT (val 256 x + val 256 y)) := by
        refine ih (i + 1) _ _ (by omega) (by simp [ho]) (hd.append (Dg.cons (by omega) (by omega) Dg.nil)) (by omega) (by omega) (fun hd0 => ?_) ?_
        · have : x.length ≤ i := by omega
          have : y.length ≤ i := by omega
          omega
        · rw [v1, v2, val_snoc, ho, Nat.pow_succ]
          have h5 : ((c + u + v) % 256).toNat + 256 * ((c + u + v) / 256).toNat = u.toNat + v.toNat + c.toNat := by omega
          have h6 : 256 ^ i * ((c + u + v) % 256).toNat + 256 ^ i * (256 * ((c + u + v) / 256).toNat) = 256 ^ i * u.toNat + 256 ^ i * v.toNat + 256 ^ i * c.toNat := by
            rw [← Nat.mul_add, h5, Nat.mul_add, Nat.mul_add]
          rw [Nat.mul_assoc]
          generalize 256 ^ i * ((c + u + v) % 256).toNat = y1 at *
          generalize 256 ^ i * (256 * ((c + u + v) / 256).toNat) = y2 at *
          generalize 256 ^ i * u.toNat = y3 at *
          generalize 256 ^ i * v.toNat = y4 at *
          generalize 256 ^ i * c.toNat = y5 at *
          omega
      have e1 : wrap64 (c + u) = c + u := w64 (by omega) (by omega)
      have e2 : wrap64 (c + v) = c + v := by clear e1; exact w64 (by omega) (by omega)
      have e3 : wrap64 (c + u + v) = c + u + v := by clear e1 e2; exact w64 (by omega) (by omega)
      have e4 : ∀ t : Int, 0 ≤ t → t < 600 → Int.tmod t 256 = t % 256 ∧ wrap64 (Int.tdiv t 256) = t / 256 := fun t t0 t1 => by
        rw [Int.tdiv_eq_ediv_of_nonneg t0]
        exact ⟨Int.tmod_eq_emod_of_nonneg t0, by clear e1 e2 e3; exact w64 (by omega) (by omega)⟩
      have e5 : wrap64 ((i : Int) + 1) = ((i + 1 : Nat) : Int) := by clear e1 e2 e3 e4; exact (w64 (by omega) (by omega)).trans (by omega)
      have e6 : wrap64 c = c := by clear e1 e2 e3 e4 e5; exact w64 (by omega) (by omega)
      have bb : 0 ≤ c + u + v ∧ c + u + v < 600 ∧ 0 ≤ c + u ∧ c + u < 600 ∧ 0 ≤ c + v ∧ c + v < 600 ∧ c < 600 := by clear e1 e2 e3 e4 e5 e6; omega
      have st2 : Ev (fun k => postmarkref02_Add.j1 k x y out c (i : Int) true) (CUT (val 256 x + val 256 y)) := by
        refine Ev.step (fun k => ?_) key
        simp only [postmarkref02_Add.j1, if_true]
        by_cases h1 : i < x.length
        · by_cases h2 : i < y.length
          · rw [if_pos (hcx.2 h1), if_pos c2, if_pos (hcy.2 h2), if_pos hol, hu, hv, e1, e3, (e4 _ bb.1 bb.2.1).1, (e4 _ bb.1 bb.2.1).2, e5]
          · rw [z2 (Nat.le_of_not_lt h2), Int.add_zero, if_pos (hcx.2 h1), if_pos c2, if_neg (fun h => h2 (hcy.1 h)), if_pos hol, hu, e1, (e4 _ bb.2.2.1 bb.2.2.2.1).1, (e4 _ bb.2.2.1 bb.2.2.2.1).2, e5]
        · by_cases h2 : i < y.length
          · rw [z1 (Nat.le_of_not_lt h1), Int.add_zero, if_neg (fun h => h1 (hcx.1 h)), if_pos (hcy.2 h2), if_pos c2, if_pos hol, hv, e2, (e4 _ bb.2.2.2.2.1 bb.2.2.2.2.2.1).1, (e4 _ bb.2.2.2.2.1 bb.2.2.2.2.2.1).2, e5]
          · rw [z1 (Nat.le_of_not_lt h1), z2 (Nat.le_of_not_lt h2), Int.add_zero, Int.add_zero, if_neg (fun h => h1 (hcx.1 h)), if_neg (fun h => h2 (hcy.1 h)), if_pos hol, (e4 _ c0 bb.2.2.2.2.2.2).1, (e4 _ c0 bb.2.2.2.2.2.2).2, e5]
      refine Ev.step (fun k => ?_) st2
      simp only [postmarkref02_Add.l0]
      by_cases h1 : i < x.length
      · rw [if_pos (hcx.2 h1)]
      · rw [if_neg (fun h => h1 (hcx.1 h))]
        by_cases h2 : i < y.length
        · rw [if_pos (hcy.2 h2)]
        · rw [if_neg (fun h => h2 (hcy.1 h))]
          have : c > 0 := by clear e1 e2 e3 e4 e5 e6; omega
          rw [decide_eq_true this]
theorem radd_ev (x y : List Int) (hx : Lb x) (hy : Lb y) : Ev (fun k => postmarkref02_Add.f k x y) (ADD x y) := by
  unfold postmarkref02_Add.f ADD
  refine (may_ev x y hx.dg hy.dg hx.len hy.len).bind ?_
  show Ev (fun k => if (fits x && fits y) = true then _ else _) _
  by_cases hf : (fits x && fits y) = true
  · simp only [if_pos hf]
    rw [Bool.and_eq_true] at hf
    have l1 := fits_len hf.1
    have l2 := fits_len hf.2
    rw [hx.strip_eq] at l1
    rw [hy.strip_eq] at l2
    have m1 := (len_max _).2 l1
    have m2 := (len_max _).2 l2
    refine (digits_ev x hx.dg hx.len).bind ?_
    refine (digits_ev y hy.dg hy.len).bind ?_
    have h := radd_l0 (digs 256 (val 4294967296 x)) (digs 256 (val 4294967296 y)) (digs_Dg (by decide) _) (digs_Dg (by decide) _) (by omega) (by omega) _ 0 [] 0 rfl rfl Dg.nil (by decide) (by decide) (by simp) (by simp [val_nil])
    rw [val_digs (by decide), val_digs (by decide)] at h
    exact h
  · simp only [if_neg hf]
    exact Ev.now _
end Go.Proofs.Ytlifengbicpppaa.G
end
section
namespace Go.Proofs.Ytlifengbicpppaa.G
open Go.RowKit Go.Proofs.YtlifengbicpppaaW.PrintWords Go.Proofs.YtlifengbicpppaaW.PrintLast Go.Proofs.YtlifengbicpppaaW.PrintMore
open Go.Proofs.Ytlifengbicpppaa.Num
/-- Sums at each place, not below nought and not above a bound. -/
def Bd (M : Int) (l : List Int) : Prop := ∀ i : Nat, 0 ≤ rd l (i : Int) ∧ rd l (i : Int) ≤ M
structure RI (x y out : List Int) (i : Nat) : Prop where
  len : out.length = x.length + y.length + 4
  bd : Bd ((i : Int) * 65025) out
  sum : val 256 out = val 256 (x.take i) * val 256 y
structure RJ (x y out : List Int) (i j : Nat) : Prop where
  len : out.length = x.length + y.length + 4
  lo : ∀ t : Nat, t < i + j → 0 ≤ rd out (t : Int) ∧ rd out (t : Int) ≤ ((i : Int) + 1) * 65025
  hi : ∀ t : Nat, i + j ≤ t → 0 ≤ rd out (t : Int) ∧ rd out (t : Int) ≤ (i : Int) * 65025
  sum : val 256 out = val 256 (x.take i) * val 256 y + 256 ^ i * ((rd x (i : Int)).toNat * val 256 (y.take j))
theorem RJ.done {x y out : List Int} {i : Nat} (h : RJ x y out i y.length) : RI x y out (i + 1) := by
  refine ⟨h.len, fun t => ?_, ?_⟩
  · rcases Nat.lt_or_ge t (i + y.length) with h1 | h1
    · have := h.lo t h1
      simp only [Int.natCast_add, Int.natCast_one]
      exact this
    · have := h.hi t h1
      simp only [Int.natCast_add, Int.natCast_one, Int.add_mul]
      omega
  · have hs := h.sum
    rw [List.take_length] at hs
    rw [val_take_succ, Nat.add_mul, Nat.mul_assoc]
    exact hs
theorem RJ.step {x y out : List Int} {i j : Nat} (h : RJ x y out i j) (hx : Dg 256 x) (hy : Dg 256 y) (hi : i < x.length) (hj : j < y.length) :
    RJ x y (out.set (i + j) (rd out ((i + j : Nat) : Int) + rd x (i : Int) * rd y (j : Int))) i (j + 1) := by
  have hl := h.len
  have b1 := rd_dg hx (by decide) (i : Int)
  have b2 := rd_dg hy (by decide) (j : Int)
  have p0 : 0 ≤ rd x (i : Int) * rd y (j : Int) := Int.mul_nonneg b1.1 b2.1
  have p1 : rd x (i : Int) * rd y (j : Int) ≤ 255 * 255 := Int.mul_le_mul (by omega) (by omega) b2.1 (by omega)
  have ho := h.hi (i + j) (Nat.le_refl _)
  have hset : rd (out.set (i + j) (rd out ((i + j : Nat) : Int) + rd x (i : Int) * rd y (j : Int))) ((i + j : Nat) : Int) = rd out ((i + j : Nat) : Int) + rd x (i : Int) * rd y (j : Int) := rd_set_self _ (by omega)
  refine ⟨by simp [hl], fun t ht => ?_, fun t ht => ?_, ?_⟩
  · by_cases e : t = i + j
    · subst e
      rw [hset, Int.add_mul]
      omega
    · rw [rd_set_other _ _ _ _ (fun h => e h.symm)]
      exact h.lo t (by omega)
  · rw [rd_set_other _ _ _ _ (by omega)]
    exact h.hi t (by omega)
  · have hv := val_set2 (b := 256) out (i + j) (rd out ((i + j : Nat) : Int) + rd x (i : Int) * rd y (j : Int)) (by omega)
    rw [val_take_succ, Nat.mul_add, Nat.mul_add, ← Nat.add_assoc, ← h.sum]
    have e1 : (rd out ((i + j : Nat) : Int) + rd x (i : Int) * rd y (j : Int)).toNat = (rd out ((i + j : Nat) : Int)).toNat + (rd x (i : Int)).toNat * (rd y (j : Int)).toNat := by
      rw [Int.toNat_add ho.1 p0, Int.toNat_mul b1.1 b2.1]
    rw [e1, Nat.mul_add] at hv
    have e2 : 256 ^ i * ((rd x (i : Int)).toNat * (256 ^ j * (rd y (j : Int)).toNat)) = 256 ^ (i + j) * ((rd x (i : Int)).toNat * (rd y (j : Int)).toNat) := by
      rw [Nat.pow_add, Nat.mul_left_comm (rd x (i : Int)).toNat, Nat.mul_assoc]
    rw [e2]
    omega
theorem rmul_l0 (x y : List Int) (hx : Dg 256 x) (hy : Dg 256 y) (hlx : x.length ≤ 1024) (hly : y.length ≤ 1024) (r : List Int × Int)
    (hk : ∀ out, RI x y out x.length → Ev (fun k => postmarkref02_Mul.l2 k out 0) r) : ∀ (d i : Nat) (out : List Int), d = x.length - i → i ≤ x.length → RI x y out i → Ev (fun k => postmarkref02_Mul.l0 k x y out (i : Int)) r
  | 0, i, out, hd, hi, h => by
    obtain rfl : i = x.length := by omega
    refine Ev.step (fun k => ?_) (hk out h)
    simp only [postmarkref02_Mul.l0]
    rw [if_neg (by omega)]
  | d + 1, i, out, hd, hi, h => by
    have c1 : (i : Int) < (x.length : Int) := by omega
    have inner : ∀ (e j : Nat) (out : List Int), e = y.length - j → j ≤ y.length → RJ x y out i j → Ev (fun k => postmarkref02_Mul.l1 k x y out (i : Int) (j : Int)) r := by
      intro e
      induction e with
      | zero =>
        intro j out he hj h
        obtain rfl : j = y.length := by omega
        have e1 : wrap64 ((i : Int) + 1) = ((i + 1 : Nat) : Int) := (w64 (by omega) (by omega)).trans (by omega)
        refine Ev.step (fun k => ?_) (rmul_l0 x y hx hy hlx hly r hk d (i + 1) out (by clear e1; omega) (by clear e1; omega) h.done)
        simp only [postmarkref02_Mul.l1]
        rw [if_neg (by clear e1; omega), e1]
      | succ e ih =>
        intro j out he hj h
        have hl := h.len
        have b1 := rd_dg hx (by decide) (i : Int)
        have b2 := rd_dg hy (by decide) (j : Int)
        have p0 : 0 ≤ rd x (i : Int) * rd y (j : Int) := Int.mul_nonneg b1.1 b2.1
        have p1 : rd x (i : Int) * rd y (j : Int) ≤ 255 * 255 := Int.mul_le_mul (by omega) (by omega) b2.1 (by omega)
        have ho := h.hi (i + j) (Nat.le_refl _)
        have hs := h.step hx hy (by omega) (by omega)
        have c2 : (j : Int) < (y.length : Int) := by omega
        have c3 : (0 : Int) ≤ ((i + j : Nat) : Int) := by omega
        have c4 : ((i + j : Nat) : Int) < (out.length : Int) := by omega
        have c5 : (0 : Int) ≤ (i : Int) := by omega
        have c6 : (0 : Int) ≤ (j : Int) := by omega
        have hi2 : (i : Int) * 65025 ≤ 1024 * 65025 := by omega
        have e1 : wrap64 ((i : Int) + (j : Int)) = ((i + j : Nat) : Int) := (w64 (by omega) (by omega)).trans (by omega)
        generalize hp : rd x (i : Int) * rd y (j : Int) = p at *
        have e2 : wrap64 p = p := by clear e1; exact w64 (by omega) (by omega)
        have e3 : wrap64 (rd out ((i + j : Nat) : Int) + p) = rd out ((i + j : Nat) : Int) + p := by clear e1 e2; exact w64 (by omega) (by omega)
        have e4 : wrap64 ((j : Int) + 1) = ((j + 1 : Nat) : Int) := by clear e1 e2 e3; exact (w64 (by omega) (by omega)).trans (by omega)
        have ih := ih (j + 1) _ (by clear e1 e2 e3 e4; omega) (by clear e1 e2 e3 e4; omega) hs
        refine Ev.step (fun k => ?_) ih
        simp only [postmarkref02_Mul.l1]
        rw [hp, e1, e2, e3, e4, if_pos c2, if_pos c3, if_pos c4, if_pos c5, if_pos c1, if_pos c6, Int.toNat_natCast]
    refine Ev.step (f := fun k => postmarkref02_Mul.l1 k x y out (i : Int) ((0 : Nat) : Int)) (fun k => ?_) (inner y.length 0 out (by omega) (by omega) ⟨h.len, fun t ht => ?_, fun t _ => h.bd t, ?_⟩)
    · simp only [postmarkref02_Mul.l0]
      rw [if_pos c1]
      rfl
    · have := h.bd t
      rw [Int.add_mul]
      omega
    · rw [h.sum]; simp [val_nil]
/-- Carried up to a place. -/
structure RN (n0 : Nat) (out : List Int) (i : Nat) : Prop where
  lo : ∀ t : Nat, t < i → 0 ≤ rd out (t : Int) ∧ rd out (t : Int) < 256
  at_ : 0 ≤ rd out (i : Int) ∧ rd out (i : Int) ≤ 140000000
  hi : ∀ t : Nat, i < t → 0 ≤ rd out (t : Int) ∧ rd out (t : Int) ≤ 70000000
  sum : val 256 out = n0
theorem RN.step {n0 i : Nat} {out : List Int} (h : RN n0 out i) (hi : i + 1 < out.length) :
    RN n0 ((out.set (i + 1) (rd out ((i + 1 : Nat) : Int) + rd out (i : Int) / 256)).set i (rd out (i : Int) % 256)) (i + 1) := by
  have ha := h.at_
  have hb := h.hi (i + 1) (by omega)
  have s1 : rd (out.set (i + 1) (rd out ((i + 1 : Nat) : Int) + rd out (i : Int) / 256)) ((i + 1 : Nat) : Int) = rd out ((i + 1 : Nat) : Int) + rd out (i : Int) / 256 := rd_set_self _ hi
  have s2 : rd (out.set (i + 1) (rd out ((i + 1 : Nat) : Int) + rd out (i : Int) / 256)) (i : Int) = rd out (i : Int) := rd_set_other _ _ _ _ (by omega)
  refine ⟨fun t ht => ?_, ?_, fun t ht => ?_, ?_⟩
  · by_cases e : t = i
    · subst e
      rw [rd_set_self _ (by simp; omega)]
      omega
    · rw [rd_set_other _ _ _ _ (by omega), rd_set_other _ _ _ _ (by omega)]
      exact h.lo t (by omega)
  · rw [rd_set_other _ _ _ _ (by omega), s1]
    omega
  · rw [rd_set_other _ _ _ _ (by omega), rd_set_other _ _ _ _ (by omega)]
    exact h.hi t (by omega)
  · have v1 := val_set2 (b := 256) out (i + 1) (rd out ((i + 1 : Nat) : Int) + rd out (i : Int) / 256) hi
    have v2 := val_set2 (b := 256) (out.set (i + 1) (rd out ((i + 1 : Nat) : Int) + rd out (i : Int) / 256)) i (rd out (i : Int) % 256) (by simp; omega)
    rw [s2] at v2
    have e1 : (rd out ((i + 1 : Nat) : Int) + rd out (i : Int) / 256).toNat = (rd out ((i + 1 : Nat) : Int)).toNat + (rd out (i : Int) / 256).toNat := by omega
    have e2 : (rd out (i : Int)).toNat = (rd out (i : Int) % 256).toNat + 256 * (rd out (i : Int) / 256).toNat := by omega
    rw [e1, Nat.mul_add] at v1
    have e3 : 256 ^ i * (rd out (i : Int)).toNat = 256 ^ i * (rd out (i : Int) % 256).toNat + 256 ^ (i + 1) * (rd out (i : Int) / 256).toNat := by
      rw [e2, Nat.mul_add, Nat.pow_succ, Nat.mul_assoc]
    have hs := h.sum
    generalize 256 ^ i * (rd out (i : Int)).toNat = y1 at *
    generalize 256 ^ i * (rd out (i : Int) % 256).toNat = y2 at *
    generalize 256 ^ (i + 1) * (rd out (i : Int) / 256).toNat = y3 at *
    generalize 256 ^ (i + 1) * (rd out ((i + 1 : Nat) : Int)).toNat = y4 at *
    omega
theorem RN.dg {n0 m : Nat} {out : List Int} (h : RN n0 out m) (hl : out.length = m + 1) (hn : n0 < 256 ^ m) : Dg 256 out := by
  have h0 : rd out (m : Int) = 0 := by
    have hv := val_at (b := 256) out m (by omega)
    rw [h.sum] at hv
    have ha := h.at_
    rcases Nat.eq_zero_or_pos (rd out (m : Int)).toNat with h1 | h1
    · omega
    · exfalso
      have : 256 ^ m * 1 ≤ 256 ^ m * ((rd out (m : Int)).toNat + 256 * val 256 (out.drop (m + 1))) := Nat.mul_le_mul_left _ (by omega)
      omega
  intro x hx
  obtain ⟨i, hi, rfl⟩ := List.mem_iff_getElem.1 hx
  have e : rd out (i : Int) = out[i] := by simp [rd, hi]
  rw [← e]
  by_cases him : i = m
  · subst him
    rw [h0]
    decide
  · exact h.lo i (by omega)
theorem rmul_l2 (n0 : Nat) : ∀ (d i : Nat) (out : List Int), d + i + 1 = out.length → out.length < 100000 → n0 < 256 ^ (out.length - 1) → RN n0 out i → Ev (fun k => postmarkref02_Mul.l2 k out (i : Int)) (CUT n0)
  | 0, i, out, hd, hl, hn, h => by
    have e1 : wrap64 ((i : Int) + 1) = ((i + 1 : Nat) : Int) := (w64 (by omega) (by omega)).trans (by omega)
    have hdg := h.dg (by clear e1; omega) (by rw [show i = out.length - 1 by clear e1; omega]; exact hn)
    rw [← h.sum]
    refine Ev.step (f := fun k => (postmarkref02_Cut.f k out).bind fun t => some (t.1, t.2)) (fun k => ?_) ((cut_ev _ hdg (by clear e1; omega)).bind (Ev.now _))
    simp only [postmarkref02_Mul.l2]
    rw [e1, if_neg (by clear e1; omega)]
  | d + 1, i, out, hd, hl, hn, h => by
    have ha := h.at_
    have hb := h.hi (i + 1) (by omega)
    have hs := h.step (by omega)
    have s2 : rd (out.set (i + 1) (rd out ((i + 1 : Nat) : Int) + rd out (i : Int) / 256)) (i : Int) = rd out (i : Int) := rd_set_other _ _ _ _ (by omega)
    have c1 : ((i + 1 : Nat) : Int) < (out.length : Int) := by omega
    have c2 : (0 : Int) ≤ ((i + 1 : Nat) : Int) := by omega
    have c3 : (0 : Int) ≤ (i : Int) := by omega
    have c4 : (i : Int) < (out.length : Int) := by omega
    have ih := rmul_l2 n0 d (i + 1) _ (by simp; omega) (by simp; omega) (by simpa using hn) hs
    have e1 : wrap64 ((i : Int) + 1) = ((i + 1 : Nat) : Int) := (w64 (by omega) (by omega)).trans (by omega)
    generalize hu : rd out (i : Int) = u at *
    generalize hv : rd out ((i + 1 : Nat) : Int) = v at *
    have e2 : Int.tdiv u 256 = u / 256 := by clear e1; exact Int.tdiv_eq_ediv_of_nonneg (by omega)
    have e3 : Int.tmod u 256 = u % 256 := by clear e1 e2; exact Int.tmod_eq_emod_of_nonneg (by omega)
    have e4 : wrap64 (u / 256) = u / 256 := by clear e1 e2 e3; exact w64 (by omega) (by omega)
    have e5 : wrap64 (v + u / 256) = v + u / 256 := by clear e1 e2 e3 e4; exact w64 (by omega) (by omega)
    refine Ev.step (fun k => ?_) ih
    simp only [postmarkref02_Mul.l2]
    rw [e1, hu, hv, e2, e4, e5, if_pos c1, if_pos c2, if_pos c3, if_pos c4, Int.toNat_natCast, Option.bind_some, Int.toNat_natCast, s2, e3]
theorem rmul_ev (x y : List Int) (hx : Lb x) (hy : Lb y) : Ev (fun k => postmarkref02_Mul.f k x y) (MUL x y) := by
  unfold postmarkref02_Mul.f MUL
  refine (may_ev x y hx.dg hy.dg hx.len hy.len).bind ?_
  show Ev (fun k => if (fits x && fits y) = true then _ else _) _
  by_cases hf : (fits x && fits y) = true
  · simp only [if_pos hf]
    rw [Bool.and_eq_true] at hf
    have l1 := fits_len hf.1
    have l2 := fits_len hf.2
    rw [hx.strip_eq] at l1
    rw [hy.strip_eq] at l2
    have m1 := (len_max _).2 l1
    have m2 := (len_max _).2 l2
    refine (digits_ev x hx.dg hx.len).bind ?_
    refine (digits_ev y hy.dg hy.len).bind ?_
    have dx := digs_Dg (b := 256) (by decide) (val 4294967296 x)
    have dy := digs_Dg (b := 256) (by decide) (val 4294967296 y)
    have vx := val_digs (b := 256) (by decide) (val 4294967296 x)
    have vy := val_digs (b := 256) (by decide) (val 4294967296 y)
    generalize val 4294967296 x = a at *
    generalize val 4294967296 y = b at *
    generalize digs 256 a = u at *
    generalize digs 256 b = v at *
    have e1 : wrap64 (wrap64 ((u.length : Int) + (v.length : Int)) + 4) = ((u.length + v.length + 4 : Nat) : Int) := by
      rw [w64 (x := (u.length : Int) + (v.length : Int)) (by omega) (by omega)]
      exact (w64 (by omega) (by omega)).trans (by omega)
    have c1 : (0 : Int) ≤ ((u.length + v.length + 4 : Nat) : Int) := by clear e1; omega
    have c2 : u.length + v.length + 4 ≤ 35184372088832 := by clear e1; omega
    have hz : ∀ t : Nat, rd (List.replicate (u.length + v.length + 4) 0) (t : Int) = 0 := fun t => by
      simp only [rd, List.getD_eq_getElem?_getD, List.getElem?_replicate]
      split <;> rfl
    have h := rmul_l0 u v dx dy (by clear e1; omega) (by clear e1; omega) (CUT (a * b)) (fun out ho => ?_) u.length 0 (List.replicate (u.length + v.length + 4) 0) (by clear e1; omega) (by clear e1; omega)
      ⟨by simp, fun t => by rw [hz]; simp, by rw [val_zeros]; simp [val_nil]⟩
    · simp only [e1, if_pos c1, Int.toNat_natCast, if_pos c2]
      exact h
    · have hs := ho.sum
      rw [List.take_length, vx, vy] at hs
      have hl := ho.len
      have hb : ∀ t : Nat, 0 ≤ rd out (t : Int) ∧ rd out (t : Int) ≤ 70000000 := fun t => by
        have := ho.bd t
        have : (u.length : Int) * 65025 ≤ 1024 * 65025 := by clear e1; omega
        omega
      refine rmul_l2 (a * b) (out.length - 1) 0 out (by clear e1; omega) (by clear e1; omega) ?_ ⟨fun t ht => by omega, ⟨(hb 0).1, by have := (hb 0).2; omega⟩, fun t _ => hb t, hs⟩
      have la := val_lt dx
      have lb := val_lt dy
      rw [vx] at la
      rw [vy] at lb
      have h1 : a * b < 256 ^ u.length * 256 ^ v.length := Nat.mul_lt_mul'' la lb
      rw [← Nat.pow_add] at h1
      exact Nat.lt_of_lt_of_le h1 (Nat.pow_le_pow_right (by decide) (by clear e1; omega))
  · simp only [if_neg hf]
    exact Ev.now _
end Go.Proofs.Ytlifengbicpppaa.G
end
