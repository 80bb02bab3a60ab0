/- Part 7 of the texts for the claim RatioRests: Go functions of the program and of the document's answers, each with a proof that its calls come to a Lean function's answers, and plain laws about these. Joined by wip/merge.py of the claimant's repo out of its texts and of what the kit's print wrote for this claim. -/
import Derived.Test.YtlifengbicpppaaRest2
import Derived.Test.YtlifengbicpppaaRest4
import Derived.Test.YtlifengbicpppaaRest5
import Derived.Test.YtlifengbicpppaaRest6
import Derived.Deep.LoopGhost
set_option linter.unusedVariables false
set_option linter.unusedSimpArgs false
section
namespace Go.Proofs.Ytlifengbicpppaa.G
open Go.RowKit Go.Proofs.YtlifengbicpppaaW.PrintWords Go.Proofs.YtlifengbicpppaaW.PrintLast Go.Proofs.YtlifengbicpppaaW.PrintMore
attribute [local go_sem] max2_int min2_int max_two min_two max_three min_three max_four min_four   -- for this text's walks alone
set_option linter.unusedVariables false
set_option linter.unusedSimpArgs false
def ratio_MulMod.j0 : Nat → List Int → List Int → List Int → Bool → Option (List Int × Int)
  | 0, _, _, _, _ => none
  | k + 1, x8, x9, x11, x28 => if x28 = true then (some (([] : List Int), 20)) else (if (x11.length : Int) = 0 then (some (([] : List Int), 60)) else ((ratio_divided.f x8 x11).bind fun bt611 => ((ratio_divided.f x9 x11).bind fun bt617 => ((nat_Mul.f k bt611.2 bt617.2).bind fun bt623 => (if bt623.2 = 0 then ((ratio_divided.f bt623.1 x11).bind fun bt627 => (some (bt627.2, 0))) else (some (([] : List Int), bt623.2)))))))
def ratio_MulMod.f (k : Nat) (l0 : List Int) (l1 : List Int) (l2 : List Int) : Option (List Int × Int) := (ratio_both.f k l0 l1).bind fun bt600 => ((nat_Trim.f k l2).bind fun bt607 => (if bt600.2.2 = 0 then (if bt607.2 = 0 then (ratio_MulMod.j0 k bt600.1 bt600.2.1 bt607.1 (decide ((bt607.1.length : Int) > 128))) else (ratio_MulMod.j0 k bt600.1 bt600.2.1 bt607.1 true)) else (ratio_MulMod.j0 k bt600.1 bt600.2.1 bt607.1 true)))
set_option maxHeartbeats 8000000 in
set_option maxRecDepth 100000 in
theorem ratio_MulMod.calls (k : Nat) (A0 : Option Addr) (c0 : Nat) (l0 : List Int) (A1 : Option Addr) (c1 : Nat) (l1 : List Int) (A2 : Option Addr) (c2 : Nat) (l2 : List Int) (r1 : List Int) (r2 : Int) (w : World) (hr0 : Kd.C (Kd.int .u32) w A0 l0.length l0) (hc0 : l0.length ≤ c0) (hr1 : Kd.C (Kd.int .u32) w A1 l1.length l1) (hc1 : l1.length ≤ c1) (hr2 : Kd.C (Kd.int .u32) w A2 l2.length l2) (hc2 : l2.length ≤ c2) (h : ratio_MulMod.f k l0 l1 l2 = some (r1, r2)) :
    Calls Try.prog 43 #[.slice A0 l0.length c0, .slice A1 l1.length c1, .slice A2 l2.length c2] w fun e w' => ∃ v0_ : Value, e = .returned (.tuple #[v0_, .int .i64 r2]) ∧ Kd.R (Kd.int .u32) 75 w' w.heap.size (fun _ => True) v0_ r1 ∧ Below w.heap.size w w' := by
  have HR0 := Aside0.mk hr0
  have HC0 := Aside0.mk hc0
  clear hr0 hc0
  have HR1 := Aside0.mk hr1
  have HC1 := Aside0.mk hc1
  clear hr1 hc1
  have HR2 := Aside0.mk hr2
  have HC2 := Aside0.mk hc2
  clear hr2 hc2
  have HB := Aside0.mk (Below.refl w.heap.size w)
  have H : ((ratio_both.f k l0 l1).bind fun bt600 => ((nat_Trim.f k l2).bind fun bt607 => (if bt600.2.2 = 0 then (if bt607.2 = 0 then (ratio_MulMod.j0 k bt600.1 bt600.2.1 bt607.1 (decide ((bt607.1.length : Int) > 128))) else (ratio_MulMod.j0 k bt600.1 bt600.2.1 bt607.1 true)) else (ratio_MulMod.j0 k bt600.1 bt600.2.1 bt607.1 true)))) = some (r1, r2) := h
  clear h
  replace H := Option.bind_eq_some_iff.mp H
  obtain ⟨⟨t600, t601, t602⟩, A40, H⟩ := H
  replace H : ((nat_Trim.f k l2).bind fun bt607 => (if t602 = 0 then (if bt607.2 = 0 then (ratio_MulMod.j0 k t600 t601 bt607.1 (decide ((bt607.1.length : Int) > 128))) else (ratio_MulMod.j0 k t600 t601 bt607.1 true)) else (ratio_MulMod.j0 k t600 t601 bt607.1 true))) = some (r1, r2) := H
  have A4 := Aside0.mk A40
  clear A40
  replace H := Option.bind_eq_some_iff.mp H
  obtain ⟨⟨t607, t608⟩, A50, H⟩ := H
  replace H : (if t602 = 0 then (if t608 = 0 then (ratio_MulMod.j0 k t600 t601 t607 (decide ((t607.length : Int) > 128))) else (ratio_MulMod.j0 k t600 t601 t607 true)) else (ratio_MulMod.j0 k t600 t601 t607 true)) = some (r1, r2) := H
  have A5 := Aside0.mk A50
  clear A50
  have HC6 := Aside0.mk H
  clear H
  go_enter Try.func43, Try.ntmps43
  go_upto_region 3 with (first | ((with_reducible refine gate_callee (f := 77) rfl ?_); refine goesL_ (some 19) rfl rfl Try.func77 (by kernel_rfl) rfl #[.slice A0 l0.length c0, .slice A1 l1.length c1] rfl (by (try simp only [List.map_toArray, List.map_cons, List.map_nil]); first | done | rfl | (simp only [List.length_drop, List.length_take]; rfl)) ?_; (with_reducible refine (ratio_both.calls k _ _ l0 _ _ l1 t600 t601 t602 _ ?side1 ?side2 ?side3 ?side4 A4.out).mono ?_); (case side1 => repeat (first | exact HR0.out | (with_reducible refine Kd.C_alloc ?_ _) | (with_reducible refine Kd.C_drewN ?_ _) | (with_reducible refine Kd.C_drew ?_))); (case side2 => exact HC0.out); (case side3 => repeat (first | exact HR1.out | (with_reducible refine Kd.C_alloc ?_ _) | (with_reducible refine Kd.C_drewN ?_ _) | (with_reducible refine Kd.C_drew ?_))); (case side4 => exact HC1.out); rintro e w7 ⟨v603, v605, rfl, ho0, ho1, hb⟩; refine ⟨_, rfl, ?_⟩; have n0_ := Aside0.mk (Kd.R_lower ho0 (below_size (by repeat (first | (with_reducible first | exact HB.out | apply below_alloc | apply pw_below_drewN | apply below_drew1) | exact HB.out)))); have n1_ := Aside0.mk (Kd.R_lower ho1 (below_size (by repeat (first | (with_reducible first | exact HB.out | apply below_alloc | apply pw_below_drewN | apply below_drew1) | exact HB.out)))); have n2_ := Aside0.mk (below_step (by repeat (first | (with_reducible first | exact HB.out | apply below_alloc | apply pw_below_drewN | apply below_drew1) | exact HB.out)) hb); clear HB; have HO604 := n0_; have HO606 := n1_; have HB := n2_; clear n0_ n1_ n2_; (try clear hb); (try clear hb2); (try clear hk); (try clear hi); (try clear ho0); (try clear ho1)) | ((with_reducible refine gate_callee (f := 86) rfl ?_); refine goesL_ (some 25) rfl rfl Try.func86 (by kernel_rfl) rfl #[.slice A2 l2.length c2] rfl (by (try simp only [List.map_toArray, List.map_cons, List.map_nil]); first | done | rfl | (simp only [List.length_drop, List.length_take]; rfl)) ?_; (with_reducible refine (nat_Trim.calls k _ _ l2 t607 t608 _ ?side1 ?side2 A5.out).mono ?_); (case side1 => repeat (first | exact (Kd.C_below HR2.out HB.out) | (with_reducible refine Kd.C_alloc ?_ _) | (with_reducible refine Kd.C_drewN ?_ _) | (with_reducible refine Kd.C_drew ?_))); (case side2 => exact HC2.out); rintro e w8 ⟨v609, rfl, ho0, hb⟩; refine ⟨_, rfl, ?_⟩; have n0_ := Aside0.mk (Kd.R_elder' (by (with_reducible repeat (first | apply Kd.R_alloc | apply Kd.R_drewN | apply Kd.R_drew)); exact HO604.out) (Kd.R_base ho0) hb); have n1_ := Aside0.mk (Kd.R_elder' (by (with_reducible repeat (first | apply Kd.R_alloc | apply Kd.R_drewN | apply Kd.R_drew)); exact HO606.out) (Kd.R_base ho0) hb); have n2_ := Aside0.mk (Kd.R_lower (Kd.R_new' (Kd.R_new' ho0 (Kd.R_lt (by (with_reducible repeat (first | apply Kd.R_alloc | apply Kd.R_drewN | apply Kd.R_drew)); exact HO604.out))) (Kd.R_lt (by (with_reducible repeat (first | apply Kd.R_alloc | apply Kd.R_drewN | apply Kd.R_drew)); exact HO606.out))) (below_size (by repeat (first | (with_reducible first | exact HB.out | apply below_alloc | apply pw_below_drewN | apply below_drew1) | exact HB.out)))); have n3_ := Aside0.mk (below_step (by repeat (first | (with_reducible first | exact HB.out | apply below_alloc | apply pw_below_drewN | apply below_drew1) | exact HB.out)) hb); clear HO604; clear HO606; clear HB; have HO604 := n0_; have HO606 := n1_; have HO610 := n2_; have HB := n3_; clear n0_ n1_ n2_ n3_; (try clear hb); (try clear hb2); (try clear hk); (try clear hi); (try clear ho0)))
  (try simp only [Act.put, List.setIfInBounds_toArray, List.set_cons_zero, List.set_cons_succ])
  go_cut [28] (fun v28 wc => ∃ (kq : Nat) (x28_5 : Bool), v28 = .bool x28_5 ∧ Aside0 (ratio_MulMod.j0 kq t600 t601 t607 x28_5 = some (r1, r2)) ∧ Aside0 (kq ≤ k) ∧ Aside0 (Kd.R (Kd.int .u32) 75 wc w.heap.size (fun k_ => some k_ ≠ (v605 : Value).ownBlock ∧ some k_ ≠ (v609 : Value).ownBlock) v603 t600) ∧ Aside0 (Kd.R (Kd.int .u32) 75 wc w.heap.size (fun k_ => some k_ ≠ (v603 : Value).ownBlock ∧ some k_ ≠ (v609 : Value).ownBlock) v605 t601) ∧ Aside0 (Kd.R (Kd.int .u32) 75 wc w.heap.size (fun k_ => some k_ ≠ (v603 : Value).ownBlock ∧ some k_ ≠ (v605 : Value).ownBlock) v609 t607) ∧ Aside0 (Below w.heap.size w wc))
  case first =>
    have H := HC6.out
    clear HC6
    by_cases c9 : t602 = 0
    · rw [if_pos c9] at H
      have c9b0 : (t602 == 0) = true := beq_iff_eq.mpr c9
      have c9b1 : (t602 != 0) = false := bne_eq_false_iff_eq.mpr c9
      clear c9
      (first | rw [c9b0] | (simp only [i64_w, i32_w]; rw [c9b0]) | skip)
      by_cases c10 : t608 = 0
      · rw [if_pos c10] at H
        have c10b0 : (t608 == 0) = true := beq_iff_eq.mpr c10
        have c10b1 : (t608 != 0) = false := bne_eq_false_iff_eq.mpr c10
        clear c10
        have H' := Aside0.mk H
        clear H
        obtain ⟨Ao11, co11, eo11⟩ := Kd.R_slice HO610.out
        subst eo11
        go_wp2
        go_meet
        case rel => exact ⟨_, (decide ((t607.length : Int) > 128)), (by first | rfl | (simp; done) | (simp [*]; done)), H', ⟨by first | omega | exact Nat.le_refl _⟩, ⟨by (with_reducible repeat (first | apply Kd.R_alloc | apply Kd.R_drewN | apply Kd.R_drew)); exact HO604.out⟩, ⟨by (with_reducible repeat (first | apply Kd.R_alloc | apply Kd.R_drewN | apply Kd.R_drew)); exact HO606.out⟩, ⟨by (with_reducible repeat (first | apply Kd.R_alloc | apply Kd.R_drewN | apply Kd.R_drew)); exact Kd.R_mono HO610.out (fun _ hk => ⟨hk.1.2, hk.2⟩)⟩, ⟨by repeat (first | (with_reducible first | exact HB.out | apply below_alloc | apply pw_below_drewN | apply below_drew1) | exact HB.out)⟩⟩
      · rw [if_neg c10] at H
        have c10b0 : (t608 == 0) = false := beq_eq_false_iff_ne.mpr c10
        have c10b1 : (t608 != 0) = true := bne_iff_ne.mpr c10
        have H' := Aside0.mk H
        clear H
        go_wp2
        go_meet
        case rel => exact ⟨_, (true), (by first | rfl | (simp; done) | (simp [*]; done)), H', ⟨by first | omega | exact Nat.le_refl _⟩, ⟨by (with_reducible repeat (first | apply Kd.R_alloc | apply Kd.R_drewN | apply Kd.R_drew)); exact HO604.out⟩, ⟨by (with_reducible repeat (first | apply Kd.R_alloc | apply Kd.R_drewN | apply Kd.R_drew)); exact HO606.out⟩, ⟨by (with_reducible repeat (first | apply Kd.R_alloc | apply Kd.R_drewN | apply Kd.R_drew)); exact Kd.R_mono HO610.out (fun _ hk => ⟨hk.1.2, hk.2⟩)⟩, ⟨by repeat (first | (with_reducible first | exact HB.out | apply below_alloc | apply pw_below_drewN | apply below_drew1) | exact HB.out)⟩⟩
    · rw [if_neg c9] at H
      have c9b0 : (t602 == 0) = false := beq_eq_false_iff_ne.mpr c9
      have c9b1 : (t602 != 0) = true := bne_iff_ne.mpr c9
      (first | rw [c9b0] | (simp only [i64_w, i32_w]; rw [c9b0]) | skip)
      have H' := Aside0.mk H
      clear H
      go_wp2
      go_meet
      case rel => exact ⟨_, (true), (by first | rfl | (simp; done) | (simp [*]; done)), H', ⟨by first | omega | exact Nat.le_refl _⟩, ⟨by (with_reducible repeat (first | apply Kd.R_alloc | apply Kd.R_drewN | apply Kd.R_drew)); exact HO604.out⟩, ⟨by (with_reducible repeat (first | apply Kd.R_alloc | apply Kd.R_drewN | apply Kd.R_drew)); exact HO606.out⟩, ⟨by (with_reducible repeat (first | apply Kd.R_alloc | apply Kd.R_drewN | apply Kd.R_drew)); exact Kd.R_mono HO610.out (fun _ hk => ⟨hk.1.2, hk.2⟩)⟩, ⟨by repeat (first | (with_reducible first | exact HB.out | apply below_alloc | apply pw_below_drewN | apply below_drew1) | exact HB.out)⟩⟩
  case rest =>
    clear HC6
    try clear c1
    try clear c2
    try clear p2
    try clear c4
    try clear c7
    try clear c8
    try clear c9
    try clear c9b0
    try clear c9b1
    try clear c10
    try clear c10b0
    try clear c10b1
    obtain ⟨kq, x28_5, rfl, HA, HJ5, HO_8, HO_9, HO_11, HB⟩ := hcut
    cases kq with
    | zero => exact absurd HA.out (by simp [ratio_MulMod.j0])
    | succ kj5 =>
      have H := HA.out
      clear HA
      simp only [ratio_MulMod.j0] at H
      by_cases c12 : x28_5 = true
      · subst c12
        have H1 : (some (([] : List Int), 20)) = some (r1, r2) := by rw [if_pos rfl] at H; exact H
        clear H
        have H := H1
        clear H1
        simp only [Option.some.injEq, Prod.mk.injEq] at H
        obtain ⟨rfl, rfl⟩ := H
        go_wp2
        go_ret2
        exact ⟨_, by first | rfl | (simp [errW_none, errW_some] <;> rfl) | (simp [*, errW_none, errW_some] <;> rfl), by first | exact Kd.R_nil _ _ _ _ _ | exact Kd.N_nil _ _ _ _ _ | exact Kd.V_nil _ _ _ _ _ | exact Kd.Q_nil _ _ _ _ _ | exact Kd.S_nil _ _ _ _ _, by repeat (first | (with_reducible first | exact HB.out | apply below_alloc | apply pw_below_drewN | apply below_drew1) | exact HB.out)⟩
      · replace c12 := Bool.eq_false_iff.mpr c12
        subst c12
        have H1 : (if (t607.length : Int) = 0 then (some (([] : List Int), 60)) else ((ratio_divided.f t600 t607).bind fun bt611 => ((ratio_divided.f t601 t607).bind fun bt617 => ((nat_Mul.f kj5 bt611.2 bt617.2).bind fun bt623 => (if bt623.2 = 0 then ((ratio_divided.f bt623.1 t607).bind fun bt627 => (some (bt627.2, 0))) else (some (([] : List Int), bt623.2))))))) = some (r1, r2) := by rw [if_neg (show ¬ (false = true) by decide)] at H; exact H
        clear H
        have H := H1
        clear H1
        by_cases c13 : (t607.length : Int) = 0
        · rw [if_pos c13] at H
          have c13b0 : ((t607.length : Int) == 0) = true := beq_iff_eq.mpr c13
          have c13b1 : ((t607.length : Int) != 0) = false := bne_eq_false_iff_eq.mpr c13
          clear c13
          simp only [Option.some.injEq, Prod.mk.injEq] at H
          obtain ⟨rfl, rfl⟩ := H
          obtain ⟨Ao14, co14, eo14⟩ := Kd.R_slice HO_11.out
          subst eo14
          go_wp2
          go_ret2
          exact ⟨_, by first | rfl | (simp [errW_none, errW_some] <;> rfl) | (simp [*, errW_none, errW_some] <;> rfl), by first | exact Kd.R_nil _ _ _ _ _ | exact Kd.N_nil _ _ _ _ _ | exact Kd.V_nil _ _ _ _ _ | exact Kd.Q_nil _ _ _ _ _ | exact Kd.S_nil _ _ _ _ _, by repeat (first | (with_reducible first | exact HB.out | apply below_alloc | apply pw_below_drewN | apply below_drew1) | exact HB.out)⟩
        · rw [if_neg c13] at H
          have c13b0 : ((t607.length : Int) == 0) = false := beq_eq_false_iff_ne.mpr c13
          have c13b1 : ((t607.length : Int) != 0) = true := bne_iff_ne.mpr c13
          have c13b2 : ¬ (t607 = []) := fun h_ => c13 (by rw [h_]; rfl)
          replace H := Option.bind_eq_some_iff.mp H
          obtain ⟨⟨t611, t612⟩, A150, H⟩ := H
          replace H : ((ratio_divided.f t601 t607).bind fun bt617 => ((nat_Mul.f kj5 t612 bt617.2).bind fun bt623 => (if bt623.2 = 0 then ((ratio_divided.f bt623.1 t607).bind fun bt627 => (some (bt627.2, 0))) else (some (([] : List Int), bt623.2))))) = some (r1, r2) := H
          have A15 := Aside0.mk A150
          clear A150
          replace H := Option.bind_eq_some_iff.mp H
          obtain ⟨⟨t617, t618⟩, A160, H⟩ := H
          replace H : ((nat_Mul.f kj5 t612 t618).bind fun bt623 => (if bt623.2 = 0 then ((ratio_divided.f bt623.1 t607).bind fun bt627 => (some (bt627.2, 0))) else (some (([] : List Int), bt623.2)))) = some (r1, r2) := H
          have A16 := Aside0.mk A160
          clear A160
          replace H := Option.bind_eq_some_iff.mp H
          obtain ⟨⟨t623, t626⟩, A170, H⟩ := H
          replace H : (if t626 = 0 then ((ratio_divided.f t623 t607).bind fun bt627 => (some (bt627.2, 0))) else (some (([] : List Int), t626))) = some (r1, r2) := H
          have A17 := Aside0.mk A170
          clear A170
          by_cases c18 : t626 = 0
          · rw [if_pos c18] at H
            have c18b0 : (t626 == 0) = true := beq_iff_eq.mpr c18
            have c18b1 : (t626 != 0) = false := bne_eq_false_iff_eq.mpr c18
            clear c18
            replace H := Option.bind_eq_some_iff.mp H
            obtain ⟨⟨t627, t628⟩, A190, H⟩ := H
            replace H : (some (t628, 0)) = some (r1, r2) := H
            have A19 := Aside0.mk A190
            clear A190
            simp only [Option.some.injEq, Prod.mk.injEq] at H
            obtain ⟨rfl, rfl⟩ := H
            obtain ⟨Ao20, co20, eo20⟩ := Kd.R_slice HO_11.out
            subst eo20
            obtain ⟨Ao21, co21, eo21⟩ := Kd.R_slice HO_8.out
            subst eo21
            go_wp2_with (first | ((with_reducible refine gate_callee (f := 78) rfl ?_); refine goesL_ (some 47) rfl rfl Try.func78 (by kernel_rfl) rfl #[.slice Ao21 t600.length co21, .slice Ao20 t607.length co20] rfl (by (try simp only [List.map_toArray, List.map_cons, List.map_nil]); first | done | rfl | (simp only [List.length_drop, List.length_take]; rfl)) ?_; (with_reducible refine (ratio_divided.calls _ _ t600 _ _ t607 t611 t612 _ ?side1 ?side2 ?side3 ?side4 A15.out).mono ?_); (case side1 => repeat (first | exact (Kd.R_reads' HO_8.out).2.2 | (with_reducible refine Kd.C_alloc ?_ _) | (with_reducible refine Kd.C_drewN ?_ _) | (with_reducible refine Kd.C_drew ?_))); (case side2 => exact (Kd.R_reads' HO_8.out).2.1); (case side3 => repeat (first | exact (Kd.R_reads' HO_11.out).2.2 | (with_reducible refine Kd.C_alloc ?_ _) | (with_reducible refine Kd.C_drewN ?_ _) | (with_reducible refine Kd.C_drew ?_))); (case side4 => exact (Kd.R_reads' HO_11.out).2.1); rintro e w22 ⟨v613, v615, rfl, ho0, ho1, hb⟩; refine ⟨_, rfl, ?_⟩; have n0_ := Aside0.mk (Kd.R_mono (Kd.R_told (Kd.R_told (Kd.R_old (by (with_reducible repeat (first | apply Kd.R_alloc | apply Kd.R_drewN | apply Kd.R_drew)); exact HO_8.out) hb) (Kd.R_base ho0)) (Kd.R_base ho1)) (fun _ h_ => h_.1)); have n1_ := Aside0.mk (Kd.R_mono (Kd.R_told (Kd.R_told (Kd.R_old (by (with_reducible repeat (first | apply Kd.R_alloc | apply Kd.R_drewN | apply Kd.R_drew)); exact HO_9.out) hb) (Kd.R_base ho0)) (Kd.R_base ho1)) (fun _ h_ => h_.1)); have n2_ := Aside0.mk (Kd.R_mono (Kd.R_told (Kd.R_told (Kd.R_old (by (with_reducible repeat (first | apply Kd.R_alloc | apply Kd.R_drewN | apply Kd.R_drew)); exact HO_11.out) hb) (Kd.R_base ho0)) (Kd.R_base ho1)) (fun _ h_ => h_.1)); have n3_ := Aside0.mk (Kd.R_lower (Kd.R_new' (Kd.R_new' (Kd.R_new' ho0 (Kd.R_lt (by (with_reducible repeat (first | apply Kd.R_alloc | apply Kd.R_drewN | apply Kd.R_drew)); exact HO_8.out))) (Kd.R_lt (by (with_reducible repeat (first | apply Kd.R_alloc | apply Kd.R_drewN | apply Kd.R_drew)); exact HO_9.out))) (Kd.R_lt (by (with_reducible repeat (first | apply Kd.R_alloc | apply Kd.R_drewN | apply Kd.R_drew)); exact HO_11.out))) (below_size (by repeat (first | (with_reducible first | exact HB.out | apply below_alloc | apply pw_below_drewN | apply below_drew1) | exact HB.out)))); have n4_ := Aside0.mk (Kd.R_lower (Kd.R_new' (Kd.R_new' (Kd.R_new' ho1 (Kd.R_lt (by (with_reducible repeat (first | apply Kd.R_alloc | apply Kd.R_drewN | apply Kd.R_drew)); exact HO_8.out))) (Kd.R_lt (by (with_reducible repeat (first | apply Kd.R_alloc | apply Kd.R_drewN | apply Kd.R_drew)); exact HO_9.out))) (Kd.R_lt (by (with_reducible repeat (first | apply Kd.R_alloc | apply Kd.R_drewN | apply Kd.R_drew)); exact HO_11.out))) (below_size (by repeat (first | (with_reducible first | exact HB.out | apply below_alloc | apply pw_below_drewN | apply below_drew1) | exact HB.out)))); have n5_ := Aside0.mk (below_step (by repeat (first | (with_reducible first | exact HB.out | apply below_alloc | apply pw_below_drewN | apply below_drew1) | exact HB.out)) hb); clear HO_8; clear HO_9; clear HO_11; clear HB; have HO_8 := n0_; have HO_9 := n1_; have HO_11 := n2_; have HO614 := n3_; have HO616 := n4_; have HB := n5_; clear n0_ n1_ n2_ n3_ n4_ n5_; (try clear hb); (try clear hb2); (try clear hk); (try clear hi); (try clear ho0); (try clear ho1); obtain ⟨Ao23, co23, eo23⟩ := Kd.R_slice HO_9.out; subst eo23) | ((with_reducible refine gate_callee (f := 78) rfl ?_); refine goesL_ (some 53) rfl rfl Try.func78 (by kernel_rfl) rfl #[.slice Ao23 t601.length co23, .slice Ao20 t607.length co20] rfl (by (try simp only [List.map_toArray, List.map_cons, List.map_nil]); first | done | rfl | (simp only [List.length_drop, List.length_take]; rfl)) ?_; (with_reducible refine (ratio_divided.calls _ _ t601 _ _ t607 t617 t618 _ ?side1 ?side2 ?side3 ?side4 A16.out).mono ?_); (case side1 => repeat (first | exact (Kd.R_reads' HO_9.out).2.2 | (with_reducible refine Kd.C_alloc ?_ _) | (with_reducible refine Kd.C_drewN ?_ _) | (with_reducible refine Kd.C_drew ?_))); (case side2 => exact (Kd.R_reads' HO_9.out).2.1); (case side3 => repeat (first | exact (Kd.R_reads' HO_11.out).2.2 | (with_reducible refine Kd.C_alloc ?_ _) | (with_reducible refine Kd.C_drewN ?_ _) | (with_reducible refine Kd.C_drew ?_))); (case side4 => exact (Kd.R_reads' HO_11.out).2.1); rintro e w24 ⟨v619, v621, rfl, ho0, ho1, hb⟩; refine ⟨_, rfl, ?_⟩; have n0_ := Aside0.mk (Kd.R_mono (Kd.R_told (Kd.R_told (Kd.R_old (by (with_reducible repeat (first | apply Kd.R_alloc | apply Kd.R_drewN | apply Kd.R_drew)); exact HO_8.out) hb) (Kd.R_base ho0)) (Kd.R_base ho1)) (fun _ h_ => h_.1)); have n1_ := Aside0.mk (Kd.R_mono (Kd.R_told (Kd.R_told (Kd.R_old (by (with_reducible repeat (first | apply Kd.R_alloc | apply Kd.R_drewN | apply Kd.R_drew)); exact HO_9.out) hb) (Kd.R_base ho0)) (Kd.R_base ho1)) (fun _ h_ => h_.1)); have n2_ := Aside0.mk (Kd.R_mono (Kd.R_told (Kd.R_told (Kd.R_old (by (with_reducible repeat (first | apply Kd.R_alloc | apply Kd.R_drewN | apply Kd.R_drew)); exact HO_11.out) hb) (Kd.R_base ho0)) (Kd.R_base ho1)) (fun _ h_ => h_.1)); have n3_ := Aside0.mk (Kd.R_mono (Kd.R_told (Kd.R_told (Kd.R_old (by (with_reducible repeat (first | apply Kd.R_alloc | apply Kd.R_drewN | apply Kd.R_drew)); exact HO614.out) hb) (Kd.R_base ho0)) (Kd.R_base ho1)) (fun _ h_ => h_.1)); have n4_ := Aside0.mk (Kd.R_mono (Kd.R_told (Kd.R_told (Kd.R_old (by (with_reducible repeat (first | apply Kd.R_alloc | apply Kd.R_drewN | apply Kd.R_drew)); exact HO616.out) hb) (Kd.R_base ho0)) (Kd.R_base ho1)) (fun _ h_ => h_.1)); have n5_ := Aside0.mk (Kd.R_lower (Kd.R_new' (Kd.R_new' (Kd.R_new' (Kd.R_new' (Kd.R_new' ho0 (Kd.R_lt (by (with_reducible repeat (first | apply Kd.R_alloc | apply Kd.R_drewN | apply Kd.R_drew)); exact HO_8.out))) (Kd.R_lt (by (with_reducible repeat (first | apply Kd.R_alloc | apply Kd.R_drewN | apply Kd.R_drew)); exact HO_9.out))) (Kd.R_lt (by (with_reducible repeat (first | apply Kd.R_alloc | apply Kd.R_drewN | apply Kd.R_drew)); exact HO_11.out))) (Kd.R_lt (by (with_reducible repeat (first | apply Kd.R_alloc | apply Kd.R_drewN | apply Kd.R_drew)); exact HO614.out))) (Kd.R_lt (by (with_reducible repeat (first | apply Kd.R_alloc | apply Kd.R_drewN | apply Kd.R_drew)); exact HO616.out))) (below_size (by repeat (first | (with_reducible first | exact HB.out | apply below_alloc | apply pw_below_drewN | apply below_drew1) | exact HB.out)))); have n6_ := Aside0.mk (Kd.R_lower (Kd.R_new' (Kd.R_new' (Kd.R_new' (Kd.R_new' (Kd.R_new' ho1 (Kd.R_lt (by (with_reducible repeat (first | apply Kd.R_alloc | apply Kd.R_drewN | apply Kd.R_drew)); exact HO_8.out))) (Kd.R_lt (by (with_reducible repeat (first | apply Kd.R_alloc | apply Kd.R_drewN | apply Kd.R_drew)); exact HO_9.out))) (Kd.R_lt (by (with_reducible repeat (first | apply Kd.R_alloc | apply Kd.R_drewN | apply Kd.R_drew)); exact HO_11.out))) (Kd.R_lt (by (with_reducible repeat (first | apply Kd.R_alloc | apply Kd.R_drewN | apply Kd.R_drew)); exact HO614.out))) (Kd.R_lt (by (with_reducible repeat (first | apply Kd.R_alloc | apply Kd.R_drewN | apply Kd.R_drew)); exact HO616.out))) (below_size (by repeat (first | (with_reducible first | exact HB.out | apply below_alloc | apply pw_below_drewN | apply below_drew1) | exact HB.out)))); have n7_ := Aside0.mk (below_step (by repeat (first | (with_reducible first | exact HB.out | apply below_alloc | apply pw_below_drewN | apply below_drew1) | exact HB.out)) hb); clear HO_8; clear HO_9; clear HO_11; clear HO614; clear HO616; clear HB; have HO_8 := n0_; have HO_9 := n1_; have HO_11 := n2_; have HO614 := n3_; have HO616 := n4_; have HO620 := n5_; have HO622 := n6_; have HB := n7_; clear n0_ n1_ n2_ n3_ n4_ n5_ n6_ n7_; (try clear hb); (try clear hb2); (try clear hk); (try clear hi); (try clear ho0); (try clear ho1); obtain ⟨Ao25, co25, eo25⟩ := Kd.R_slice HO616.out; subst eo25; obtain ⟨Ao26, co26, eo26⟩ := Kd.R_slice HO622.out; subst eo26) | ((with_reducible refine gate_callee (f := 67) rfl ?_); refine goesL_ (some 59) rfl rfl Try.func67 (by kernel_rfl) rfl #[.slice Ao25 t612.length co25, .slice Ao26 t618.length co26] rfl (by (try simp only [List.map_toArray, List.map_cons, List.map_nil]); first | done | rfl | (simp only [List.length_drop, List.length_take]; rfl)) ?_; (with_reducible refine (nat_Mul.calls kj5 (fun k_ => some k_ = (.slice Ao25 t612.length co25 : Value).ownBlock) _ _ t612 (fun k_ => some k_ = (.slice Ao26 t618.length co26 : Value).ownBlock) _ _ t618 t623 t626 _ ?side1 ?side2 A17.out).mono ?_); (case side1 => exact Kd.R_V (Kd.R_tight rfl (HO616.out))); (case side2 => exact Kd.R_V (Kd.R_tight rfl (HO622.out))); rintro e w27 ⟨v624, rfl, ho0, hb⟩; refine ⟨_, rfl, ?_⟩; have n0_ := Aside0.mk (Kd.R_elder' (by (with_reducible repeat (first | apply Kd.R_alloc | apply Kd.R_drewN | apply Kd.R_drew)); exact HO_8.out) (Kd.R_base ho0) hb); have n1_ := Aside0.mk (Kd.R_elder' (by (with_reducible repeat (first | apply Kd.R_alloc | apply Kd.R_drewN | apply Kd.R_drew)); exact HO_9.out) (Kd.R_base ho0) hb); have n2_ := Aside0.mk (Kd.R_elder' (by (with_reducible repeat (first | apply Kd.R_alloc | apply Kd.R_drewN | apply Kd.R_drew)); exact HO_11.out) (Kd.R_base ho0) hb); have n3_ := Aside0.mk (Kd.R_elder' (by (with_reducible repeat (first | apply Kd.R_alloc | apply Kd.R_drewN | apply Kd.R_drew)); exact HO614.out) (Kd.R_base ho0) hb); have n4_ := Aside0.mk (Kd.R_elder' (by (with_reducible repeat (first | apply Kd.R_alloc | apply Kd.R_drewN | apply Kd.R_drew)); exact HO616.out) (Kd.R_base ho0) hb); have n5_ := Aside0.mk (Kd.R_elder' (by (with_reducible repeat (first | apply Kd.R_alloc | apply Kd.R_drewN | apply Kd.R_drew)); exact HO620.out) (Kd.R_base ho0) hb); have n6_ := Aside0.mk (Kd.R_elder' (by (with_reducible repeat (first | apply Kd.R_alloc | apply Kd.R_drewN | apply Kd.R_drew)); exact HO622.out) (Kd.R_base ho0) hb); have n7_ := Aside0.mk (Kd.R_lower (Kd.R_new' (Kd.R_new' (Kd.R_new' (Kd.R_new' (Kd.R_new' (Kd.R_new' (Kd.R_new' (Kd.R_mono (ok' := fun k_ => True) ho0 (fun _ hk_ => trivial)) (Kd.R_lt (by (with_reducible repeat (first | apply Kd.R_alloc | apply Kd.R_drewN | apply Kd.R_drew)); exact HO_8.out))) (Kd.R_lt (by (with_reducible repeat (first | apply Kd.R_alloc | apply Kd.R_drewN | apply Kd.R_drew)); exact HO_9.out))) (Kd.R_lt (by (with_reducible repeat (first | apply Kd.R_alloc | apply Kd.R_drewN | apply Kd.R_drew)); exact HO_11.out))) (Kd.R_lt (by (with_reducible repeat (first | apply Kd.R_alloc | apply Kd.R_drewN | apply Kd.R_drew)); exact HO614.out))) (Kd.R_lt (by (with_reducible repeat (first | apply Kd.R_alloc | apply Kd.R_drewN | apply Kd.R_drew)); exact HO616.out))) (Kd.R_lt (by (with_reducible repeat (first | apply Kd.R_alloc | apply Kd.R_drewN | apply Kd.R_drew)); exact HO620.out))) (Kd.R_lt (by (with_reducible repeat (first | apply Kd.R_alloc | apply Kd.R_drewN | apply Kd.R_drew)); exact HO622.out))) (below_size (by repeat (first | (with_reducible first | exact HB.out | apply below_alloc | apply pw_below_drewN | apply below_drew1) | exact HB.out)))); have n8_ := Aside0.mk (below_step (by repeat (first | (with_reducible first | exact HB.out | apply below_alloc | apply pw_below_drewN | apply below_drew1) | exact HB.out)) hb); clear HO_8; clear HO_9; clear HO_11; clear HO614; clear HO616; clear HO620; clear HO622; clear HB; have HO_8 := n0_; have HO_9 := n1_; have HO_11 := n2_; have HO614 := n3_; have HO616 := n4_; have HO620 := n5_; have HO622 := n6_; have HO625 := n7_; have HB := n8_; clear n0_ n1_ n2_ n3_ n4_ n5_ n6_ n7_ n8_; (try clear hb); (try clear hb2); (try clear hk); (try clear hi); (try clear ho0); obtain ⟨Ao28, co28, eo28⟩ := Kd.R_slice HO625.out; subst eo28) | ((with_reducible refine gate_callee (f := 78) rfl ?_); refine goesL_ (some 68) rfl rfl Try.func78 (by kernel_rfl) rfl #[.slice Ao28 t623.length co28, .slice Ao20 t607.length co20] rfl (by (try simp only [List.map_toArray, List.map_cons, List.map_nil]); first | done | rfl | (simp only [List.length_drop, List.length_take]; rfl)) ?_; (with_reducible refine (ratio_divided.calls _ _ t623 _ _ t607 t627 t628 _ ?side1 ?side2 ?side3 ?side4 A19.out).mono ?_); (case side1 => repeat (first | exact (Kd.R_reads' HO625.out).2.2 | (with_reducible refine Kd.C_alloc ?_ _) | (with_reducible refine Kd.C_drewN ?_ _) | (with_reducible refine Kd.C_drew ?_))); (case side2 => exact (Kd.R_reads' HO625.out).2.1); (case side3 => repeat (first | exact (Kd.R_reads' HO_11.out).2.2 | (with_reducible refine Kd.C_alloc ?_ _) | (with_reducible refine Kd.C_drewN ?_ _) | (with_reducible refine Kd.C_drew ?_))); (case side4 => exact (Kd.R_reads' HO_11.out).2.1); rintro e w29 ⟨v629, v631, rfl, ho0, ho1, hb⟩; refine ⟨_, rfl, ?_⟩; have n0_ := Aside0.mk (Kd.R_mono (Kd.R_told (Kd.R_told (Kd.R_old (by (with_reducible repeat (first | apply Kd.R_alloc | apply Kd.R_drewN | apply Kd.R_drew)); exact HO_8.out) hb) (Kd.R_base ho0)) (Kd.R_base ho1)) (fun _ h_ => h_.1)); have n1_ := Aside0.mk (Kd.R_mono (Kd.R_told (Kd.R_told (Kd.R_old (by (with_reducible repeat (first | apply Kd.R_alloc | apply Kd.R_drewN | apply Kd.R_drew)); exact HO_9.out) hb) (Kd.R_base ho0)) (Kd.R_base ho1)) (fun _ h_ => h_.1)); have n2_ := Aside0.mk (Kd.R_mono (Kd.R_told (Kd.R_told (Kd.R_old (by (with_reducible repeat (first | apply Kd.R_alloc | apply Kd.R_drewN | apply Kd.R_drew)); exact HO_11.out) hb) (Kd.R_base ho0)) (Kd.R_base ho1)) (fun _ h_ => h_.1)); have n3_ := Aside0.mk (Kd.R_mono (Kd.R_told (Kd.R_told (Kd.R_old (by (with_reducible repeat (first | apply Kd.R_alloc | apply Kd.R_drewN | apply Kd.R_drew)); exact HO614.out) hb) (Kd.R_base ho0)) (Kd.R_base ho1)) (fun _ h_ => h_.1)); have n4_ := Aside0.mk (Kd.R_mono (Kd.R_told (Kd.R_told (Kd.R_old (by (with_reducible repeat (first | apply Kd.R_alloc | apply Kd.R_drewN | apply Kd.R_drew)); exact HO616.out) hb) (Kd.R_base ho0)) (Kd.R_base ho1)) (fun _ h_ => h_.1)); have n5_ := Aside0.mk (Kd.R_mono (Kd.R_told (Kd.R_told (Kd.R_old (by (with_reducible repeat (first | apply Kd.R_alloc | apply Kd.R_drewN | apply Kd.R_drew)); exact HO620.out) hb) (Kd.R_base ho0)) (Kd.R_base ho1)) (fun _ h_ => h_.1)); have n6_ := Aside0.mk (Kd.R_mono (Kd.R_told (Kd.R_told (Kd.R_old (by (with_reducible repeat (first | apply Kd.R_alloc | apply Kd.R_drewN | apply Kd.R_drew)); exact HO622.out) hb) (Kd.R_base ho0)) (Kd.R_base ho1)) (fun _ h_ => h_.1)); have n7_ := Aside0.mk (Kd.R_mono (Kd.R_told (Kd.R_told (Kd.R_old (by (with_reducible repeat (first | apply Kd.R_alloc | apply Kd.R_drewN | apply Kd.R_drew)); exact HO625.out) hb) (Kd.R_base ho0)) (Kd.R_base ho1)) (fun _ h_ => h_.1)); have n8_ := Aside0.mk (Kd.R_lower (Kd.R_new' (Kd.R_new' (Kd.R_new' (Kd.R_new' (Kd.R_new' (Kd.R_new' (Kd.R_new' (Kd.R_new' ho0 (Kd.R_lt (by (with_reducible repeat (first | apply Kd.R_alloc | apply Kd.R_drewN | apply Kd.R_drew)); exact HO_8.out))) (Kd.R_lt (by (with_reducible repeat (first | apply Kd.R_alloc | apply Kd.R_drewN | apply Kd.R_drew)); exact HO_9.out))) (Kd.R_lt (by (with_reducible repeat (first | apply Kd.R_alloc | apply Kd.R_drewN | apply Kd.R_drew)); exact HO_11.out))) (Kd.R_lt (by (with_reducible repeat (first | apply Kd.R_alloc | apply Kd.R_drewN | apply Kd.R_drew)); exact HO614.out))) (Kd.R_lt (by (with_reducible repeat (first | apply Kd.R_alloc | apply Kd.R_drewN | apply Kd.R_drew)); exact HO616.out))) (Kd.R_lt (by (with_reducible repeat (first | apply Kd.R_alloc | apply Kd.R_drewN | apply Kd.R_drew)); exact HO620.out))) (Kd.R_lt (by (with_reducible repeat (first | apply Kd.R_alloc | apply Kd.R_drewN | apply Kd.R_drew)); exact HO622.out))) (Kd.R_lt (by (with_reducible repeat (first | apply Kd.R_alloc | apply Kd.R_drewN | apply Kd.R_drew)); exact HO625.out))) (below_size (by repeat (first | (with_reducible first | exact HB.out | apply below_alloc | apply pw_below_drewN | apply below_drew1) | exact HB.out)))); have n9_ := Aside0.mk (Kd.R_lower (Kd.R_new' (Kd.R_new' (Kd.R_new' (Kd.R_new' (Kd.R_new' (Kd.R_new' (Kd.R_new' (Kd.R_new' ho1 (Kd.R_lt (by (with_reducible repeat (first | apply Kd.R_alloc | apply Kd.R_drewN | apply Kd.R_drew)); exact HO_8.out))) (Kd.R_lt (by (with_reducible repeat (first | apply Kd.R_alloc | apply Kd.R_drewN | apply Kd.R_drew)); exact HO_9.out))) (Kd.R_lt (by (with_reducible repeat (first | apply Kd.R_alloc | apply Kd.R_drewN | apply Kd.R_drew)); exact HO_11.out))) (Kd.R_lt (by (with_reducible repeat (first | apply Kd.R_alloc | apply Kd.R_drewN | apply Kd.R_drew)); exact HO614.out))) (Kd.R_lt (by (with_reducible repeat (first | apply Kd.R_alloc | apply Kd.R_drewN | apply Kd.R_drew)); exact HO616.out))) (Kd.R_lt (by (with_reducible repeat (first | apply Kd.R_alloc | apply Kd.R_drewN | apply Kd.R_drew)); exact HO620.out))) (Kd.R_lt (by (with_reducible repeat (first | apply Kd.R_alloc | apply Kd.R_drewN | apply Kd.R_drew)); exact HO622.out))) (Kd.R_lt (by (with_reducible repeat (first | apply Kd.R_alloc | apply Kd.R_drewN | apply Kd.R_drew)); exact HO625.out))) (below_size (by repeat (first | (with_reducible first | exact HB.out | apply below_alloc | apply pw_below_drewN | apply below_drew1) | exact HB.out)))); have n10_ := Aside0.mk (below_step (by repeat (first | (with_reducible first | exact HB.out | apply below_alloc | apply pw_below_drewN | apply below_drew1) | exact HB.out)) hb); clear HO_8; clear HO_9; clear HO_11; clear HO614; clear HO616; clear HO620; clear HO622; clear HO625; clear HB; have HO_8 := n0_; have HO_9 := n1_; have HO_11 := n2_; have HO614 := n3_; have HO616 := n4_; have HO620 := n5_; have HO622 := n6_; have HO625 := n7_; have HO630 := n8_; have HO632 := n9_; have HB := n10_; clear n0_ n1_ n2_ n3_ n4_ n5_ n6_ n7_ n8_ n9_ n10_; (try clear hb); (try clear hb2); (try clear hk); (try clear hi); (try clear ho0); (try clear ho1)))
            go_ret2
            exact ⟨_, by first | rfl | (simp [errW_none, errW_some] <;> rfl) | (simp [*, errW_none, errW_some] <;> rfl), by (with_reducible repeat (first | apply Kd.R_alloc | apply Kd.R_drewN | apply Kd.R_drew)); exact Kd.R_mono HO632.out (fun _ hk => trivial), by repeat (first | (with_reducible first | exact HB.out | apply below_alloc | apply pw_below_drewN | apply below_drew1) | exact HB.out)⟩
          · rw [if_neg c18] at H
            have c18b0 : (t626 == 0) = false := beq_eq_false_iff_ne.mpr c18
            have c18b1 : (t626 != 0) = true := bne_iff_ne.mpr c18
            simp only [Option.some.injEq, Prod.mk.injEq] at H
            obtain ⟨rfl, rfl⟩ := H
            obtain ⟨Ao30, co30, eo30⟩ := Kd.R_slice HO_11.out
            subst eo30
            obtain ⟨Ao31, co31, eo31⟩ := Kd.R_slice HO_8.out
            subst eo31
            go_wp2_with (first | ((with_reducible refine gate_callee (f := 78) rfl ?_); refine goesL_ (some 47) rfl rfl Try.func78 (by kernel_rfl) rfl #[.slice Ao31 t600.length co31, .slice Ao30 t607.length co30] rfl (by (try simp only [List.map_toArray, List.map_cons, List.map_nil]); first | done | rfl | (simp only [List.length_drop, List.length_take]; rfl)) ?_; (with_reducible refine (ratio_divided.calls _ _ t600 _ _ t607 t611 t612 _ ?side1 ?side2 ?side3 ?side4 A15.out).mono ?_); (case side1 => repeat (first | exact (Kd.R_reads' HO_8.out).2.2 | (with_reducible refine Kd.C_alloc ?_ _) | (with_reducible refine Kd.C_drewN ?_ _) | (with_reducible refine Kd.C_drew ?_))); (case side2 => exact (Kd.R_reads' HO_8.out).2.1); (case side3 => repeat (first | exact (Kd.R_reads' HO_11.out).2.2 | (with_reducible refine Kd.C_alloc ?_ _) | (with_reducible refine Kd.C_drewN ?_ _) | (with_reducible refine Kd.C_drew ?_))); (case side4 => exact (Kd.R_reads' HO_11.out).2.1); rintro e w32 ⟨v613, v615, rfl, ho0, ho1, hb⟩; refine ⟨_, rfl, ?_⟩; have n0_ := Aside0.mk (Kd.R_mono (Kd.R_told (Kd.R_told (Kd.R_old (by (with_reducible repeat (first | apply Kd.R_alloc | apply Kd.R_drewN | apply Kd.R_drew)); exact HO_8.out) hb) (Kd.R_base ho0)) (Kd.R_base ho1)) (fun _ h_ => h_.1)); have n1_ := Aside0.mk (Kd.R_mono (Kd.R_told (Kd.R_told (Kd.R_old (by (with_reducible repeat (first | apply Kd.R_alloc | apply Kd.R_drewN | apply Kd.R_drew)); exact HO_9.out) hb) (Kd.R_base ho0)) (Kd.R_base ho1)) (fun _ h_ => h_.1)); have n2_ := Aside0.mk (Kd.R_mono (Kd.R_told (Kd.R_told (Kd.R_old (by (with_reducible repeat (first | apply Kd.R_alloc | apply Kd.R_drewN | apply Kd.R_drew)); exact HO_11.out) hb) (Kd.R_base ho0)) (Kd.R_base ho1)) (fun _ h_ => h_.1)); have n3_ := Aside0.mk (Kd.R_lower (Kd.R_new' (Kd.R_new' (Kd.R_new' ho0 (Kd.R_lt (by (with_reducible repeat (first | apply Kd.R_alloc | apply Kd.R_drewN | apply Kd.R_drew)); exact HO_8.out))) (Kd.R_lt (by (with_reducible repeat (first | apply Kd.R_alloc | apply Kd.R_drewN | apply Kd.R_drew)); exact HO_9.out))) (Kd.R_lt (by (with_reducible repeat (first | apply Kd.R_alloc | apply Kd.R_drewN | apply Kd.R_drew)); exact HO_11.out))) (below_size (by repeat (first | (with_reducible first | exact HB.out | apply below_alloc | apply pw_below_drewN | apply below_drew1) | exact HB.out)))); have n4_ := Aside0.mk (Kd.R_lower (Kd.R_new' (Kd.R_new' (Kd.R_new' ho1 (Kd.R_lt (by (with_reducible repeat (first | apply Kd.R_alloc | apply Kd.R_drewN | apply Kd.R_drew)); exact HO_8.out))) (Kd.R_lt (by (with_reducible repeat (first | apply Kd.R_alloc | apply Kd.R_drewN | apply Kd.R_drew)); exact HO_9.out))) (Kd.R_lt (by (with_reducible repeat (first | apply Kd.R_alloc | apply Kd.R_drewN | apply Kd.R_drew)); exact HO_11.out))) (below_size (by repeat (first | (with_reducible first | exact HB.out | apply below_alloc | apply pw_below_drewN | apply below_drew1) | exact HB.out)))); have n5_ := Aside0.mk (below_step (by repeat (first | (with_reducible first | exact HB.out | apply below_alloc | apply pw_below_drewN | apply below_drew1) | exact HB.out)) hb); clear HO_8; clear HO_9; clear HO_11; clear HB; have HO_8 := n0_; have HO_9 := n1_; have HO_11 := n2_; have HO614 := n3_; have HO616 := n4_; have HB := n5_; clear n0_ n1_ n2_ n3_ n4_ n5_; (try clear hb); (try clear hb2); (try clear hk); (try clear hi); (try clear ho0); (try clear ho1); obtain ⟨Ao33, co33, eo33⟩ := Kd.R_slice HO_9.out; subst eo33) | ((with_reducible refine gate_callee (f := 78) rfl ?_); refine goesL_ (some 53) rfl rfl Try.func78 (by kernel_rfl) rfl #[.slice Ao33 t601.length co33, .slice Ao30 t607.length co30] rfl (by (try simp only [List.map_toArray, List.map_cons, List.map_nil]); first | done | rfl | (simp only [List.length_drop, List.length_take]; rfl)) ?_; (with_reducible refine (ratio_divided.calls _ _ t601 _ _ t607 t617 t618 _ ?side1 ?side2 ?side3 ?side4 A16.out).mono ?_); (case side1 => repeat (first | exact (Kd.R_reads' HO_9.out).2.2 | (with_reducible refine Kd.C_alloc ?_ _) | (with_reducible refine Kd.C_drewN ?_ _) | (with_reducible refine Kd.C_drew ?_))); (case side2 => exact (Kd.R_reads' HO_9.out).2.1); (case side3 => repeat (first | exact (Kd.R_reads' HO_11.out).2.2 | (with_reducible refine Kd.C_alloc ?_ _) | (with_reducible refine Kd.C_drewN ?_ _) | (with_reducible refine Kd.C_drew ?_))); (case side4 => exact (Kd.R_reads' HO_11.out).2.1); rintro e w34 ⟨v619, v621, rfl, ho0, ho1, hb⟩; refine ⟨_, rfl, ?_⟩; have n0_ := Aside0.mk (Kd.R_mono (Kd.R_told (Kd.R_told (Kd.R_old (by (with_reducible repeat (first | apply Kd.R_alloc | apply Kd.R_drewN | apply Kd.R_drew)); exact HO_8.out) hb) (Kd.R_base ho0)) (Kd.R_base ho1)) (fun _ h_ => h_.1)); have n1_ := Aside0.mk (Kd.R_mono (Kd.R_told (Kd.R_told (Kd.R_old (by (with_reducible repeat (first | apply Kd.R_alloc | apply Kd.R_drewN | apply Kd.R_drew)); exact HO_9.out) hb) (Kd.R_base ho0)) (Kd.R_base ho1)) (fun _ h_ => h_.1)); have n2_ := Aside0.mk (Kd.R_mono (Kd.R_told (Kd.R_told (Kd.R_old (by (with_reducible repeat (first | apply Kd.R_alloc | apply Kd.R_drewN | apply Kd.R_drew)); exact HO_11.out) hb) (Kd.R_base ho0)) (Kd.R_base ho1)) (fun _ h_ => h_.1)); have n3_ := Aside0.mk (Kd.R_mono (Kd.R_told (Kd.R_told (Kd.R_old (by (with_reducible repeat (first | apply Kd.R_alloc | apply Kd.R_drewN | apply Kd.R_drew)); exact HO614.out) hb) (Kd.R_base ho0)) (Kd.R_base ho1)) (fun _ h_ => h_.1)); have n4_ := Aside0.mk (Kd.R_mono (Kd.R_told (Kd.R_told (Kd.R_old (by (with_reducible repeat (first | apply Kd.R_alloc | apply Kd.R_drewN | apply Kd.R_drew)); exact HO616.out) hb) (Kd.R_base ho0)) (Kd.R_base ho1)) (fun _ h_ => h_.1)); have n5_ := Aside0.mk (Kd.R_lower (Kd.R_new' (Kd.R_new' (Kd.R_new' (Kd.R_new' (Kd.R_new' ho0 (Kd.R_lt (by (with_reducible repeat (first | apply Kd.R_alloc | apply Kd.R_drewN | apply Kd.R_drew)); exact HO_8.out))) (Kd.R_lt (by (with_reducible repeat (first | apply Kd.R_alloc | apply Kd.R_drewN | apply Kd.R_drew)); exact HO_9.out))) (Kd.R_lt (by (with_reducible repeat (first | apply Kd.R_alloc | apply Kd.R_drewN | apply Kd.R_drew)); exact HO_11.out))) (Kd.R_lt (by (with_reducible repeat (first | apply Kd.R_alloc | apply Kd.R_drewN | apply Kd.R_drew)); exact HO614.out))) (Kd.R_lt (by (with_reducible repeat (first | apply Kd.R_alloc | apply Kd.R_drewN | apply Kd.R_drew)); exact HO616.out))) (below_size (by repeat (first | (with_reducible first | exact HB.out | apply below_alloc | apply pw_below_drewN | apply below_drew1) | exact HB.out)))); have n6_ := Aside0.mk (Kd.R_lower (Kd.R_new' (Kd.R_new' (Kd.R_new' (Kd.R_new' (Kd.R_new' ho1 (Kd.R_lt (by (with_reducible repeat (first | apply Kd.R_alloc | apply Kd.R_drewN | apply Kd.R_drew)); exact HO_8.out))) (Kd.R_lt (by (with_reducible repeat (first | apply Kd.R_alloc | apply Kd.R_drewN | apply Kd.R_drew)); exact HO_9.out))) (Kd.R_lt (by (with_reducible repeat (first | apply Kd.R_alloc | apply Kd.R_drewN | apply Kd.R_drew)); exact HO_11.out))) (Kd.R_lt (by (with_reducible repeat (first | apply Kd.R_alloc | apply Kd.R_drewN | apply Kd.R_drew)); exact HO614.out))) (Kd.R_lt (by (with_reducible repeat (first | apply Kd.R_alloc | apply Kd.R_drewN | apply Kd.R_drew)); exact HO616.out))) (below_size (by repeat (first | (with_reducible first | exact HB.out | apply below_alloc | apply pw_below_drewN | apply below_drew1) | exact HB.out)))); have n7_ := Aside0.mk (below_step (by repeat (first | (with_reducible first | exact HB.out | apply below_alloc | apply pw_below_drewN | apply below_drew1) | exact HB.out)) hb); clear HO_8; clear HO_9; clear HO_11; clear HO614; clear HO616; clear HB; have HO_8 := n0_; have HO_9 := n1_; have HO_11 := n2_; have HO614 := n3_; have HO616 := n4_; have HO620 := n5_; have HO622 := n6_; have HB := n7_; clear n0_ n1_ n2_ n3_ n4_ n5_ n6_ n7_; (try clear hb); (try clear hb2); (try clear hk); (try clear hi); (try clear ho0); (try clear ho1); obtain ⟨Ao35, co35, eo35⟩ := Kd.R_slice HO616.out; subst eo35; obtain ⟨Ao36, co36, eo36⟩ := Kd.R_slice HO622.out; subst eo36) | ((with_reducible refine gate_callee (f := 67) rfl ?_); refine goesL_ (some 59) rfl rfl Try.func67 (by kernel_rfl) rfl #[.slice Ao35 t612.length co35, .slice Ao36 t618.length co36] rfl (by (try simp only [List.map_toArray, List.map_cons, List.map_nil]); first | done | rfl | (simp only [List.length_drop, List.length_take]; rfl)) ?_; (with_reducible refine (nat_Mul.calls kj5 (fun k_ => some k_ = (.slice Ao35 t612.length co35 : Value).ownBlock) _ _ t612 (fun k_ => some k_ = (.slice Ao36 t618.length co36 : Value).ownBlock) _ _ t618 t623 t626 _ ?side1 ?side2 A17.out).mono ?_); (case side1 => exact Kd.R_V (Kd.R_tight rfl (HO616.out))); (case side2 => exact Kd.R_V (Kd.R_tight rfl (HO622.out))); rintro e w37 ⟨v624, rfl, ho0, hb⟩; refine ⟨_, rfl, ?_⟩; have n0_ := Aside0.mk (Kd.R_elder' (by (with_reducible repeat (first | apply Kd.R_alloc | apply Kd.R_drewN | apply Kd.R_drew)); exact HO_8.out) (Kd.R_base ho0) hb); have n1_ := Aside0.mk (Kd.R_elder' (by (with_reducible repeat (first | apply Kd.R_alloc | apply Kd.R_drewN | apply Kd.R_drew)); exact HO_9.out) (Kd.R_base ho0) hb); have n2_ := Aside0.mk (Kd.R_elder' (by (with_reducible repeat (first | apply Kd.R_alloc | apply Kd.R_drewN | apply Kd.R_drew)); exact HO_11.out) (Kd.R_base ho0) hb); have n3_ := Aside0.mk (Kd.R_elder' (by (with_reducible repeat (first | apply Kd.R_alloc | apply Kd.R_drewN | apply Kd.R_drew)); exact HO614.out) (Kd.R_base ho0) hb); have n4_ := Aside0.mk (Kd.R_elder' (by (with_reducible repeat (first | apply Kd.R_alloc | apply Kd.R_drewN | apply Kd.R_drew)); exact HO616.out) (Kd.R_base ho0) hb); have n5_ := Aside0.mk (Kd.R_elder' (by (with_reducible repeat (first | apply Kd.R_alloc | apply Kd.R_drewN | apply Kd.R_drew)); exact HO620.out) (Kd.R_base ho0) hb); have n6_ := Aside0.mk (Kd.R_elder' (by (with_reducible repeat (first | apply Kd.R_alloc | apply Kd.R_drewN | apply Kd.R_drew)); exact HO622.out) (Kd.R_base ho0) hb); have n7_ := Aside0.mk (Kd.R_lower (Kd.R_new' (Kd.R_new' (Kd.R_new' (Kd.R_new' (Kd.R_new' (Kd.R_new' (Kd.R_new' (Kd.R_mono (ok' := fun k_ => True) ho0 (fun _ hk_ => trivial)) (Kd.R_lt (by (with_reducible repeat (first | apply Kd.R_alloc | apply Kd.R_drewN | apply Kd.R_drew)); exact HO_8.out))) (Kd.R_lt (by (with_reducible repeat (first | apply Kd.R_alloc | apply Kd.R_drewN | apply Kd.R_drew)); exact HO_9.out))) (Kd.R_lt (by (with_reducible repeat (first | apply Kd.R_alloc | apply Kd.R_drewN | apply Kd.R_drew)); exact HO_11.out))) (Kd.R_lt (by (with_reducible repeat (first | apply Kd.R_alloc | apply Kd.R_drewN | apply Kd.R_drew)); exact HO614.out))) (Kd.R_lt (by (with_reducible repeat (first | apply Kd.R_alloc | apply Kd.R_drewN | apply Kd.R_drew)); exact HO616.out))) (Kd.R_lt (by (with_reducible repeat (first | apply Kd.R_alloc | apply Kd.R_drewN | apply Kd.R_drew)); exact HO620.out))) (Kd.R_lt (by (with_reducible repeat (first | apply Kd.R_alloc | apply Kd.R_drewN | apply Kd.R_drew)); exact HO622.out))) (below_size (by repeat (first | (with_reducible first | exact HB.out | apply below_alloc | apply pw_below_drewN | apply below_drew1) | exact HB.out)))); have n8_ := Aside0.mk (below_step (by repeat (first | (with_reducible first | exact HB.out | apply below_alloc | apply pw_below_drewN | apply below_drew1) | exact HB.out)) hb); clear HO_8; clear HO_9; clear HO_11; clear HO614; clear HO616; clear HO620; clear HO622; clear HB; have HO_8 := n0_; have HO_9 := n1_; have HO_11 := n2_; have HO614 := n3_; have HO616 := n4_; have HO620 := n5_; have HO622 := n6_; have HO625 := n7_; have HB := n8_; clear n0_ n1_ n2_ n3_ n4_ n5_ n6_ n7_ n8_; (try clear hb); (try clear hb2); (try clear hk); (try clear hi); (try clear ho0)))
            go_ret2
            exact ⟨_, by first | rfl | (simp [errW_none, errW_some] <;> rfl) | (simp [*, errW_none, errW_some] <;> rfl), by first | exact Kd.R_nil _ _ _ _ _ | exact Kd.N_nil _ _ _ _ _ | exact Kd.V_nil _ _ _ _ _ | exact Kd.Q_nil _ _ _ _ _ | exact Kd.S_nil _ _ _ _ _, by repeat (first | (with_reducible first | exact HB.out | apply below_alloc | apply pw_below_drewN | apply below_drew1) | exact HB.out)⟩
end Go.Proofs.Ytlifengbicpppaa.G
end
section
namespace Go.Proofs.Ytlifengbicpppaa.G
open Go.RowKit Go.Proofs.YtlifengbicpppaaW.PrintWords Go.Proofs.YtlifengbicpppaaW.PrintLast Go.Proofs.YtlifengbicpppaaW.PrintMore
attribute [local go_sem] max2_int min2_int max_two min_two max_three min_three max_four min_four   -- for this text's walks alone
set_option linter.unusedVariables false
set_option linter.unusedSimpArgs false
def postmarkref06_MulMod.j0 : Nat → List Int → List Int → List Int → Bool → Option (List Int × Int)
  | 0, _, _, _, _ => none
  | k + 1, x0, x1, x2, x31 => if x31 = true then (some (([] : List Int), 20)) else ((postmarkref06_Div.f k x0 x2).bind fun bt335 => (if bt335.2.2 = 0 then ((postmarkref06_Div.f k x1 x2).bind fun bt342 => ((postmarkref02_Mul.f k bt335.2.1 bt342.2.1).bind fun bt349 => ((postmarkref06_Div.f k bt349.1 x2).bind fun bt353 => (some (bt353.2.1, 0))))) else (some (([] : List Int), bt335.2.2))))
def postmarkref06_MulMod.f (k : Nat) (l0 : List Int) (l1 : List Int) (l2 : List Int) : Option (List Int × Int) := (postmarkref02_May.f k l0 l1).bind fun t333 => ((postmarkref06_Modulus.f k l2).bind fun t334 => (if t333 = true then (postmarkref06_MulMod.j0 k l0 l1 l2 (!t334)) else (postmarkref06_MulMod.j0 k l0 l1 l2 true)))
set_option maxHeartbeats 8000000 in
set_option maxRecDepth 100000 in
theorem postmarkref06_MulMod.calls (k : Nat) (A0 : Option Addr) (c0 : Nat) (l0 : List Int) (A1 : Option Addr) (c1 : Nat) (l1 : List Int) (A2 : Option Addr) (c2 : Nat) (l2 : List Int) (r1 : List Int) (r2 : Int) (w : World) (hr0 : Kd.C (Kd.int .u32) w A0 l0.length l0) (hc0 : l0.length ≤ c0) (hr1 : Kd.C (Kd.int .u32) w A1 l1.length l1) (hc1 : l1.length ≤ c1) (hr2 : Kd.C (Kd.int .u32) w A2 l2.length l2) (hc2 : l2.length ≤ c2) (h : postmarkref06_MulMod.f k l0 l1 l2 = some (r1, r2)) :
    Calls Try.prog 44 #[.slice A0 l0.length c0, .slice A1 l1.length c1, .slice A2 l2.length c2] w fun e w' => ∃ v0_ : Value, e = .returned (.tuple #[v0_, .int .i64 r2]) ∧ Kd.R (Kd.int .u32) 75 w' w.heap.size (fun _ => True) v0_ r1 ∧ Below w.heap.size w w' := by
  have HR0 := Aside0.mk hr0
  have HC0 := Aside0.mk hc0
  clear hr0 hc0
  have HR1 := Aside0.mk hr1
  have HC1 := Aside0.mk hc1
  clear hr1 hc1
  have HR2 := Aside0.mk hr2
  have HC2 := Aside0.mk hc2
  clear hr2 hc2
  have HB := Aside0.mk (Below.refl w.heap.size w)
  have H : ((postmarkref02_May.f k l0 l1).bind fun t333 => ((postmarkref06_Modulus.f k l2).bind fun t334 => (if t333 = true then (postmarkref06_MulMod.j0 k l0 l1 l2 (!t334)) else (postmarkref06_MulMod.j0 k l0 l1 l2 true)))) = some (r1, r2) := h
  clear h
  replace H := Option.bind_eq_some_iff.mp H
  obtain ⟨t333, A40, H⟩ := H
  replace H : ((postmarkref06_Modulus.f k l2).bind fun t334 => (if t333 = true then (postmarkref06_MulMod.j0 k l0 l1 l2 (!t334)) else (postmarkref06_MulMod.j0 k l0 l1 l2 true))) = some (r1, r2) := H
  have A4 := Aside0.mk A40
  clear A40
  replace H := Option.bind_eq_some_iff.mp H
  obtain ⟨t334, A50, H⟩ := H
  replace H : (if t333 = true then (postmarkref06_MulMod.j0 k l0 l1 l2 (!t334)) else (postmarkref06_MulMod.j0 k l0 l1 l2 true)) = some (r1, r2) := H
  have A5 := Aside0.mk A50
  clear A50
  have HC6 := Aside0.mk H
  clear H
  go_enter Try.func44, Try.ntmps44
  go_upto_region 3 with (first | ((with_reducible refine gate_callee (f := 30) rfl ?_); refine goesL_ (some 23) rfl rfl Try.func30 (by kernel_rfl) rfl #[.slice A0 l0.length c0, .slice A1 l1.length c1] rfl (by (try simp only [List.map_toArray, List.map_cons, List.map_nil]); first | done | rfl | (simp only [List.length_drop, List.length_take]; rfl)) ?_; (with_reducible refine (postmarkref02_May.calls k _ _ l0 _ _ l1 t333 _ ?side1 ?side2 ?side3 ?side4 A4.out).mono ?_); (case side1 => repeat (first | exact HR0.out | (with_reducible refine Kd.C_alloc ?_ _) | (with_reducible refine Kd.C_drewN ?_ _) | (with_reducible refine Kd.C_drew ?_))); (case side2 => exact HC0.out); (case side3 => repeat (first | exact HR1.out | (with_reducible refine Kd.C_alloc ?_ _) | (with_reducible refine Kd.C_drewN ?_ _) | (with_reducible refine Kd.C_drew ?_))); (case side4 => exact HC1.out); rintro e w7 ⟨rfl, hb⟩; refine ⟨_, rfl, ?_⟩; have n0_ := Aside0.mk (below_step (by repeat (first | (with_reducible first | exact HB.out | apply below_alloc | apply pw_below_drewN | apply below_drew1) | exact HB.out)) hb); clear HB; have HB := n0_; clear n0_; (try clear hb); (try clear hb2); (try clear hk); (try clear hi)) | ((with_reducible refine gate_callee (f := 42) rfl ?_); refine goesL_ (some 25) rfl rfl Try.func42 (by kernel_rfl) rfl #[.slice A2 l2.length c2] rfl (by (try simp only [List.map_toArray, List.map_cons, List.map_nil]); first | done | rfl | (simp only [List.length_drop, List.length_take]; rfl)) ?_; (with_reducible refine (postmarkref06_Modulus.calls k _ _ l2 t334 _ ?side1 ?side2 A5.out).mono ?_); (case side1 => repeat (first | exact (Kd.C_below HR2.out HB.out) | (with_reducible refine Kd.C_alloc ?_ _) | (with_reducible refine Kd.C_drewN ?_ _) | (with_reducible refine Kd.C_drew ?_))); (case side2 => exact HC2.out); rintro e w8 ⟨rfl, hb⟩; refine ⟨_, rfl, ?_⟩; have n0_ := Aside0.mk (below_step (by repeat (first | (with_reducible first | exact HB.out | apply below_alloc | apply pw_below_drewN | apply below_drew1) | exact HB.out)) hb); clear HB; have HB := n0_; clear n0_; (try clear hb); (try clear hb2); (try clear hk); (try clear hi)))
  (try simp only [Act.put, List.setIfInBounds_toArray, List.set_cons_zero, List.set_cons_succ])
  go_cut [31] (fun v31 wc => ∃ (kq : Nat) (x31_5 : Bool), v31 = .bool x31_5 ∧ Aside0 (postmarkref06_MulMod.j0 kq l0 l1 l2 x31_5 = some (r1, r2)) ∧ Aside0 (kq ≤ k) ∧ Aside0 (Below w.heap.size w wc))
  case first =>
    have H := HC6.out
    clear HC6
    by_cases c9 : t333 = true
    · subst c9
      have H1 : (postmarkref06_MulMod.j0 k l0 l1 l2 (!t334)) = some (r1, r2) := by rw [if_pos rfl] at H; exact H
      clear H
      have H := H1
      clear H1
      have H' := Aside0.mk H
      clear H
      go_wp2
      go_meet
      case rel => exact ⟨_, (!t334), (by first | rfl | (simp; done) | (simp [*]; done)), H', ⟨by first | omega | exact Nat.le_refl _⟩, ⟨by repeat (first | (with_reducible first | exact HB.out | apply below_alloc | apply pw_below_drewN | apply below_drew1) | exact HB.out)⟩⟩
    · replace c9 := Bool.eq_false_iff.mpr c9
      subst c9
      have H1 : (postmarkref06_MulMod.j0 k l0 l1 l2 true) = some (r1, r2) := by rw [if_neg (show ¬ (false = true) by decide)] at H; exact H
      clear H
      have H := H1
      clear H1
      have H' := Aside0.mk H
      clear H
      go_wp2
      go_meet
      case rel => exact ⟨_, (true), (by first | rfl | (simp; done) | (simp [*]; done)), H', ⟨by first | omega | exact Nat.le_refl _⟩, ⟨by repeat (first | (with_reducible first | exact HB.out | apply below_alloc | apply pw_below_drewN | apply below_drew1) | exact HB.out)⟩⟩
  case rest =>
    clear HC6
    try clear c1
    try clear c2
    try clear p2
    try clear c3
    try clear c4
    try clear c9
    obtain ⟨kq, x31_5, rfl, HA, HJ5, HB⟩ := hcut
    cases kq with
    | zero => exact absurd HA.out (by simp [postmarkref06_MulMod.j0])
    | succ kj5 =>
      have H := HA.out
      clear HA
      simp only [postmarkref06_MulMod.j0] at H
      by_cases c10 : x31_5 = true
      · subst c10
        have H1 : (some (([] : List Int), 20)) = some (r1, r2) := by rw [if_pos rfl] at H; exact H
        clear H
        have H := H1
        clear H1
        simp only [Option.some.injEq, Prod.mk.injEq] at H
        obtain ⟨rfl, rfl⟩ := H
        go_wp2
        go_ret2
        exact ⟨_, by first | rfl | (simp [errW_none, errW_some] <;> rfl) | (simp [*, errW_none, errW_some] <;> rfl), by first | exact Kd.R_nil _ _ _ _ _ | exact Kd.N_nil _ _ _ _ _ | exact Kd.V_nil _ _ _ _ _ | exact Kd.Q_nil _ _ _ _ _ | exact Kd.S_nil _ _ _ _ _, by repeat (first | (with_reducible first | exact HB.out | apply below_alloc | apply pw_below_drewN | apply below_drew1) | exact HB.out)⟩
      · replace c10 := Bool.eq_false_iff.mpr c10
        subst c10
        have H1 : ((postmarkref06_Div.f kj5 l0 l2).bind fun bt335 => (if bt335.2.2 = 0 then ((postmarkref06_Div.f kj5 l1 l2).bind fun bt342 => ((postmarkref02_Mul.f kj5 bt335.2.1 bt342.2.1).bind fun bt349 => ((postmarkref06_Div.f kj5 bt349.1 l2).bind fun bt353 => (some (bt353.2.1, 0))))) else (some (([] : List Int), bt335.2.2)))) = some (r1, r2) := by rw [if_neg (show ¬ (false = true) by decide)] at H; exact H
        clear H
        have H := H1
        clear H1
        replace H := Option.bind_eq_some_iff.mp H
        obtain ⟨⟨t335, t336, t337⟩, A110, H⟩ := H
        replace H : (if t337 = 0 then ((postmarkref06_Div.f kj5 l1 l2).bind fun bt342 => ((postmarkref02_Mul.f kj5 t336 bt342.2.1).bind fun bt349 => ((postmarkref06_Div.f kj5 bt349.1 l2).bind fun bt353 => (some (bt353.2.1, 0))))) else (some (([] : List Int), t337))) = some (r1, r2) := H
        have A11 := Aside0.mk A110
        clear A110
        by_cases c12 : t337 = 0
        · rw [if_pos c12] at H
          have c12b0 : (t337 == 0) = true := beq_iff_eq.mpr c12
          have c12b1 : (t337 != 0) = false := bne_eq_false_iff_eq.mpr c12
          clear c12
          replace H := Option.bind_eq_some_iff.mp H
          obtain ⟨⟨t342, t343, t344⟩, A130, H⟩ := H
          replace H : ((postmarkref02_Mul.f kj5 t336 t343).bind fun bt349 => ((postmarkref06_Div.f kj5 bt349.1 l2).bind fun bt353 => (some (bt353.2.1, 0)))) = some (r1, r2) := H
          have A13 := Aside0.mk A130
          clear A130
          replace H := Option.bind_eq_some_iff.mp H
          obtain ⟨⟨t349, t350⟩, A140, H⟩ := H
          replace H : ((postmarkref06_Div.f kj5 t349 l2).bind fun bt353 => (some (bt353.2.1, 0))) = some (r1, r2) := H
          have A14 := Aside0.mk A140
          clear A140
          replace H := Option.bind_eq_some_iff.mp H
          obtain ⟨⟨t353, t354, t355⟩, A150, H⟩ := H
          replace H : (some (t354, 0)) = some (r1, r2) := H
          have A15 := Aside0.mk A150
          clear A150
          simp only [Option.some.injEq, Prod.mk.injEq] at H
          obtain ⟨rfl, rfl⟩ := H
          go_wp2_with (first | ((with_reducible refine gate_callee (f := 40) rfl ?_); refine goesL_ (some 35) rfl rfl Try.func40 (by kernel_rfl) rfl #[.slice A0 l0.length c0, .slice A2 l2.length c2] rfl (by (try simp only [List.map_toArray, List.map_cons, List.map_nil]); first | done | rfl | (simp only [List.length_drop, List.length_take]; rfl)) ?_; (with_reducible refine (postmarkref06_Div.calls kj5 _ _ l0 _ _ l2 t335 t336 t337 _ ?side1 ?side2 ?side3 ?side4 A11.out).mono ?_); (case side1 => repeat (first | exact (Kd.C_below HR0.out HB.out) | (with_reducible refine Kd.C_alloc ?_ _) | (with_reducible refine Kd.C_drewN ?_ _) | (with_reducible refine Kd.C_drew ?_))); (case side2 => exact HC0.out); (case side3 => repeat (first | exact (Kd.C_below HR2.out HB.out) | (with_reducible refine Kd.C_alloc ?_ _) | (with_reducible refine Kd.C_drewN ?_ _) | (with_reducible refine Kd.C_drew ?_))); (case side4 => exact HC2.out); rintro e w16 ⟨v338, v340, rfl, ho0, ho1, hb⟩; refine ⟨_, rfl, ?_⟩; have n0_ := Aside0.mk (Kd.R_lower ho0 (below_size (by repeat (first | (with_reducible first | exact HB.out | apply below_alloc | apply pw_below_drewN | apply below_drew1) | exact HB.out)))); have n1_ := Aside0.mk (Kd.R_lower ho1 (below_size (by repeat (first | (with_reducible first | exact HB.out | apply below_alloc | apply pw_below_drewN | apply below_drew1) | exact HB.out)))); have n2_ := Aside0.mk (below_step (by repeat (first | (with_reducible first | exact HB.out | apply below_alloc | apply pw_below_drewN | apply below_drew1) | exact HB.out)) hb); clear HB; have HO339 := n0_; have HO341 := n1_; have HB := n2_; clear n0_ n1_ n2_; (try clear hb); (try clear hb2); (try clear hk); (try clear hi); (try clear ho0); (try clear ho1)) | ((with_reducible refine gate_callee (f := 40) rfl ?_); refine goesL_ (some 45) rfl rfl Try.func40 (by kernel_rfl) rfl #[.slice A1 l1.length c1, .slice A2 l2.length c2] rfl (by (try simp only [List.map_toArray, List.map_cons, List.map_nil]); first | done | rfl | (simp only [List.length_drop, List.length_take]; rfl)) ?_; (with_reducible refine (postmarkref06_Div.calls kj5 _ _ l1 _ _ l2 t342 t343 t344 _ ?side1 ?side2 ?side3 ?side4 A13.out).mono ?_); (case side1 => repeat (first | exact (Kd.C_below HR1.out HB.out) | (with_reducible refine Kd.C_alloc ?_ _) | (with_reducible refine Kd.C_drewN ?_ _) | (with_reducible refine Kd.C_drew ?_))); (case side2 => exact HC1.out); (case side3 => repeat (first | exact (Kd.C_below HR2.out HB.out) | (with_reducible refine Kd.C_alloc ?_ _) | (with_reducible refine Kd.C_drewN ?_ _) | (with_reducible refine Kd.C_drew ?_))); (case side4 => exact HC2.out); rintro e w17 ⟨v345, v347, rfl, ho0, ho1, hb⟩; refine ⟨_, rfl, ?_⟩; have n0_ := Aside0.mk (Kd.R_mono (Kd.R_told (Kd.R_told (Kd.R_old (by (with_reducible repeat (first | apply Kd.R_alloc | apply Kd.R_drewN | apply Kd.R_drew)); exact HO339.out) hb) (Kd.R_base ho0)) (Kd.R_base ho1)) (fun _ h_ => h_.1)); have n1_ := Aside0.mk (Kd.R_mono (Kd.R_told (Kd.R_told (Kd.R_old (by (with_reducible repeat (first | apply Kd.R_alloc | apply Kd.R_drewN | apply Kd.R_drew)); exact HO341.out) hb) (Kd.R_base ho0)) (Kd.R_base ho1)) (fun _ h_ => h_.1)); have n2_ := Aside0.mk (Kd.R_lower (Kd.R_new' (Kd.R_new' ho0 (Kd.R_lt (by (with_reducible repeat (first | apply Kd.R_alloc | apply Kd.R_drewN | apply Kd.R_drew)); exact HO339.out))) (Kd.R_lt (by (with_reducible repeat (first | apply Kd.R_alloc | apply Kd.R_drewN | apply Kd.R_drew)); exact HO341.out))) (below_size (by repeat (first | (with_reducible first | exact HB.out | apply below_alloc | apply pw_below_drewN | apply below_drew1) | exact HB.out)))); have n3_ := Aside0.mk (Kd.R_lower (Kd.R_new' (Kd.R_new' ho1 (Kd.R_lt (by (with_reducible repeat (first | apply Kd.R_alloc | apply Kd.R_drewN | apply Kd.R_drew)); exact HO339.out))) (Kd.R_lt (by (with_reducible repeat (first | apply Kd.R_alloc | apply Kd.R_drewN | apply Kd.R_drew)); exact HO341.out))) (below_size (by repeat (first | (with_reducible first | exact HB.out | apply below_alloc | apply pw_below_drewN | apply below_drew1) | exact HB.out)))); have n4_ := Aside0.mk (below_step (by repeat (first | (with_reducible first | exact HB.out | apply below_alloc | apply pw_below_drewN | apply below_drew1) | exact HB.out)) hb); clear HO339; clear HO341; clear HB; have HO339 := n0_; have HO341 := n1_; have HO346 := n2_; have HO348 := n3_; have HB := n4_; clear n0_ n1_ n2_ n3_ n4_; (try clear hb); (try clear hb2); (try clear hk); (try clear hi); (try clear ho0); (try clear ho1); obtain ⟨Ao18, co18, eo18⟩ := Kd.R_slice HO341.out; subst eo18; obtain ⟨Ao19, co19, eo19⟩ := Kd.R_slice HO348.out; subst eo19) | ((with_reducible refine gate_callee (f := 87) rfl ?_); refine goesL_ (some 52) rfl rfl Try.func87 (by kernel_rfl) rfl #[.slice Ao18 t336.length co18, .slice Ao19 t343.length co19] rfl (by (try simp only [List.map_toArray, List.map_cons, List.map_nil]); first | done | rfl | (simp only [List.length_drop, List.length_take]; rfl)) ?_; (with_reducible refine (postmarkref02_Mul.calls kj5 _ _ t336 _ _ t343 t349 t350 _ ?side1 ?side2 ?side3 ?side4 A14.out).mono ?_); (case side1 => repeat (first | exact (Kd.R_reads' HO341.out).2.2 | (with_reducible refine Kd.C_alloc ?_ _) | (with_reducible refine Kd.C_drewN ?_ _) | (with_reducible refine Kd.C_drew ?_))); (case side2 => exact (Kd.R_reads' HO341.out).2.1); (case side3 => repeat (first | exact (Kd.R_reads' HO348.out).2.2 | (with_reducible refine Kd.C_alloc ?_ _) | (with_reducible refine Kd.C_drewN ?_ _) | (with_reducible refine Kd.C_drew ?_))); (case side4 => exact (Kd.R_reads' HO348.out).2.1); rintro e w20 ⟨v351, rfl, ho0, hb⟩; refine ⟨_, rfl, ?_⟩; have n0_ := Aside0.mk (Kd.R_elder' (by (with_reducible repeat (first | apply Kd.R_alloc | apply Kd.R_drewN | apply Kd.R_drew)); exact HO339.out) (Kd.R_base ho0) hb); have n1_ := Aside0.mk (Kd.R_elder' (by (with_reducible repeat (first | apply Kd.R_alloc | apply Kd.R_drewN | apply Kd.R_drew)); exact HO341.out) (Kd.R_base ho0) hb); have n2_ := Aside0.mk (Kd.R_elder' (by (with_reducible repeat (first | apply Kd.R_alloc | apply Kd.R_drewN | apply Kd.R_drew)); exact HO346.out) (Kd.R_base ho0) hb); have n3_ := Aside0.mk (Kd.R_elder' (by (with_reducible repeat (first | apply Kd.R_alloc | apply Kd.R_drewN | apply Kd.R_drew)); exact HO348.out) (Kd.R_base ho0) hb); have n4_ := Aside0.mk (Kd.R_lower (Kd.R_new' (Kd.R_new' (Kd.R_new' (Kd.R_new' ho0 (Kd.R_lt (by (with_reducible repeat (first | apply Kd.R_alloc | apply Kd.R_drewN | apply Kd.R_drew)); exact HO339.out))) (Kd.R_lt (by (with_reducible repeat (first | apply Kd.R_alloc | apply Kd.R_drewN | apply Kd.R_drew)); exact HO341.out))) (Kd.R_lt (by (with_reducible repeat (first | apply Kd.R_alloc | apply Kd.R_drewN | apply Kd.R_drew)); exact HO346.out))) (Kd.R_lt (by (with_reducible repeat (first | apply Kd.R_alloc | apply Kd.R_drewN | apply Kd.R_drew)); exact HO348.out))) (below_size (by repeat (first | (with_reducible first | exact HB.out | apply below_alloc | apply pw_below_drewN | apply below_drew1) | exact HB.out)))); have n5_ := Aside0.mk (below_step (by repeat (first | (with_reducible first | exact HB.out | apply below_alloc | apply pw_below_drewN | apply below_drew1) | exact HB.out)) hb); clear HO339; clear HO341; clear HO346; clear HO348; clear HB; have HO339 := n0_; have HO341 := n1_; have HO346 := n2_; have HO348 := n3_; have HO352 := n4_; have HB := n5_; clear n0_ n1_ n2_ n3_ n4_ n5_; (try clear hb); (try clear hb2); (try clear hk); (try clear hi); (try clear ho0); obtain ⟨Ao21, co21, eo21⟩ := Kd.R_slice HO352.out; subst eo21) | ((with_reducible refine gate_callee (f := 40) rfl ?_); refine goesL_ (some 58) rfl rfl Try.func40 (by kernel_rfl) rfl #[.slice Ao21 t349.length co21, .slice A2 l2.length c2] rfl (by (try simp only [List.map_toArray, List.map_cons, List.map_nil]); first | done | rfl | (simp only [List.length_drop, List.length_take]; rfl)) ?_; (with_reducible refine (postmarkref06_Div.calls kj5 _ _ t349 _ _ l2 t353 t354 t355 _ ?side1 ?side2 ?side3 ?side4 A15.out).mono ?_); (case side1 => repeat (first | exact (Kd.R_reads' HO352.out).2.2 | (with_reducible refine Kd.C_alloc ?_ _) | (with_reducible refine Kd.C_drewN ?_ _) | (with_reducible refine Kd.C_drew ?_))); (case side2 => exact (Kd.R_reads' HO352.out).2.1); (case side3 => repeat (first | exact (Kd.C_below HR2.out HB.out) | (with_reducible refine Kd.C_alloc ?_ _) | (with_reducible refine Kd.C_drewN ?_ _) | (with_reducible refine Kd.C_drew ?_))); (case side4 => exact HC2.out); rintro e w22 ⟨v356, v358, rfl, ho0, ho1, hb⟩; refine ⟨_, rfl, ?_⟩; have n0_ := Aside0.mk (Kd.R_mono (Kd.R_told (Kd.R_told (Kd.R_old (by (with_reducible repeat (first | apply Kd.R_alloc | apply Kd.R_drewN | apply Kd.R_drew)); exact HO339.out) hb) (Kd.R_base ho0)) (Kd.R_base ho1)) (fun _ h_ => h_.1)); have n1_ := Aside0.mk (Kd.R_mono (Kd.R_told (Kd.R_told (Kd.R_old (by (with_reducible repeat (first | apply Kd.R_alloc | apply Kd.R_drewN | apply Kd.R_drew)); exact HO341.out) hb) (Kd.R_base ho0)) (Kd.R_base ho1)) (fun _ h_ => h_.1)); have n2_ := Aside0.mk (Kd.R_mono (Kd.R_told (Kd.R_told (Kd.R_old (by (with_reducible repeat (first | apply Kd.R_alloc | apply Kd.R_drewN | apply Kd.R_drew)); exact HO346.out) hb) (Kd.R_base ho0)) (Kd.R_base ho1)) (fun _ h_ => h_.1)); have n3_ := Aside0.mk (Kd.R_mono (Kd.R_told (Kd.R_told (Kd.R_old (by (with_reducible repeat (first | apply Kd.R_alloc | apply Kd.R_drewN | apply Kd.R_drew)); exact HO348.out) hb) (Kd.R_base ho0)) (Kd.R_base ho1)) (fun _ h_ => h_.1)); have n4_ := Aside0.mk (Kd.R_mono (Kd.R_told (Kd.R_told (Kd.R_old (by (with_reducible repeat (first | apply Kd.R_alloc | apply Kd.R_drewN | apply Kd.R_drew)); exact HO352.out) hb) (Kd.R_base ho0)) (Kd.R_base ho1)) (fun _ h_ => h_.1)); have n5_ := Aside0.mk (Kd.R_lower (Kd.R_new' (Kd.R_new' (Kd.R_new' (Kd.R_new' (Kd.R_new' ho0 (Kd.R_lt (by (with_reducible repeat (first | apply Kd.R_alloc | apply Kd.R_drewN | apply Kd.R_drew)); exact HO339.out))) (Kd.R_lt (by (with_reducible repeat (first | apply Kd.R_alloc | apply Kd.R_drewN | apply Kd.R_drew)); exact HO341.out))) (Kd.R_lt (by (with_reducible repeat (first | apply Kd.R_alloc | apply Kd.R_drewN | apply Kd.R_drew)); exact HO346.out))) (Kd.R_lt (by (with_reducible repeat (first | apply Kd.R_alloc | apply Kd.R_drewN | apply Kd.R_drew)); exact HO348.out))) (Kd.R_lt (by (with_reducible repeat (first | apply Kd.R_alloc | apply Kd.R_drewN | apply Kd.R_drew)); exact HO352.out))) (below_size (by repeat (first | (with_reducible first | exact HB.out | apply below_alloc | apply pw_below_drewN | apply below_drew1) | exact HB.out)))); have n6_ := Aside0.mk (Kd.R_lower (Kd.R_new' (Kd.R_new' (Kd.R_new' (Kd.R_new' (Kd.R_new' ho1 (Kd.R_lt (by (with_reducible repeat (first | apply Kd.R_alloc | apply Kd.R_drewN | apply Kd.R_drew)); exact HO339.out))) (Kd.R_lt (by (with_reducible repeat (first | apply Kd.R_alloc | apply Kd.R_drewN | apply Kd.R_drew)); exact HO341.out))) (Kd.R_lt (by (with_reducible repeat (first | apply Kd.R_alloc | apply Kd.R_drewN | apply Kd.R_drew)); exact HO346.out))) (Kd.R_lt (by (with_reducible repeat (first | apply Kd.R_alloc | apply Kd.R_drewN | apply Kd.R_drew)); exact HO348.out))) (Kd.R_lt (by (with_reducible repeat (first | apply Kd.R_alloc | apply Kd.R_drewN | apply Kd.R_drew)); exact HO352.out))) (below_size (by repeat (first | (with_reducible first | exact HB.out | apply below_alloc | apply pw_below_drewN | apply below_drew1) | exact HB.out)))); have n7_ := Aside0.mk (below_step (by repeat (first | (with_reducible first | exact HB.out | apply below_alloc | apply pw_below_drewN | apply below_drew1) | exact HB.out)) hb); clear HO339; clear HO341; clear HO346; clear HO348; clear HO352; clear HB; have HO339 := n0_; have HO341 := n1_; have HO346 := n2_; have HO348 := n3_; have HO352 := n4_; have HO357 := n5_; have HO359 := n6_; have HB := n7_; clear n0_ n1_ n2_ n3_ n4_ n5_ n6_ n7_; (try clear hb); (try clear hb2); (try clear hk); (try clear hi); (try clear ho0); (try clear ho1)))
          go_ret2
          exact ⟨_, by first | rfl | (simp [errW_none, errW_some] <;> rfl) | (simp [*, errW_none, errW_some] <;> rfl), by (with_reducible repeat (first | apply Kd.R_alloc | apply Kd.R_drewN | apply Kd.R_drew)); exact Kd.R_mono HO359.out (fun _ hk => trivial), by repeat (first | (with_reducible first | exact HB.out | apply below_alloc | apply pw_below_drewN | apply below_drew1) | exact HB.out)⟩
        · rw [if_neg c12] at H
          have c12b0 : (t337 == 0) = false := beq_eq_false_iff_ne.mpr c12
          have c12b1 : (t337 != 0) = true := bne_iff_ne.mpr c12
          simp only [Option.some.injEq, Prod.mk.injEq] at H
          obtain ⟨rfl, rfl⟩ := H
          go_wp2_with (first | ((with_reducible refine gate_callee (f := 40) rfl ?_); refine goesL_ (some 35) rfl rfl Try.func40 (by kernel_rfl) rfl #[.slice A0 l0.length c0, .slice A2 l2.length c2] rfl (by (try simp only [List.map_toArray, List.map_cons, List.map_nil]); first | done | rfl | (simp only [List.length_drop, List.length_take]; rfl)) ?_; (with_reducible refine (postmarkref06_Div.calls kj5 _ _ l0 _ _ l2 t335 t336 t337 _ ?side1 ?side2 ?side3 ?side4 A11.out).mono ?_); (case side1 => repeat (first | exact (Kd.C_below HR0.out HB.out) | (with_reducible refine Kd.C_alloc ?_ _) | (with_reducible refine Kd.C_drewN ?_ _) | (with_reducible refine Kd.C_drew ?_))); (case side2 => exact HC0.out); (case side3 => repeat (first | exact (Kd.C_below HR2.out HB.out) | (with_reducible refine Kd.C_alloc ?_ _) | (with_reducible refine Kd.C_drewN ?_ _) | (with_reducible refine Kd.C_drew ?_))); (case side4 => exact HC2.out); rintro e w23 ⟨v338, v340, rfl, ho0, ho1, hb⟩; refine ⟨_, rfl, ?_⟩; have n0_ := Aside0.mk (Kd.R_lower ho0 (below_size (by repeat (first | (with_reducible first | exact HB.out | apply below_alloc | apply pw_below_drewN | apply below_drew1) | exact HB.out)))); have n1_ := Aside0.mk (Kd.R_lower ho1 (below_size (by repeat (first | (with_reducible first | exact HB.out | apply below_alloc | apply pw_below_drewN | apply below_drew1) | exact HB.out)))); have n2_ := Aside0.mk (below_step (by repeat (first | (with_reducible first | exact HB.out | apply below_alloc | apply pw_below_drewN | apply below_drew1) | exact HB.out)) hb); clear HB; have HO339 := n0_; have HO341 := n1_; have HB := n2_; clear n0_ n1_ n2_; (try clear hb); (try clear hb2); (try clear hk); (try clear hi); (try clear ho0); (try clear ho1)))
          go_ret2
          exact ⟨_, by first | rfl | (simp [errW_none, errW_some] <;> rfl) | (simp [*, errW_none, errW_some] <;> rfl), by first | exact Kd.R_nil _ _ _ _ _ | exact Kd.N_nil _ _ _ _ _ | exact Kd.V_nil _ _ _ _ _ | exact Kd.Q_nil _ _ _ _ _ | exact Kd.S_nil _ _ _ _ _, by repeat (first | (with_reducible first | exact HB.out | apply below_alloc | apply pw_below_drewN | apply below_drew1) | exact HB.out)⟩
end Go.Proofs.Ytlifengbicpppaa.G
end
section
namespace Go.Proofs.Ytlifengbicpppaa.G
open Go.RowKit Go.Proofs.YtlifengbicpppaaW.PrintWords Go.Proofs.YtlifengbicpppaaW.PrintLast Go.Proofs.YtlifengbicpppaaW.PrintMore
open Go.Proofs.Ytlifengbicpppaa.Num
def isMod (m : List Int) : Bool := decide ((strip m).length ≤ 128)
def MULMOD (x y m : List Int) : List Int × Int :=
  if (fits x && fits y && isMod m) = true then (if val 4294967296 m = 0 then ([], 60) else (digs 4294967296 (val 4294967296 x * val 4294967296 y % val 4294967296 m), 0)) else ([], 20)
theorem isMod_len {m : List Int} (h : isMod m = true) : (strip m).length ≤ 128 := by simpa [isMod] using h
theorem isMod_fits {m : List Int} (h : isMod m = true) : fits m = true := by have := isMod_len h; simp [fits]; omega
theorem fits_digs {n : Nat} : fits (digs 4294967296 n) = decide ((digs 4294967296 n).length ≤ 256) := by unfold fits; rw [strip_digs (by decide)]
theorem lb_digs {n : Nat} (h : (digs 4294967296 n).length ≤ 256) : Lb (digs 4294967296 n) := ⟨digs_Dg (by decide) n, by omega⟩
/-- A product of two rests is a natural. -/
theorem rests_fit {a b m : Nat} (ha : a < m) (hb : b < m) (hm : (digs 4294967296 m).length ≤ 128) : (digs 4294967296 (a * b)).length ≤ 256 := by
  refine (digs_len (by decide) _ _).2 ?_
  have h1 := (digs_len (b := 4294967296) (by decide) m 128).1 hm
  have h2 : a * b < 4294967296 ^ 128 * 4294967296 ^ 128 := Nat.mul_lt_mul'' (by omega) (by omega)
  rw [← Nat.pow_add] at h2
  exact h2
theorem mulmod_ev (x y m : List Int) (hx : Lb x) (hy : Lb y) (hm : Lb m) : Ev (fun k => ratio_MulMod.f k x y m) (MULMOD x y m) := by
  unfold ratio_MulMod.f MULMOD
  refine (both_ev x y hx hy).bind ?_
  refine (trim_ev m hm.len).bind ?_
  have err : ∀ a b c, Ev (fun k => ratio_MulMod.j0 k a b c true) ([], 20) := fun a b c => Ev.step (f := fun _ => some ([], 20)) (fun k => by simp [ratio_MulMod.j0]) (Ev.now _)
  by_cases hf : (fits x && fits y) = true
  · simp only [if_pos hf, if_true]
    by_cases h1 : 256 < (strip m).length
    · have e : isMod m = false := by unfold isMod; simp; omega
      simp only [if_pos h1, e, Bool.and_false]
      exact err _ _ _
    · simp only [if_neg h1, if_true]
      by_cases h2 : (strip m).length ≤ 128
      · have e : isMod m = true := by unfold isMod; simp; omega
        have e2 : decide (((strip m).length : Int) > 128) = false := by simp; omega
        rw [hf]
        simp only [e, e2, Bool.and_true, if_true]
        rw [Bool.and_eq_true] at hf
        have l1 := fits_len hf.1
        have l2 := fits_len hf.2
        rw [hx.strip_eq] at l1
        rw [hy.strip_eq] at l2
        rw [hm.strip_eq] at h2
        rw [hx.strip_eq, hy.strip_eq, hm.strip_eq]
        have e0 := digs_eq_nil (b := 4294967296) (by decide) (n := val 4294967296 m)
        by_cases h0 : val 4294967296 m = 0
        · rw [if_pos h0, e0.2 h0]
          refine Ev.step (f := fun _ => some ([], 60)) (fun k => by simp [ratio_MulMod.j0]) (Ev.now _)
        · rw [if_neg h0]
          have hne : ¬ ((digs 4294967296 (val 4294967296 m)).length : Int) = 0 := fun h => h0 (e0.1 (List.eq_nil_of_length_eq_zero (by omega)))
          have hp : 0 < val 4294967296 m := by omega
          have r1 := Nat.mod_lt (val 4294967296 x) hp
          have r2 := Nat.mod_lt (val 4294967296 y) hp
          have q1 := digs_lt (b := 4294967296) (by decide) (Nat.le_of_lt r1)
          have q2 := digs_lt (b := 4294967296) (by decide) (Nat.le_of_lt r2)
          have q3 := rests_fit r1 r2 h2
          have hmul := mul_ev (digs 4294967296 (val 4294967296 x % val 4294967296 m)) (digs 4294967296 (val 4294967296 y % val 4294967296 m)) (lb_digs (by omega)) (lb_digs (by omega))
          unfold MUL at hmul
          rw [fits_digs, fits_digs, decide_eq_true (show (digs 4294967296 (val 4294967296 x % val 4294967296 m)).length ≤ 256 by omega), decide_eq_true (show (digs 4294967296 (val 4294967296 y % val 4294967296 m)).length ≤ 256 by omega)] at hmul
          simp only [Bool.and_true, if_true, val_digs (show 2 ≤ 4294967296 by decide)] at hmul
          unfold CUT at hmul
          rw [if_pos q3] at hmul
          refine Ev.step (f := fun k => (nat_Mul.f k (digs 4294967296 (val 4294967296 x % val 4294967296 m)) (digs 4294967296 (val 4294967296 y % val 4294967296 m))).bind fun bt => (if bt.2 = 0 then ((ratio_divided.f bt.1 (digs 4294967296 (val 4294967296 m))).bind fun bt2 => (some (bt2.2, 0))) else (some (([] : List Int), bt.2)))) (fun k => ?_) (hmul.bind ?_)
          · simp only [ratio_MulMod.j0]
            rw [if_neg (by simp), if_neg hne, divided_eq _ _ hp (by omega) (by omega), Option.bind_some, divided_eq _ _ hp (by omega) (by omega), Option.bind_some]
          · simp only [if_true]
            rw [divided_eq _ _ hp (by omega) (by omega), ← Nat.mul_mod]
            exact Ev.now _
      · have e : isMod m = false := by unfold isMod; simp; omega
        have e2 : decide (((strip m).length : Int) > 128) = true := by simp; omega
        simp only [e, e2, Bool.and_false]
        exact err _ _ _
  · have hff : (fits x && fits y) = false := by simpa using hf
    simp only [if_neg hf, hff, Bool.false_and]
    simp
    exact err _ _ _
theorem rmulmod_ev (x y m : List Int) (hx : Lb x) (hy : Lb y) (hm : Lb m) : Ev (fun k => postmarkref06_MulMod.f k x y m) (MULMOD x y m) := by
  unfold postmarkref06_MulMod.f MULMOD
  refine (may_ev x y hx.dg hy.dg hx.len hy.len).bind ?_
  refine (modulus_ev m hm).bind ?_
  show Ev (fun k => if (fits x && fits y) = true then postmarkref06_MulMod.j0 k x y m (!isMod m) else _) _
  have err : Ev (fun k => postmarkref06_MulMod.j0 k x y m true) ([], 20) := Ev.step (f := fun _ => some ([], 20)) (fun k => by simp [postmarkref06_MulMod.j0]) (Ev.now _)
  by_cases hf : (fits x && fits y) = true
  · simp only [if_pos hf]
    rw [hf]
    by_cases h2 : isMod m = true
    · rw [h2]
      simp only [Bool.and_true, if_true, Bool.not_true]
      rw [Bool.and_eq_true] at hf
      have hfm := isMod_fits h2
      have hml := isMod_len h2
      rw [hm.strip_eq] at hml
      refine Ev.step (f := fun k => (postmarkref06_Div.f k x m).bind fun bt335 => (if bt335.2.2 = 0 then ((postmarkref06_Div.f k y m).bind fun bt342 => ((postmarkref02_Mul.f k bt335.2.1 bt342.2.1).bind fun bt349 => ((postmarkref06_Div.f k bt349.1 m).bind fun bt353 => (some (bt353.2.1, 0))))) else (some (([] : List Int), bt335.2.2)))) (fun k => by simp [postmarkref06_MulMod.j0]) ?_
      refine (refdiv_ev x m hx hm).bind ?_
      have dx : DIV x m = if val 4294967296 m = 0 then ([], [], 60) else (digs 4294967296 (val 4294967296 x / val 4294967296 m), digs 4294967296 (val 4294967296 x % val 4294967296 m), 0) := by unfold DIV; rw [hf.1, hfm]; rfl
      have dy : DIV y m = if val 4294967296 m = 0 then ([], [], 60) else (digs 4294967296 (val 4294967296 y / val 4294967296 m), digs 4294967296 (val 4294967296 y % val 4294967296 m), 0) := by unfold DIV; rw [hf.2, hfm]; rfl
      by_cases h0 : val 4294967296 m = 0
      · rw [dx, if_pos h0, if_pos h0]
        simp
        exact Ev.now _
      · rw [dx, if_neg h0, if_neg h0]
        simp only [if_true]
        refine (refdiv_ev y m hy hm).bind ?_
        rw [dy, if_neg h0]
        have hp : 0 < val 4294967296 m := by omega
        have r1 := Nat.mod_lt (val 4294967296 x) hp
        have r2 := Nat.mod_lt (val 4294967296 y) hp
        have q1 := digs_lt (b := 4294967296) (by decide) (Nat.le_of_lt r1)
        have q2 := digs_lt (b := 4294967296) (by decide) (Nat.le_of_lt r2)
        have q3 := rests_fit r1 r2 hml
        have hmul := rmul_ev (digs 4294967296 (val 4294967296 x % val 4294967296 m)) (digs 4294967296 (val 4294967296 y % val 4294967296 m)) (lb_digs (by omega)) (lb_digs (by omega))
        unfold MUL at hmul
        rw [fits_digs, fits_digs, decide_eq_true (show (digs 4294967296 (val 4294967296 x % val 4294967296 m)).length ≤ 256 by omega), decide_eq_true (show (digs 4294967296 (val 4294967296 y % val 4294967296 m)).length ≤ 256 by omega)] at hmul
        simp only [Bool.and_true, if_true, val_digs (show 2 ≤ 4294967296 by decide)] at hmul
        unfold CUT at hmul
        rw [if_pos q3] at hmul
        refine hmul.bind ?_
        refine (refdiv_ev _ m (lb_digs q3) hm).bind ?_
        unfold DIV
        rw [fits_digs, decide_eq_true q3, hfm, val_digs (by decide)]
        simp only [Bool.and_true, if_true, if_neg h0]
        rw [← Nat.mul_mod]
        exact Ev.now _
    · have h2' : isMod m = false := by simpa using h2
      rw [h2']
      exact err
  · have hff : (fits x && fits y) = false := by simpa using hf
    simp only [hff, Bool.false_and]
    exact err
end Go.Proofs.Ytlifengbicpppaa.G
end
section
namespace Go.Proofs.Ytlifengbicpppaa.G
open Go.RowKit Go.Proofs.YtlifengbicpppaaW.PrintWords Go.Proofs.YtlifengbicpppaaW.PrintLast Go.Proofs.YtlifengbicpppaaW.PrintMore
open Go.Proofs.Ytlifengbicpppaa.Num
/-- Rests, each told by how often the number it is. -/
def invL (m : Nat) : Nat → Nat → Nat → Nat → Nat → Nat × Nat
  | 0, a, _, s, _ => (a, s)
  | f + 1, a, b, s, t => if b = 0 then (a, s) else invL m f b (a % b) t ((s + m - a / b * t % m) % m)
theorem invL_more (m : Nat) : ∀ (f f' a b s t : Nat), b < f → b < f' → invL m f a b s t = invL m f' a b s t
  | 0, _, _, _, _, _, h, _ => by omega
  | _ + 1, 0, _, _, _, _, _, h => by omega
  | f + 1, f' + 1, a, b, s, t, h, h' => by
    simp only [invL]
    by_cases hb : b = 0
    · rw [if_pos hb, if_pos hb]
    · rw [if_neg hb, if_neg hb]
      have := Nat.mod_lt a (show 0 < b by omega)
      exact invL_more m f f' _ _ _ _ (by omega) (by omega)
/-- .. at as many rounds as it takes. -/
def invR (m a b s t : Nat) : Nat × Nat := invL m (b + 1) a b s t
theorem invR_zero (m a s t : Nat) : invR m a 0 s t = (a, s) := by simp [invR, invL]
theorem invR_step (m a b s t : Nat) (hb : 0 < b) : invR m a b s t = invR m b (a % b) t ((s + m - a / b * t % m) % m) := by
  unfold invR
  have := Nat.mod_lt a hb
  conv => lhs; rw [invL]
  rw [if_neg (by omega)]
  exact invL_more m _ _ _ _ _ _ (by omega) (by omega)
theorem invR_lt (m : Nat) (hm : 0 < m) : ∀ (n b : Nat), b < n → ∀ a s t, s < m → t < m → (invR m a b s t).2 < m
  | 0, _, h, _, _, _, _, _ => by omega
  | n + 1, b, h, a, s, t, hs, ht => by
    rcases Nat.eq_zero_or_pos b with rfl | hb
    · rw [invR_zero]; exact hs
    · rw [invR_step _ _ _ _ _ hb]
      exact invR_lt m hm n (a % b) (by have := Nat.mod_lt a hb; omega) _ _ _ ht (Nat.mod_lt _ hm)
def INVERSE (x m : List Int) : List Int × Int :=
  if (fits x && isMod m) = true then (if val 4294967296 m ≤ 1 then ([], 61) else
    (if (invR (val 4294967296 m) (val 4294967296 m) (val 4294967296 x % val 4294967296 m) 0 1).1 = 1 then (digs 4294967296 (invR (val 4294967296 m) (val 4294967296 m) (val 4294967296 x % val 4294967296 m) 0 1).2, 0) else ([], 61))) else ([], 20)
/-- A difference, by a modulus. -/
theorem sub_mod {s p m : Nat} (hs : s < m) (hp : p < m) : (s + m - p) % m = if p ≤ s then s - p else s + m - p := by
  by_cases h : p ≤ s
  · rw [if_pos h, show s + m - p = (s - p) + m by omega, Nat.add_mod_right, Nat.mod_eq_of_lt (by omega)]
  · rw [if_neg h, Nat.mod_eq_of_lt (by omega)]
/-- The rounds are few: the product of both rests is halved. -/
theorem prod_half {a b K : Nat} (hab : b < a) (hb : 0 < b) (h : a * b < 2 ^ (K + 1)) : b * (a % b) < 2 ^ K := by
  have hr := Nat.mod_lt a hb
  have hd := Nat.div_add_mod a b
  have hq : 1 ≤ a / b := (Nat.le_div_iff_mul_le hb).2 (by omega)
  have h1 : b * 1 ≤ b * (a / b) := Nat.mul_le_mul_left _ hq
  have h2 : 2 * (a % b) ≤ a := by omega
  have h3 : b * (2 * (a % b)) ≤ b * a := Nat.mul_le_mul_left _ h2
  have h4 : b * (2 * (a % b)) = 2 * (b * (a % b)) := Nat.mul_left_comm _ _ _
  rw [Nat.mul_comm a b, Nat.pow_succ] at h
  omega
theorem digs_one : digs 4294967296 1 = [1] := by rw [digs_pos (by decide) (by decide)]; rfl
theorem of_one : nat_Of.f 1 = some (digs 4294967296 1) := by rw [digs_one]; rfl
theorem len_lt {n m k : Nat} (h : n ≤ m) (hm : (digs 4294967296 m).length ≤ k) : (digs 4294967296 n).length ≤ k := Nat.le_trans (digs_lt (by decide) h) hm
/-- A value that reads as a number's limbs. -/
def RV (W : World) (v : Value) (n : Nat) : Prop := ∃ A c, v = .slice A (digs 4294967296 n).length c ∧ (digs 4294967296 n).length ≤ c ∧ Kd.C (Kd.int .u32) W A (digs 4294967296 n).length (digs 4294967296 n)
theorem RV.below {W W' : World} {v : Value} {n : Nat} (h : RV W v n) (hb : Below W.heap.size W W') : RV W' v n := by
  obtain ⟨A, c, h1, h2, h3⟩ := h
  exact ⟨A, c, h1, h2, Kd.C_below h3 hb⟩
theorem RV.of {W : World} {b : Nat} {ok : Nat → Prop} {v : Value} {n : Nat} (h : Kd.R (Kd.int .u32) 75 W b ok v (digs 4294967296 n)) : RV W v n := by
  obtain ⟨A, c, h1, h2, h3⟩ := Kd.R_reads h
  exact ⟨A, c, h1, h2, h3⟩
theorem RV.nil (W : World) : RV W (.slice none 0 0) 0 := ⟨none, 0, rfl, Nat.le_refl _, rfl, by decide, fun h => by simp [digs_zero] at h⟩
end Go.Proofs.Ytlifengbicpppaa.G
end
section
namespace Go.Proofs.Ytlifengbicpppaa.G
open Go.RowKit Go.Proofs.YtlifengbicpppaaW.PrintWords Go.Proofs.YtlifengbicpppaaW.PrintLast Go.Proofs.YtlifengbicpppaaW.PrintMore
open Go.Proofs.Ytlifengbicpppaa.Num
theorem cmp_digs (w : World) (A0 : Option Addr) (c0 n : Nat) (A1 : Option Addr) (c1 m : Nat) (h0 : Kd.C (Kd.int .u32) w A0 (digs 4294967296 n).length (digs 4294967296 n)) (hc0 : (digs 4294967296 n).length ≤ c0) (h1 : Kd.C (Kd.int .u32) w A1 (digs 4294967296 m).length (digs 4294967296 m)) (hc1 : (digs 4294967296 m).length ≤ c1)
    (hn : (digs 4294967296 n).length ≤ 256) (hm : (digs 4294967296 m).length ≤ 256) :
    Calls Try.prog 68 #[.slice A0 (digs 4294967296 n).length c0, .slice A1 (digs 4294967296 m).length c1] w fun e w' => e = .returned (.int .i64 (CMP n m)) ∧ Below w.heap.size w w' := by
  refine nat_Cmp.calls A0 c0 _ A1 c1 _ _ w h0 hc0 h1 hc1 ?_
  rw [cmp_eq _ _ (lb_digs hn) (lb_digs hm), val_digs (by decide), val_digs (by decide)]
theorem divided_digs (w : World) (A0 : Option Addr) (c0 n : Nat) (A1 : Option Addr) (c1 m : Nat) (h0 : Kd.C (Kd.int .u32) w A0 (digs 4294967296 n).length (digs 4294967296 n)) (hc0 : (digs 4294967296 n).length ≤ c0) (h1 : Kd.C (Kd.int .u32) w A1 (digs 4294967296 m).length (digs 4294967296 m)) (hc1 : (digs 4294967296 m).length ≤ c1)
    (hn : (digs 4294967296 n).length ≤ 256) (hm : (digs 4294967296 m).length ≤ 256) (hp : 0 < m) :
    Calls Try.prog 78 #[.slice A0 (digs 4294967296 n).length c0, .slice A1 (digs 4294967296 m).length c1] w fun e w' => ∃ v u, e = .returned (.tuple #[v, u]) ∧ RV w' v (n / m) ∧ RV w' u (n % m) ∧ Below w.heap.size w w' := by
  refine (ratio_divided.calls A0 c0 _ A1 c1 _ _ _ w h0 hc0 h1 hc1 (divided_eq n m hp (by omega) (by omega))).mono ?_
  rintro e w' ⟨v, u, rfl, h1, h2, h3⟩
  exact ⟨v, u, rfl, RV.of h1, RV.of h2, h3⟩
theorem mulmod_digs (w : World) (A0 : Option Addr) (c0 n : Nat) (A1 : Option Addr) (c1 p : Nat) (A2 : Option Addr) (c2 m : Nat) (h0 : Kd.C (Kd.int .u32) w A0 (digs 4294967296 n).length (digs 4294967296 n)) (hc0 : (digs 4294967296 n).length ≤ c0) (h1 : Kd.C (Kd.int .u32) w A1 (digs 4294967296 p).length (digs 4294967296 p)) (hc1 : (digs 4294967296 p).length ≤ c1)
    (h2 : Kd.C (Kd.int .u32) w A2 (digs 4294967296 m).length (digs 4294967296 m)) (hc2 : (digs 4294967296 m).length ≤ c2) (hn : (digs 4294967296 n).length ≤ 256) (hp : (digs 4294967296 p).length ≤ 256) (hm : (digs 4294967296 m).length ≤ 128) (hm0 : 0 < m) :
    Calls Try.prog 43 #[.slice A0 (digs 4294967296 n).length c0, .slice A1 (digs 4294967296 p).length c1, .slice A2 (digs 4294967296 m).length c2] w fun e w' => ∃ v, e = .returned (.tuple #[v, .int .i64 0]) ∧ RV w' v (n * p % m) ∧ Below w.heap.size w w' := by
  obtain ⟨k, hk⟩ := (mulmod_ev _ _ _ (lb_digs hn) (lb_digs hp) (lb_digs (Nat.le_trans hm (by decide)))).rounds
  have e : MULMOD (digs 4294967296 n) (digs 4294967296 p) (digs 4294967296 m) = (digs 4294967296 (n * p % m), 0) := by
    unfold MULMOD isMod
    rw [fits_digs, fits_digs, strip_digs (by decide), decide_eq_true hn, decide_eq_true hp, decide_eq_true hm, val_digs (by decide), val_digs (by decide), val_digs (by decide), if_neg (show ¬ m = 0 by omega)]
    rfl
  rw [e] at hk
  refine (ratio_MulMod.calls k A0 c0 _ A1 c1 _ A2 c2 _ _ _ w h0 hc0 h1 hc1 h2 hc2 hk).mono ?_
  rintro e w' ⟨v, rfl, h1, h2⟩
  exact ⟨v, rfl, RV.of h1, h2⟩
theorem sub_digs (w : World) (A0 : Option Addr) (c0 n : Nat) (A1 : Option Addr) (c1 m : Nat) (h0 : Kd.C (Kd.int .u32) w A0 (digs 4294967296 n).length (digs 4294967296 n)) (hc0 : (digs 4294967296 n).length ≤ c0) (h1 : Kd.C (Kd.int .u32) w A1 (digs 4294967296 m).length (digs 4294967296 m)) (hc1 : (digs 4294967296 m).length ≤ c1)
    (hn : (digs 4294967296 n).length ≤ 256) (hm : (digs 4294967296 m).length ≤ 256) :
    Calls Try.prog 88 #[.slice A0 (digs 4294967296 n).length c0, .slice A1 (digs 4294967296 m).length c1] w fun e w' => ∃ v, e = .returned (.tuple #[v, .int .i64 (if m ≤ n then 0 else 20)]) ∧ (m ≤ n → RV w' v (n - m)) ∧ Below w.heap.size w w' := by
  have e := sub_eq _ _ (lb_digs hn) (lb_digs hm)
  unfold SUB CUT at e
  rw [fits_digs, fits_digs, decide_eq_true hn, decide_eq_true hm, val_digs (by decide), val_digs (by decide), if_pos (len_lt (Nat.sub_le n m) hn)] at e
  simp only [Bool.and_true, if_true] at e
  by_cases h : m ≤ n
  · rw [if_pos h] at e ⊢
    refine (nat_Sub.calls A0 c0 _ A1 c1 _ _ _ w h0 hc0 h1 hc1 e).mono ?_
    rintro e w' ⟨v, rfl, h1, h2⟩
    exact ⟨v, rfl, fun _ => RV.of h1, h2⟩
  · rw [if_neg h] at e ⊢
    refine (nat_Sub.calls A0 c0 _ A1 c1 _ _ _ w h0 hc0 h1 hc1 e).mono ?_
    rintro e w' ⟨v, rfl, h1, h2⟩
    exact ⟨v, rfl, fun h' => (h h').elim, h2⟩
theorem add_digs (w : World) (A0 : Option Addr) (c0 n : Nat) (A1 : Option Addr) (c1 m : Nat) (h0 : Kd.C (Kd.int .u32) w A0 (digs 4294967296 n).length (digs 4294967296 n)) (hc0 : (digs 4294967296 n).length ≤ c0) (h1 : Kd.C (Kd.int .u32) w A1 (digs 4294967296 m).length (digs 4294967296 m)) (hc1 : (digs 4294967296 m).length ≤ c1)
    (hn : (digs 4294967296 n).length ≤ 128) (hm : (digs 4294967296 m).length ≤ 128) :
    Calls Try.prog 89 #[.slice A0 (digs 4294967296 n).length c0, .slice A1 (digs 4294967296 m).length c1] w fun e w' => ∃ v, e = .returned (.tuple #[v, .int .i64 0]) ∧ RV w' v (n + m) ∧ (digs 4294967296 (n + m)).length ≤ 256 ∧ Below w.heap.size w w' := by
  have hs : (digs 4294967296 (n + m)).length ≤ 256 := by
    refine (digs_len (by decide) _ _).2 ?_
    have h1 := (digs_len (b := 4294967296) (by decide) n 128).1 hn
    have h2 := (digs_len (b := 4294967296) (by decide) m 128).1 hm
    have h3 : 4294967296 ^ 128 * 2 ≤ 4294967296 ^ 256 := by
      have : 4294967296 ^ 128 * 2 ≤ 4294967296 ^ (128 + 1) := by rw [Nat.pow_succ]; exact Nat.mul_le_mul_left _ (by decide)
      exact Nat.le_trans this (Nat.pow_le_pow_right (by decide) (by decide))
    omega
  have e := add_eq _ _ (lb_digs (Nat.le_trans hn (by decide))) (lb_digs (Nat.le_trans hm (by decide)))
  unfold ADD CUT at e
  rw [fits_digs, fits_digs, decide_eq_true (Nat.le_trans hn (by decide)), decide_eq_true (Nat.le_trans hm (by decide)), val_digs (by decide), val_digs (by decide), if_pos hs] at e
  simp only [Bool.and_true, if_true] at e
  refine (nat_Add.calls A0 c0 _ A1 c1 _ _ _ w h0 hc0 h1 hc1 e).mono ?_
  rintro e w' ⟨v, rfl, h1, h2⟩
  exact ⟨v, rfl, RV.of h1, hs, h2⟩
theorem one_call (w : World) : Calls Try.prog 47 #[.int .u64 1] w fun e w' => ∃ v, e = .returned v ∧ RV w' v 1 ∧ Below w.heap.size w w' := by
  refine (nat_Of.calls 1 _ w of_one).mono ?_
  rintro e w' ⟨v, rfl, h1, h2⟩
  exact ⟨v, rfl, RV.of h1, h2⟩
set_option maxHeartbeats 4000000 in
set_option maxRecDepth 100000 in
theorem ratio_Inverse_any (A0 : Option Addr) (c0 : Nat) (l0 : List Int) (A1 : Option Addr) (c1 : Nat) (l1 : List Int) (w : World) (hr0 : Kd.C (Kd.int .u32) w A0 l0.length l0) (hc0 : l0.length ≤ c0) (hr1 : Kd.C (Kd.int .u32) w A1 l1.length l1) (hc1 : l1.length ≤ c1) (hx : Lb l0) (hm : Lb l1) :
    Calls Try.prog 45 #[.slice A0 l0.length c0, .slice A1 l1.length c1] w fun e w' => ∃ v, e = .returned (.tuple #[v, .int .i64 (INVERSE l0 l1).2]) ∧ Kd.R (Kd.int .u32) 75 w' w.heap.size (fun _ => True) v (INVERSE l0 l1).1 ∧ Below w.heap.size w w' := by
  obtain ⟨kb, hkb⟩ := (both_ev l0 l1 hx hm).rounds
  by_cases hf : (fits l0 && fits l1) = true
  · rw [if_pos hf, hx.strip_eq, hm.strip_eq] at hkb
    rw [Bool.and_eq_true] at hf
    have lx := fits_len hf.1
    rw [hx.strip_eq] at lx
    have HB0 := Aside0.mk (ratio_both.calls kb A0 c0 l0 A1 c1 l1 _ _ _ w hr0 hc0 hr1 hc1 hkb)
    have lm := fits_len hf.2
    rw [hm.strip_eq] at lm
    have hI : INVERSE l0 l1 = if (digs 4294967296 (val 4294967296 l1)).length ≤ 128 then (if val 4294967296 l1 ≤ 1 then ([], 61) else
        (if (invR (val 4294967296 l1) (val 4294967296 l1) (val 4294967296 l0 % val 4294967296 l1) 0 1).1 = 1 then (digs 4294967296 (invR (val 4294967296 l1) (val 4294967296 l1) (val 4294967296 l0 % val 4294967296 l1) 0 1).2, 0) else ([], 61))) else ([], 20) := by
      unfold INVERSE isMod
      rw [hf.1, hm.strip_eq]
      simp
    generalize INVERSE l0 l1 = RES at *
    generalize val 4294967296 l0 = X at *
    generalize val 4294967296 l1 = M at *
    have HL := Aside0.mk (And.intro lx lm)
    clear hkb hr0 hr1 hc0 hc1 hx hm hf lx lm
    by_cases h128 : (digs 4294967296 M).length ≤ 128
    · rw [if_pos h128] at hI
      have H128 := Aside0.mk h128
      have h8 : ¬ (128 : Int) < ((digs 4294967296 M).length : Int) := by omega
      clear h128
      by_cases hM : M ≤ 1
      · rw [if_pos hM] at hI
        subst hI
        have HMM := Aside0.mk hM
        clear hM
        go_enter Try.func45, Try.ntmps45
        go_wp2_with fail
        refine HB0.out.mono ?_
        rintro e w1 ⟨v0, v1, rfl, hR0, hR1, hB1⟩
        obtain ⟨Ac, cc, rfl⟩ := Kd.R_slice hR1
        have H1 := Aside0.mk (And.intro (Kd.R_reads' hR1) hB1)
        clear hR0 hR1 hB1 HB0
        go_wp2_with fail
        refine (one_call _).mono ?_
        rintro e w2 ⟨v2, rfl, ⟨A2, c2, rfl, hv2, hC2⟩, hB2⟩
        have HK := Aside0.mk (cmp_digs w2 Ac cc M A2 c2 1 (Kd.C_below H1.out.1.2.2 hB2) H1.out.1.2.1 hC2 hv2 HL.out.2 (by rw [digs_one]; decide))
        have H2 := Aside0.mk (H1.out.2.trans (hB2.mono H1.out.2.size))
        have hcm : CMP M 1 ≤ 0 := by unfold CMP; have := HMM.out; split <;> (try split) <;> omega
        generalize CMP M 1 = cm at *
        clear hv2 hC2 hB2
        go_wp2_with fail
        refine HK.out.mono ?_
        rintro e w3 ⟨rfl, hB3⟩
        have H3 := Aside0.mk (H2.out.trans (hB3.mono H2.out.size))
        clear hB3
        go_wp2_with fail
        go_ret2
        exact ⟨_, rfl, Kd.R_nil _ _ _ _ _, H3.out⟩
      · rw [if_neg hM] at hI
        have hX : X % M < M := Nat.mod_lt _ (by omega)
        have hlt := invR_lt M (by omega) (X % M + 1) (X % M) (by omega) M 0 1 (by omega) (by omega)
        obtain ⟨ga, gs, hG⟩ : ∃ ga gs, invR M M (X % M) 0 1 = (ga, gs) := ⟨_, _, rfl⟩
        rw [hG] at hI hlt
        dsimp only at hI hlt
        have HG := Aside0.mk (And.intro hG (And.intro hlt (And.intro hI (And.intro hM hX))))
        have hcm : CMP M 1 = 1 := by unfold CMP; rw [if_neg (by omega), if_pos (by omega)]
        have HCM := Aside0.mk hcm
        clear hG hlt hI hM hX hcm
        go_enter Try.func45, Try.ntmps45
        go_wp2_with fail
        refine HB0.out.mono ?_
        rintro e w1 ⟨v0, v1, rfl, hR0, hR1, hB1⟩
        obtain ⟨Aa, ca, rfl⟩ := Kd.R_slice hR0
        obtain ⟨Ac, cc, rfl⟩ := Kd.R_slice hR1
        have H1 := Aside0.mk (And.intro (Kd.R_reads' hR0).2 (And.intro (Kd.R_reads' hR1).2 hB1))
        clear hR0 hR1 hB1 HB0
        go_wp2_with fail
        refine (one_call _).mono ?_
        rintro e w2 ⟨v2, rfl, ⟨A2, c2, rfl, hv2, hC2⟩, hB2⟩
        have HK := Aside0.mk (cmp_digs w2 Ac cc M A2 c2 1 (Kd.C_below H1.out.2.1.2 hB2) H1.out.2.1.1 hC2 hv2 HL.out.2 (by rw [digs_one]; decide))
        rw [HCM.out] at HK
        have H2 := Aside0.mk hB2
        clear hv2 hC2 hB2
        go_wp2_with fail
        refine HK.out.mono ?_
        rintro e w3 ⟨rfl, hB3⟩
        have H3 := Aside0.mk (H2.out.trans (hB3.mono H2.out.size))
        clear hB3 H2 HK
        go_wp2_with fail
        refine (divided_digs w3 Aa ca X Ac cc M (Kd.C_below H1.out.1.2 H3.out) H1.out.1.1 (Kd.C_below H1.out.2.1.2 H3.out) H1.out.2.1.1 HL.out.1 HL.out.2 (by have := HG.out.2.2.2.1; omega)).mono ?_
        rintro e w4 ⟨v4, u4, rfl, -, hu4, hB4⟩
        have H4 := Aside0.mk (And.intro hu4 (H3.out.trans (hB4.mono H3.out.size)))
        clear hu4 hB4 H3
        go_wp2_with fail
        refine (one_call _).mono ?_
        rintro e w5 ⟨v5, rfl, hv5, hB5⟩
        have H5 := Aside0.mk (And.intro (H4.out.1.below hB5) (And.intro hv5 (H4.out.2.trans (hB5.mono H4.out.2.size))))
        clear hv5 hB5 H4
        have HCc := Aside0.mk (fun W (h : Below w1.heap.size w1 W) => Kd.C_below H1.out.2.1.2 h)
        have hcl := H1.out.2.1.1
        have HCL := Aside0.mk hcl
        clear hcl
        go_wp2_with fail
        go_loopg [10, 11, 12, 13] (X % M) (fun b v10 v11 v12 v13 wr => ∃ a s t : Nat, Aside0 (RV wr v13 a ∧ RV wr v10 b ∧ RV wr v11 s ∧ RV wr v12 t) ∧ Aside0 (b < a ∧ a ≤ M ∧ s < M ∧ t < M ∧ invR M a b s t = (ga, gs)) ∧ Aside0 (Below w1.heap.size w1 wr))
        case atStart =>
          have hM := HG.out.2.2.2.1
          exact ⟨M, 0, 1, ⟨⟨Ac, cc, rfl, HCL.out, HCc.out _ H5.out.2.2⟩, H5.out.1, RV.nil _, H5.out.2.1⟩, ⟨HG.out.2.2.2.2, Nat.le_refl _, by omega, by omega, HG.out.1⟩, ⟨H5.out.2.2⟩⟩
        case round =>
          obtain ⟨a, s, t, HV, HP, HB⟩ := hrel
          generalize wr = W1 at *
          clear wr
          obtain ⟨⟨Aw, cw, rfl, hw1, hw2⟩, ⟨Ar, cr, rfl, hr1, hr2⟩, ⟨As, cs, rfl, hs1, hs2⟩, ⟨At, ct, rfl, ht1, ht2⟩⟩ := HV.out
          have hsl := len_lt (Nat.le_of_lt HP.out.2.2.1) H128.out
          have htl := len_lt (Nat.le_of_lt HP.out.2.2.2.1) H128.out
          have hal := len_lt HP.out.2.1 H128.out
          have hbl := len_lt (Nat.le_of_lt HP.out.1) hal
          rcases Nat.eq_zero_or_pos gk with rfl | hgk
          · have h0 : ¬ (0 : Int) < ((digs 4294967296 0).length : Int) := by simp [digs_zero]
            have hfin := HP.out.2.2.2.2
            rw [invR_zero] at hfin
            obtain ⟨rfl, rfl⟩ := Prod.mk.inj hfin
            have HS := Aside0.mk (And.intro hw1 (And.intro hw2 (And.intro hs1 (And.intro hs2 (And.intro hsl hal)))))
            clear hfin hw1 hw2 hs1 hs2 hsl hal hr1 hr2 ht1 ht2 htl hbl HV
            go_wp2_with fail
            refine (one_call _).mono ?_
            rintro e w6 ⟨v6, rfl, ⟨A6, c6, rfl, hv6, hC6⟩, hB6⟩
            have HK := Aside0.mk (cmp_digs w6 Aw cw a A6 c6 1 (Kd.C_below HS.out.2.1 hB6) HS.out.1 hC6 hv6 (Nat.le_trans HS.out.2.2.2.2.2 (by decide)) (by rw [digs_one]; decide))
            have H6 := Aside0.mk (And.intro hB6 (HB.out.trans (hB6.mono HB.out.size)))
            clear hv6 hC6 hB6
            by_cases ha1 : a = 1
            · subst ha1
              have hI := HG.out.2.2.1
              rw [if_pos rfl] at hI
              subst hI
              rw [show CMP 1 1 = 0 from rfl] at HK
              have hsM := HP.out.2.2.1
              have hmod := mod_ev (digs 4294967296 s) (digs 4294967296 M) (lb_digs (Nat.le_trans HS.out.2.2.2.2.1 (by decide))) (lb_digs HL.out.2)
              have e : DIV (digs 4294967296 s) (digs 4294967296 M) = (digs 4294967296 (s / M), digs 4294967296 s, 0) := by
                unfold DIV
                rw [fits_digs, fits_digs, decide_eq_true (Nat.le_trans HS.out.2.2.2.2.1 (by decide)), decide_eq_true HL.out.2, val_digs (by decide), val_digs (by decide), if_neg (show ¬ M = 0 by omega), Nat.mod_eq_of_lt hsM]
                rfl
              rw [e] at hmod
              obtain ⟨km, hkm⟩ := hmod.rounds
              have HKM := Aside0.mk (fun W (h : Below W1.heap.size W1 W) => ratio_Mod.calls km As cs _ Ac cc _ _ _ W (Kd.C_below HS.out.2.2.2.1 h) HS.out.2.2.1 (HCc.out W (HB.out.trans (h.mono HB.out.size))) HCL.out hkm)
              clear hmod e hkm hsM
              go_wp2_with fail
              refine HK.out.mono ?_
              rintro e w7 ⟨rfl, hB7⟩
              have H7 := Aside0.mk (H6.out.1.trans (hB7.mono H6.out.1.size))
              clear hB7
              go_wp2_with fail
              refine (HKM.out _ H7.out).mono ?_
              rintro e w8 ⟨v8, rfl, hR8, hB8⟩
              have hB1' := H1.out.2.2
              have hBB := hB1'.trans (HB.out.mono hB1'.size)
              have hBC := hBB.trans (H7.out.mono hBB.size)
              have hBD := hBC.trans (hB8.mono hBC.size)
              have H8 := Aside0.mk (And.intro (Kd.R_lower hR8 hBC.size) hBD)
              clear hR8 hB8 hB1' hBB hBC hBD
              go_wp2_with fail
              go_ret2
              exact ⟨_, rfl, H8.out.1, H8.out.2⟩
            · have hI := HG.out.2.2.1
              rw [if_neg ha1] at hI
              subst hI
              have hcm1 : CMP a 1 = 1 := by unfold CMP; have := HP.out.1; rw [if_neg (by omega), if_pos (by omega)]
              rw [hcm1] at HK
              clear hcm1 ha1
              go_wp2_with fail
              refine HK.out.mono ?_
              rintro e w7 ⟨rfl, hB7⟩
              have hB1' := H1.out.2.2
              have hBB := hB1'.trans (HB.out.mono hB1'.size)
              have hBC := hBB.trans (H6.out.1.mono hBB.size)
              have H7 := Aside0.mk (hBC.trans (hB7.mono hBC.size))
              clear hB7 hB1' hBB hBC
              go_wp2_with fail
              go_ret2
              exact ⟨_, rfl, Kd.R_nil _ _ _ _ _, H7.out⟩
          · have h0 : (0 : Int) < ((digs 4294967296 gk).length : Int) := by
              have := digs_eq_nil (b := 4294967296) (by decide) (n := gk)
              rcases Nat.eq_zero_or_pos (digs 4294967296 gk).length with h | h
              · have := this.1 (List.eq_nil_of_length_eq_zero h); omega
              · omega
            have HS := Aside0.mk (And.intro (And.intro hw1 hw2) (And.intro (And.intro hr1 hr2) (And.intro (And.intro hs1 hs2) (And.intro ht1 ht2))))
            have HN := Aside0.mk (And.intro hsl (And.intro htl (And.intro hal hbl)))
            have HGK := Aside0.mk hgk
            have hD := divided_digs W1 Aw cw a Ar cr gk hw2 hw1 hr2 hr1 (Nat.le_trans hal (by decide)) (Nat.le_trans hbl (by decide)) hgk
            have HD := Aside0.mk hD
            clear hw1 hw2 hs1 hs2 hsl hal hr1 hr2 ht1 ht2 htl hbl HV hD hgk
            go_wp2_with fail
            refine HD.out.mono ?_
            rintro e w6 ⟨v6, u6, rfl, ⟨Aq, cq, rfl, hq1, hq2⟩, hu6, hB6⟩
            have hqa : a / gk ≤ a := Nat.div_le_self _ _
            have HM6 := Aside0.mk (mulmod_digs w6 Aq cq (a / gk) At ct t Ac cc M hq2 hq1 (Kd.C_below HS.out.2.2.2.2 hB6) HS.out.2.2.2.1 (HCc.out _ (HB.out.trans (hB6.mono HB.out.size))) HCL.out (len_lt hqa (Nat.le_trans HN.out.2.2.1 (by decide))) (Nat.le_trans HN.out.2.1 (by decide)) H128.out (by have := HG.out.2.2.2.1; omega))
            have H6 := Aside0.mk (And.intro hu6 hB6)
            clear hq1 hq2 hu6 hB6 hqa HD
            go_wp2_with fail
            refine HM6.out.mono ?_
            rintro e w7 ⟨v7, rfl, ⟨Ap, cp, rfl, hp1, hp2⟩, hB7⟩
            have H7 := Aside0.mk (And.intro (H6.out.1.below hB7) (H6.out.2.trans (hB7.mono H6.out.2.size)))
            have hpM : a / gk * t % M < M := Nat.mod_lt _ (by have := HG.out.2.2.2.1; omega)
            obtain ⟨p, hp⟩ : ∃ p, p = a / gk * t % M := ⟨_, rfl⟩
            rw [← hp] at hp1 hp2 hpM ⊢
            have HPP := Aside0.mk hp
            have hpl := len_lt (Nat.le_of_lt hpM) H128.out
            have HS7 := Aside0.mk (sub_digs w7 As cs s Ap cp p (Kd.C_below HS.out.2.2.1.2 H7.out.2) HS.out.2.2.1.1 hp2 hp1 (Nat.le_trans HN.out.1 (by decide)) (Nat.le_trans hpl (by decide)))
            have HPQ := Aside0.mk (And.intro hp1 (And.intro hp2 (And.intro hpM hpl)))
            clear hp hp1 hp2 hB7 HM6 H6 hpl hpM
            by_cases hps : p ≤ s
            · rw [if_pos hps] at HS7
              have HL7 := Aside0.mk hps
              clear hps
              go_wp2_with fail
              refine HS7.out.mono ?_
              rintro e w8 ⟨v8, rfl, hv8, hB8⟩
              have H8 := Aside0.mk (And.intro (hv8 HL7.out) (And.intro (H7.out.1.below hB8) (H7.out.2.trans (hB8.mono H7.out.2.size))))
              clear hv8 hB8
              go_wp2_with fail
              go_roundg (a % gk)
              case measure => exact Nat.mod_lt _ HGK.out
              case rel =>
                refine ⟨gk, t, s - p, ⟨RV.below ⟨Ar, cr, rfl, HS.out.2.1⟩ H8.out.2.2, H8.out.2.1, RV.below ⟨At, ct, rfl, HS.out.2.2.2⟩ H8.out.2.2, H8.out.1⟩, ⟨Nat.mod_lt _ HGK.out, by have := HP.out.1; have := HP.out.2.1; omega, HP.out.2.2.2.1, by have := HP.out.2.2.1; omega, ?_⟩, ⟨HB.out.trans (H8.out.2.2.mono HB.out.size)⟩⟩
                have h := HP.out.2.2.2.2
                rw [invR_step _ _ _ _ _ HGK.out, ← HPP.out, sub_mod HP.out.2.2.1 HPQ.out.2.2.1, if_pos HL7.out] at h
                exact h
            · rw [if_neg hps] at HS7
              have HL7 := Aside0.mk hps
              clear hps
              go_wp2_with fail
              refine HS7.out.mono ?_
              rintro e w8 ⟨v8, rfl, -, hB8⟩
              have H8 := Aside0.mk (And.intro (H7.out.1.below hB8) (And.intro hB8 (H7.out.2.trans (hB8.mono H7.out.2.size))))
              clear hB8
              go_wp2_with fail
              refine (add_digs w8 As cs s Ac cc M (Kd.C_below HS.out.2.2.1.2 H8.out.2.2) HS.out.2.2.1.1 (HCc.out _ (HB.out.trans (H8.out.2.2.mono HB.out.size))) HCL.out HN.out.1 H128.out).mono ?_
              rintro e w9 ⟨v9, rfl, ⟨Au, cu, rfl, hu1, hu2⟩, hsum, hB9⟩
              have H9 := Aside0.mk (And.intro (H8.out.1.below hB9) (And.intro (H8.out.2.1.trans (hB9.mono H8.out.2.1.size)) (H8.out.2.2.trans (hB9.mono H8.out.2.2.size))))
              have hle : p ≤ s + M := by have := HPQ.out.2.2.1; omega
              have HS9 := sub_digs w9 Au cu (s + M) Ap cp p hu2 hu1 (Kd.C_below HPQ.out.2.1 H9.out.2.1) HPQ.out.1 hsum (Nat.le_trans HPQ.out.2.2.2 (by decide))
              rw [if_pos hle] at HS9
              have HS9 := Aside0.mk HS9
              have HLE := Aside0.mk hle
              clear hu1 hu2 hsum hB9 hle
              go_wp2_with fail
              refine HS9.out.mono ?_
              rintro e w10 ⟨v10, rfl, hv10, hB10⟩
              have H10 := Aside0.mk (And.intro (hv10 HLE.out) (And.intro (H9.out.1.below hB10) (H9.out.2.2.trans (hB10.mono H9.out.2.2.size))))
              clear hv10 hB10
              go_wp2_with fail
              go_roundg (a % gk)
              case measure => exact Nat.mod_lt _ HGK.out
              case rel =>
                refine ⟨gk, t, s + M - p, ⟨RV.below ⟨Ar, cr, rfl, HS.out.2.1⟩ H10.out.2.2, H10.out.2.1, RV.below ⟨At, ct, rfl, HS.out.2.2.2⟩ H10.out.2.2, H10.out.1⟩, ⟨Nat.mod_lt _ HGK.out, by have := HP.out.1; have := HP.out.2.1; omega, HP.out.2.2.2.1, by have := HP.out.2.2.1; have := HL7.out; omega, ?_⟩, ⟨HB.out.trans (H10.out.2.2.mono HB.out.size)⟩⟩
                have h := HP.out.2.2.2.2
                rw [invR_step _ _ _ _ _ HGK.out, ← HPP.out, sub_mod HP.out.2.2.1 HPQ.out.2.2.1, if_neg HL7.out] at h
                exact h
    · rw [if_neg h128] at hI
      subst hI
      have h8 : (128 : Int) < ((digs 4294967296 M).length : Int) := by omega
      clear h128
      go_enter Try.func45, Try.ntmps45
      go_wp2_with fail
      refine HB0.out.mono ?_
      rintro e w1 ⟨v0, v1, rfl, hR0, hR1, hB1⟩
      obtain ⟨Ac, cc, rfl⟩ := Kd.R_slice hR1
      have H1 := Aside0.mk hB1
      clear hR0 hR1 hB1
      go_wp2_with fail
      go_ret2
      exact ⟨_, rfl, Kd.R_nil _ _ _ _ _, H1.out⟩
  · have hI : INVERSE l0 l1 = ([], 20) := by
      unfold INVERSE
      rw [if_neg]
      intro h
      rw [Bool.and_eq_true] at h
      rw [h.1, isMod_fits h.2] at hf
      exact hf rfl
    rw [if_neg hf] at hkb
    have HB0 := Aside0.mk (ratio_both.calls kb A0 c0 l0 A1 c1 l1 _ _ _ w hr0 hc0 hr1 hc1 hkb)
    rw [hI]
    clear hkb hr0 hr1 hc0 hc1 hI hf
    go_enter Try.func45, Try.ntmps45
    go_wp2_with fail
    refine HB0.out.mono ?_
    rintro e w1 ⟨v0, v1, rfl, hR0, hR1, hB1⟩
    have H1 := Aside0.mk hB1
    clear hR0 hR1 hB1
    go_wp2_with fail
    go_ret2
    exact ⟨_, rfl, Kd.R_nil _ _ _ _ _, H1.out⟩
end Go.Proofs.Ytlifengbicpppaa.G
end
section
namespace Go.Proofs.Ytlifengbicpppaa.G
open Go.RowKit Go.Proofs.YtlifengbicpppaaW.PrintWords Go.Proofs.YtlifengbicpppaaW.PrintLast Go.Proofs.YtlifengbicpppaaW.PrintMore
open Go.Proofs.Ytlifengbicpppaa.Num
/-- A value that reads as limbs of a natural. -/
def RW (W : World) (v : Value) (n : Nat) : Prop := ∃ A c l, v = .slice A (List.length l) c ∧ l.length ≤ c ∧ Kd.C (Kd.int .u32) W A l.length l ∧ Lb l ∧ fits l = true ∧ val 4294967296 l = n
theorem RW.below {W W' : World} {v : Value} {n : Nat} (h : RW W v n) (hb : Below W.heap.size W W') : RW W' v n := by
  obtain ⟨A, c, l, h1, h2, h3, h4⟩ := h
  exact ⟨A, c, l, h1, h2, Kd.C_below h3 hb, h4⟩
theorem RV.rw {W : World} {v : Value} {n : Nat} (h : RV W v n) (hl : (digs 4294967296 n).length ≤ 256) : RW W v n := by
  obtain ⟨A, c, h1, h2, h3⟩ := h
  exact ⟨A, c, _, h1, h2, h3, lb_digs hl, by rw [fits_digs]; exact decide_eq_true hl, val_digs (by decide) n⟩
/-- The digits' number, of one limb: a literal. -/
theorem C_one (w : World) : Kd.C (Kd.int .u32) (w.alloc (.cells #[.int .u32 1] 75)) (some ⟨w.heap.size, 0, none⟩) (digs 4294967296 1).length (digs 4294967296 1) := by
  rw [digs_one]
  refine Kd.C_of_reads (enc := Value.int .u32) (d := (0 : Int)) (h1 := fun _ => rfl) ⟨rfl, by decide, fun _ => ⟨_, rfl, fun j hj => ?_⟩⟩
  obtain rfl : j = 0 := by simp at hj; omega
  have := (Boxed.new w 75 (.int .u32 1)).cell
  rw [add_plain]
  exact this
theorem rdiv_any (w : World) (A0 : Option Addr) (c0 : Nat) (l0 : List Int) (A1 : Option Addr) (c1 : Nat) (l1 : List Int) (h0 : Kd.C (Kd.int .u32) w A0 l0.length l0) (hc0 : l0.length ≤ c0) (h1 : Kd.C (Kd.int .u32) w A1 l1.length l1) (hc1 : l1.length ≤ c1)
    (hx : Lb l0) (hy : Lb l1) (fx : fits l0 = true) (fy : fits l1 = true) (hp : 0 < val 4294967296 l1) :
    Calls Try.prog 40 #[.slice A0 l0.length c0, .slice A1 l1.length c1] w fun e w' => ∃ v u, e = .returned (.tuple #[v, u, .int .i64 0]) ∧ RV w' v (val 4294967296 l0 / val 4294967296 l1) ∧ RV w' u (val 4294967296 l0 % val 4294967296 l1) ∧ Below w.heap.size w w' := by
  obtain ⟨k, hk⟩ := (refdiv_ev l0 l1 hx hy).rounds
  have e : DIV l0 l1 = (digs 4294967296 (val 4294967296 l0 / val 4294967296 l1), digs 4294967296 (val 4294967296 l0 % val 4294967296 l1), 0) := by
    unfold DIV
    rw [fx, fy, if_neg (show ¬ val 4294967296 l1 = 0 by omega)]
    rfl
  rw [e] at hk
  refine (postmarkref06_Div.calls k A0 c0 _ A1 c1 _ _ _ _ w h0 hc0 h1 hc1 hk).mono ?_
  rintro e w' ⟨v, u, rfl, h1, h2, h3⟩
  exact ⟨v, u, rfl, RV.of h1, RV.of h2, h3⟩
theorem rdiv_R (w : World) (A0 : Option Addr) (c0 : Nat) (l0 : List Int) (A1 : Option Addr) (c1 : Nat) (l1 : List Int) (h0 : Kd.C (Kd.int .u32) w A0 l0.length l0) (hc0 : l0.length ≤ c0) (h1 : Kd.C (Kd.int .u32) w A1 l1.length l1) (hc1 : l1.length ≤ c1)
    (hx : Lb l0) (hy : Lb l1) (fx : fits l0 = true) (fy : fits l1 = true) (hp : 0 < val 4294967296 l1) :
    Calls Try.prog 40 #[.slice A0 l0.length c0, .slice A1 l1.length c1] w fun e w' => ∃ v u, e = .returned (.tuple #[v, u, .int .i64 0]) ∧ Kd.R (Kd.int .u32) 75 w' w.heap.size (fun _ => True) u (digs 4294967296 (val 4294967296 l0 % val 4294967296 l1)) ∧ Below w.heap.size w w' := by
  obtain ⟨k, hk⟩ := (refdiv_ev l0 l1 hx hy).rounds
  have e : DIV l0 l1 = (digs 4294967296 (val 4294967296 l0 / val 4294967296 l1), digs 4294967296 (val 4294967296 l0 % val 4294967296 l1), 0) := by
    unfold DIV
    rw [fx, fy, if_neg (show ¬ val 4294967296 l1 = 0 by omega)]
    rfl
  rw [e] at hk
  refine (postmarkref06_Div.calls k A0 c0 _ A1 c1 _ _ _ _ w h0 hc0 h1 hc1 hk).mono ?_
  rintro e w' ⟨v, u, rfl, h1, h2, h3⟩
  exact ⟨v, u, rfl, Kd.R_mono h2 (fun _ _ => trivial), h3⟩
theorem rmulmod_any (w : World) (A0 : Option Addr) (c0 : Nat) (l0 : List Int) (A1 : Option Addr) (c1 : Nat) (l1 : List Int) (A2 : Option Addr) (c2 : Nat) (l2 : List Int) (h0 : Kd.C (Kd.int .u32) w A0 l0.length l0) (hc0 : l0.length ≤ c0) (h1 : Kd.C (Kd.int .u32) w A1 l1.length l1) (hc1 : l1.length ≤ c1) (h2 : Kd.C (Kd.int .u32) w A2 l2.length l2) (hc2 : l2.length ≤ c2)
    (hx : Lb l0) (hy : Lb l1) (hm : Lb l2) (fx : fits l0 = true) (fy : fits l1 = true) (fm : isMod l2 = true) (hp : 0 < val 4294967296 l2) :
    Calls Try.prog 44 #[.slice A0 l0.length c0, .slice A1 l1.length c1, .slice A2 l2.length c2] w fun e w' => ∃ v, e = .returned (.tuple #[v, .int .i64 0]) ∧ RV w' v (val 4294967296 l0 * val 4294967296 l1 % val 4294967296 l2) ∧ Below w.heap.size w w' := by
  obtain ⟨k, hk⟩ := (rmulmod_ev l0 l1 l2 hx hy hm).rounds
  have e : MULMOD l0 l1 l2 = (digs 4294967296 (val 4294967296 l0 * val 4294967296 l1 % val 4294967296 l2), 0) := by
    unfold MULMOD
    rw [fx, fy, fm, if_neg (show ¬ val 4294967296 l2 = 0 by omega)]
    rfl
  rw [e] at hk
  refine (postmarkref06_MulMod.calls k A0 c0 _ A1 c1 _ A2 c2 _ _ _ w h0 hc0 h1 hc1 h2 hc2 hk).mono ?_
  rintro e w' ⟨v, rfl, h1, h2⟩
  exact ⟨v, rfl, RV.of h1, h2⟩
theorem radd_any (w : World) (A0 : Option Addr) (c0 : Nat) (l0 : List Int) (A1 : Option Addr) (c1 : Nat) (l1 : List Int) (h0 : Kd.C (Kd.int .u32) w A0 l0.length l0) (hc0 : l0.length ≤ c0) (h1 : Kd.C (Kd.int .u32) w A1 l1.length l1) (hc1 : l1.length ≤ c1)
    (hx : Lb l0) (hy : Lb l1) (fx : fits l0 = true) (fy : fits l1 = true) (hs : (digs 4294967296 (val 4294967296 l0 + val 4294967296 l1)).length ≤ 256) :
    Calls Try.prog 90 #[.slice A0 l0.length c0, .slice A1 l1.length c1] w fun e w' => ∃ v, e = .returned (.tuple #[v, .int .i64 0]) ∧ RV w' v (val 4294967296 l0 + val 4294967296 l1) ∧ Below w.heap.size w w' := by
  obtain ⟨k, hk⟩ := (radd_ev l0 l1 hx hy).rounds
  have e : ADD l0 l1 = (digs 4294967296 (val 4294967296 l0 + val 4294967296 l1), 0) := by
    unfold ADD CUT
    rw [fx, fy, if_pos hs]
    rfl
  rw [e] at hk
  refine (postmarkref02_Add.calls k A0 c0 _ A1 c1 _ _ _ w h0 hc0 h1 hc1 hk).mono ?_
  rintro e w' ⟨v, rfl, h1, h2⟩
  exact ⟨v, rfl, RV.of h1, h2⟩
theorem rsub_any (w : World) (A0 : Option Addr) (c0 : Nat) (l0 : List Int) (A1 : Option Addr) (c1 : Nat) (l1 : List Int) (h0 : Kd.C (Kd.int .u32) w A0 l0.length l0) (hc0 : l0.length ≤ c0) (h1 : Kd.C (Kd.int .u32) w A1 l1.length l1) (hc1 : l1.length ≤ c1)
    (hx : Lb l0) (hy : Lb l1) (fx : fits l0 = true) (fy : fits l1 = true) (hle : val 4294967296 l1 ≤ val 4294967296 l0) :
    Calls Try.prog 91 #[.slice A0 l0.length c0, .slice A1 l1.length c1] w fun e w' => ∃ v, e = .returned (.tuple #[v, .int .i64 0]) ∧ RV w' v (val 4294967296 l0 - val 4294967296 l1) ∧ Below w.heap.size w w' := by
  obtain ⟨k, hk⟩ := (rsub_ev l0 l1 hx hy).rounds
  have hl := fits_len fx
  rw [hx.strip_eq] at hl
  have e : SUB l0 l1 = (digs 4294967296 (val 4294967296 l0 - val 4294967296 l1), 0) := by
    unfold SUB CUT
    rw [fx, fy, if_pos hle, if_pos (len_lt (Nat.sub_le _ _) hl)]
    rfl
  rw [e] at hk
  refine (postmarkref02_Sub.calls k A0 c0 _ A1 c1 _ _ _ w h0 hc0 h1 hc1 hk).mono ?_
  rintro e w' ⟨v, rfl, h1, h2⟩
  exact ⟨v, rfl, RV.of h1, h2⟩
theorem rcmp_one (w : World) (A0 : Option Addr) (c0 : Nat) (l0 : List Int) (h0 : Kd.C (Kd.int .u32) w A0 l0.length l0) (hc0 : l0.length ≤ c0) (hx : Lb l0) :
    Calls Try.prog 62 #[.slice A0 l0.length c0, .slice (some ⟨w.heap.size, 0, none⟩) 1 1] (w.alloc (.cells #[.int .u32 1] 75)) fun e w' => e = .returned (.int .i64 (CMP (val 4294967296 l0) 1)) ∧ Below w.heap.size w w' := by
  obtain ⟨k, hk⟩ := (rcmp_ev l0 (digs 4294967296 1) hx (lb_digs (by rw [digs_one]; decide))).rounds
  rw [val_digs (by decide)] at hk
  have hl : (digs 4294967296 1).length = 1 := by rw [digs_one]; rfl
  have h := postmarkref02_Cmp.calls k A0 c0 l0 (some ⟨w.heap.size, 0, none⟩) 1 (digs 4294967296 1) _ (w.alloc (.cells #[.int .u32 1] 75)) (Kd.C_alloc h0 _) hc0 (C_one w) (by omega) hk
  rw [hl] at h
  refine h.mono ?_
  rintro e w' ⟨rfl, h2⟩
  exact ⟨rfl, ((Below.refl _ w).alloc (Nat.le_refl _) _).trans (h2.mono (by simp))⟩
theorem modulus_call (w : World) (A0 : Option Addr) (c0 : Nat) (l0 : List Int) (h0 : Kd.C (Kd.int .u32) w A0 l0.length l0) (hc0 : l0.length ≤ c0) (hx : Lb l0) :
    Calls Try.prog 42 #[.slice A0 l0.length c0] w fun e w' => e = .returned (.bool (isMod l0)) ∧ Below w.heap.size w w' := by
  obtain ⟨k, hk⟩ := (modulus_ev l0 hx).rounds
  exact postmarkref06_Modulus.calls k A0 c0 l0 _ w h0 hc0 hk
def lbB (l : List Int) : Bool := l.all (fun x => decide (0 ≤ x) && decide (x < 4294967296)) && decide (l.length < 1000000)
theorem lbB_spec {l : List Int} (h : lbB l = true) : Lb l := by
  simp only [lbB, Bool.and_eq_true, decide_eq_true_eq, List.all_eq_true] at h
  exact ⟨fun x hx => h.1 x hx, h.2⟩
theorem lbB_of {l : List Int} (h : Lb l) : lbB l = true := by
  simp only [lbB, Bool.and_eq_true, decide_eq_true_eq, List.all_eq_true]
  exact ⟨fun x hx => h.dg x hx, h.len⟩
def postmarkref06_Inverse.f (l0 l1 : List Int) : Option (List Int × Int) := if lbB l0 && lbB l1 && (!isMod l1 || decide ((strip l1).length ≤ 100)) then some (INVERSE l0 l1) else none
theorem bits_of_len {n k : Nat} (h : (digs 4294967296 n).length ≤ k) : n < 2 ^ (32 * k) := by
  have := (digs_len (b := 4294967296) (by decide) n k).1 h
  rw [Nat.pow_mul]
  exact this
theorem prod_bits {a b k : Nat} (ha : a < 2 ^ k) (hb : b ≤ a) : a * b < 2 ^ (k + k) := by
  rw [Nat.pow_add]
  exact Nat.mul_lt_mul'' ha (by omega)
/-- The loop's state. -/
structure IS (M ga gs : Nat) (gk a s t c K : Nat) : Prop where
  lt : gk < a
  le : a ≤ M
  sM : s < M
  tM : t < M
  res : invR M a gk s t = (ga, gs)
  prod : a * gk < 2 ^ K
  cnt : c + K ≤ 6400
theorem IS.start {M X k : Nat} (hM : 1 < M) (hX : X < M) (hlen : (digs 4294967296 M).length ≤ k) (hk : 64 * k ≤ 6400) : ∃ K, IS M (invR M M X 0 1).1 (invR M M X 0 1).2 X M 0 1 0 K :=
  ⟨32 * k + 32 * k, hX, Nat.le_refl _, by omega, by omega, rfl, prod_bits (bits_of_len hlen) (by omega), by omega⟩
theorem sum_fits {s M : Nat} (hs : s < M) (hm : (digs 4294967296 M).length ≤ 128) : (digs 4294967296 (s + M)).length ≤ 256 := by
  have h2 := (digs_len (b := 4294967296) (by decide) M 128).1 hm
  refine Nat.le_trans ((digs_len (b := 4294967296) (by decide) (s + M) (128 + 1)).2 ?_) (by decide)
  rw [Nat.pow_succ]
  generalize 4294967296 ^ 128 = z at *
  omega
theorem IS.step {M ga gs gk a s t c K : Nat} (h : IS M ga gs gk a s t c K) (hgk : 0 < gk) : ∃ K', IS M ga gs (a % gk) gk t ((s + M - a / gk * t % M) % M) (c + 1) K' := by
  have hM : 0 < M := by have := h.sM; omega
  have hp := h.prod
  cases K with
  | zero =>
    exfalso
    have : 1 * 1 ≤ a * gk := Nat.mul_le_mul (by have := h.lt; omega) hgk
    rw [Nat.pow_zero] at hp
    omega
  | succ K =>
    have h1 := h.lt
    have h2 := h.le
    have h3 := h.cnt
    have h4 := h.res
    rw [invR_step _ _ _ _ _ hgk] at h4
    exact ⟨K, Nat.mod_lt _ hgk, by omega, h.tM, Nat.mod_lt _ hM, h4, prod_half h1 hgk hp, by omega⟩
set_option maxHeartbeats 4000000 in
set_option maxRecDepth 100000 in
theorem postmarkref06_Inverse.calls (A0 : Option Addr) (c0 : Nat) (l0 : List Int) (A1 : Option Addr) (c1 : Nat) (l1 : List Int) (r1 : List Int) (r2 : Int) (w : World) (hr0 : Kd.C (Kd.int .u32) w A0 l0.length l0) (hc0 : l0.length ≤ c0) (hr1 : Kd.C (Kd.int .u32) w A1 l1.length l1) (hc1 : l1.length ≤ c1) (h : postmarkref06_Inverse.f l0 l1 = some (r1, r2)) :
    Calls Try.prog 46 #[.slice A0 l0.length c0, .slice A1 l1.length c1] w fun e w' => ∃ v0_ : Value, e = .returned (.tuple #[v0_, .int .i64 r2]) ∧ Kd.R (Kd.int .u32) 75 w' w.heap.size (fun _ => True) v0_ r1 ∧ Below w.heap.size w w' := by
  unfold postmarkref06_Inverse.f at h
  by_cases hok : (lbB l0 && lbB l1 && (!isMod l1 || decide ((strip l1).length ≤ 100))) = true
  · rw [if_pos hok] at h
    have h := Option.some.inj h
    simp only [Bool.and_eq_true] at hok
    have hx := lbB_spec hok.1.1
    have hm := lbB_spec hok.1.2
    have hlen : isMod l1 = true → (strip l1).length ≤ 100 := fun h' => by have := hok.2; rw [h'] at this; simpa using this
    clear hok
    have HMay := Aside0.mk (may_call w A0 c0 l0 A1 c1 l1 hr0 hc0 hr1 hc1 hx hm)
    have HY := Aside0.mk (fun W (h : Below w.heap.size w W) => Kd.C_below hr1 h)
    have HX := Aside0.mk (fun W (h : Below w.heap.size w W) => Kd.C_below hr0 h)
    have HC := Aside0.mk (And.intro hc0 (And.intro hc1 (And.intro hx hm)))
    have HMo := Aside0.mk (fun W (h : Below w.heap.size w W) => modulus_call W A1 c1 l1 (Kd.C_below hr1 h) hc1 hm)
    clear hr0 hr1 hc0 hc1
    unfold INVERSE at h
    by_cases hf : (fits l0 && isMod l1) = true
    · rw [if_pos hf] at h
      rw [Bool.and_eq_true] at hf
      have hfm := isMod_fits hf.2
      rw [hf.1, hfm] at HMay
      rw [hf.2] at HMo
      have hlen := hlen hf.2
      have HF := Aside0.mk (And.intro hf.1 (And.intro hf.2 (And.intro hfm hlen)))
      have HCm := Aside0.mk (fun W (h : Below w.heap.size w W) => rcmp_one W A1 c1 l1 (HY.out W h) HC.out.2.1 hm)
      by_cases hM : val 4294967296 l1 ≤ 1
      · rw [if_pos hM] at h
        obtain ⟨rfl, rfl⟩ := Prod.mk.inj h
        have hcm : CMP (val 4294967296 l1) 1 ≤ 0 := by unfold CMP; split <;> (try split) <;> omega
        generalize CMP (val 4294967296 l1) 1 = cm at *
        clear h hf hfm hlen hM hx hm
        go_enter Try.func46, Try.ntmps46
        go_wp2_with fail
        refine HMay.out.mono ?_
        rintro e w1 ⟨rfl, hB1⟩
        have H1 := Aside0.mk hB1
        clear hB1
        go_wp2_with fail
        refine (HMo.out _ H1.out).mono ?_
        rintro e w2 ⟨rfl, hB2⟩
        have H2 := Aside0.mk (H1.out.trans (hB2.mono H1.out.size))
        clear hB2
        go_wp2_with fail
        refine (HCm.out _ H2.out).mono ?_
        rintro e w3 ⟨rfl, hB3⟩
        have H3 := Aside0.mk (H2.out.trans (hB3.mono H2.out.size))
        clear hB3
        go_wp2_with fail
        go_ret2
        exact ⟨_, rfl, Kd.R_nil _ _ _ _ _, H3.out⟩
      · rw [if_neg hM] at h
        have hcm : CMP (val 4294967296 l1) 1 = 1 := by unfold CMP; rw [if_neg (by omega), if_pos (by omega)]
        rw [hcm] at HCm
        rw [hm.strip_eq] at hlen
        have hX : val 4294967296 l0 % val 4294967296 l1 < val 4294967296 l1 := Nat.mod_lt _ (by omega)
        have hlt := invR_lt (val 4294967296 l1) (by omega) (val 4294967296 l0 % val 4294967296 l1 + 1) (val 4294967296 l0 % val 4294967296 l1) (by omega) (val 4294967296 l1) 0 1 (by omega) (by omega)
        have hIS := IS.start (M := val 4294967296 l1) (X := val 4294967296 l0 % val 4294967296 l1) (by omega) hX hlen (by decide)
        generalize invR (val 4294967296 l1) (val 4294967296 l1) (val 4294967296 l0 % val 4294967296 l1) 0 1 = G at *
        obtain ⟨ga, gs⟩ := G
        dsimp only at *
        have HIS := Aside0.mk hIS
        have hl128 : (digs 4294967296 (val 4294967296 l1)).length ≤ 128 := by omega
        have HMM := Aside0.mk (And.intro hM (And.intro h (And.intro hlt hl128)))
        have HD1 := Aside0.mk (fun W (h : Below w.heap.size w W) => rdiv_any W A0 c0 l0 A1 c1 l1 (HX.out W h) HC.out.1 (HY.out W h) HC.out.2.1 hx hm HF.out.1 HF.out.2.2.1 (by omega))
        clear h hf hfm hlen hM hx hm hX hlt hIS hcm hl128
        go_enter Try.func46, Try.ntmps46
        go_wp2_with fail
        refine HMay.out.mono ?_
        rintro e w1 ⟨rfl, hB1⟩
        have H1 := Aside0.mk hB1
        clear hB1
        go_wp2_with fail
        refine (HMo.out _ H1.out).mono ?_
        rintro e w2 ⟨rfl, hB2⟩
        have H2 := Aside0.mk (H1.out.trans (hB2.mono H1.out.size))
        clear hB2
        go_wp2_with fail
        refine (HCm.out _ H2.out).mono ?_
        rintro e w3 ⟨rfl, hB3⟩
        have H3 := Aside0.mk (H2.out.trans (hB3.mono H2.out.size))
        clear hB3
        go_wp2_with fail
        refine (HD1.out _ H3.out).mono ?_
        rintro e w4 ⟨v4, u4, rfl, -, hu4, hB4⟩
        have H4 := Aside0.mk (And.intro hu4 (H3.out.trans (hB4.mono H3.out.size)))
        clear hu4 hB4 H1 H2 H3 HMo HCm HD1 HMay
        go_wp2_with fail
        have HL1 := Aside0.mk (And.intro HC.out.2.2.2 (And.intro HF.out.2.1 HF.out.2.2.1))
        have HV1 := Aside0.mk (show val 4294967296 l1 = val 4294967296 l1 from rfl)
        have hone : RV (w4.alloc (.cells #[.int .u32 1] 75)) (.slice (some ⟨w4.heap.size, 0, none⟩) 1 1) 1 := ⟨_, 1, by rw [digs_one]; rfl, by rw [digs_one]; decide, C_one w4⟩
        have H5 := Aside0.mk (And.intro (RV.below H4.out.1 ((Below.refl _ w4).alloc (Nat.le_refl _) (.cells #[.int .u32 1] 75))) (And.intro hone (H4.out.2.alloc H4.out.2.size (.cells #[.int .u32 1] 75))))
        obtain ⟨K0, hK0⟩ := HIS.out
        have HK0 := Aside0.mk hK0
        clear hone HIS hK0 HV1
        go_loopg [10, 12, 13, 14, 15] (val 4294967296 l0 % val 4294967296 l1) (fun b v10 v12 v13 v14 v15 wr => ∃ a s t c K : Nat, v15 = .int .i64 c ∧ c ≤ 6400 ∧ Aside0 (RW wr v12 a ∧ RV wr v10 b ∧ RV wr v13 s ∧ RV wr v14 t) ∧ Aside0 (IS (val 4294967296 l1) ga gs b a s t c K) ∧ Aside0 (Below w.heap.size w wr))
        case atStart =>
          exact ⟨val 4294967296 l1, 0, 1, 0, K0, rfl, by omega, ⟨⟨A1, c1, l1, rfl, HC.out.2.1, HY.out _ H5.out.2.2, HC.out.2.2.2, HF.out.2.2.1, rfl⟩, H5.out.1, RV.nil _, H5.out.2.1⟩, HK0, ⟨H5.out.2.2⟩⟩
        case round =>
          obtain ⟨a, s, t, c, K, rfl, hc, HV, HI, HB⟩ := hrel
          generalize wr = W1 at *
          clear wr
          obtain ⟨⟨Aw, cw, la, rfl, hw1, hw2, hw3, hw4, hw5⟩, ⟨Ar, cr, rfl, hr1, hr2⟩, ⟨As, cs, rfl, hs1, hs2⟩, ⟨At, ct, rfl, ht1, ht2⟩⟩ := HV.out
          have hc2 : (c : Int) < 20000 := by omega
          have HS := Aside0.mk (And.intro (And.intro hw1 (And.intro hw2 (And.intro hw3 (And.intro hw4 hw5)))) (And.intro (And.intro hr1 hr2) (And.intro (And.intro hs1 hs2) (And.intro ht1 ht2))))
          have hM128 := HMM.out.2.2.2
          have HN := Aside0.mk (And.intro (len_lt (Nat.le_of_lt HI.out.sM) hM128) (And.intro (len_lt (Nat.le_of_lt HI.out.tM) hM128) (And.intro (len_lt HI.out.le hM128) (len_lt (Nat.le_trans (Nat.le_of_lt HI.out.lt) HI.out.le) hM128))))
          clear hw1 hw2 hw3 hw4 hw5 hr1 hr2 hs1 hs2 ht1 ht2 HV hM128
          rcases Nat.eq_zero_or_pos gk with rfl | hgk
          · have h0 : ¬ (0 : Int) < ((digs 4294967296 0).length : Int) := by simp [digs_zero]
            have hfin := HI.out.res
            rw [invR_zero] at hfin
            obtain ⟨rfl, rfl⟩ := Prod.mk.inj hfin
            have HK := rcmp_one W1 Aw cw la HS.out.1.2.1 HS.out.1.1 HS.out.1.2.2.1
            rw [HS.out.1.2.2.2.2] at HK
            clear hfin
            by_cases ha1 : a = 1
            · subst ha1
              have hI := HMM.out.2.1
              rw [if_pos rfl] at hI
              obtain ⟨rfl, rfl⟩ := Prod.mk.inj hI
              rw [show CMP 1 1 = 0 from rfl] at HK
              have HK := Aside0.mk HK
              have hR := fun W (h : Below W1.heap.size W1 W) => rdiv_R W As cs (digs 4294967296 s) A1 c1 l1 (Kd.C_below HS.out.2.2.1.2 h) HS.out.2.2.1.1 (HY.out W (HB.out.trans (h.mono HB.out.size))) HC.out.2.1 (lb_digs (Nat.le_trans HN.out.1 (by decide))) HL1.out.1 (by rw [fits_digs]; exact decide_eq_true (Nat.le_trans HN.out.1 (by decide))) HL1.out.2.2 (by have := HMM.out.1; omega)
              rw [val_digs (by decide), Nat.mod_eq_of_lt HI.out.sM] at hR
              have HR := Aside0.mk hR
              clear hI hR
              go_wp2_with fail
              refine HK.out.mono ?_
              rintro e w7 ⟨rfl, hB7⟩
              have H7 := Aside0.mk hB7
              clear hB7
              go_wp2_with fail
              refine (HR.out _ H7.out).mono ?_
              rintro e w8 ⟨v8, u8, rfl, hR8, hB8⟩
              have hBC := HB.out.trans (H7.out.mono HB.out.size)
              have H8 := Aside0.mk (And.intro (Kd.R_lower hR8 hBC.size) (hBC.trans (hB8.mono hBC.size)))
              clear hR8 hB8 hBC
              go_wp2_with fail
              go_ret2
              exact ⟨_, rfl, H8.out.1, H8.out.2⟩
            · have hI := HMM.out.2.1
              rw [if_neg ha1] at hI
              obtain ⟨rfl, rfl⟩ := Prod.mk.inj hI
              have hcm1 : CMP a 1 = 1 := by unfold CMP; have := HI.out.lt; rw [if_neg (by omega), if_pos (by omega)]
              rw [hcm1] at HK
              have HK := Aside0.mk HK
              clear hcm1 ha1 hI
              go_wp2_with fail
              refine HK.out.mono ?_
              rintro e w7 ⟨rfl, hB7⟩
              have H7 := Aside0.mk (HB.out.trans (hB7.mono HB.out.size))
              clear hB7
              go_wp2_with fail
              go_ret2
              exact ⟨_, rfl, Kd.R_nil _ _ _ _ _, H7.out⟩
          · have h0 : (0 : Int) < ((digs 4294967296 gk).length : Int) := by
              have := digs_eq_nil (b := 4294967296) (by decide) (n := gk)
              rcases Nat.eq_zero_or_pos (digs 4294967296 gk).length with h | h
              · have := this.1 (List.eq_nil_of_length_eq_zero h); omega
              · omega
            have HGK := Aside0.mk hgk
            have hD := rdiv_any W1 Aw cw la Ar cr (digs 4294967296 gk) HS.out.1.2.1 HS.out.1.1 HS.out.2.1.2 HS.out.2.1.1 HS.out.1.2.2.1 (lb_digs (Nat.le_trans HN.out.2.2.2 (by decide))) HS.out.1.2.2.2.1 (by rw [fits_digs]; exact decide_eq_true (Nat.le_trans HN.out.2.2.2 (by decide))) (by rw [val_digs (by decide)]; exact hgk)
            rw [val_digs (by decide), HS.out.1.2.2.2.2] at hD
            have HD := Aside0.mk hD
            have hgM : 0 < val 4294967296 l1 := by have := HMM.out.1; omega
            have HGM := Aside0.mk hgM
            obtain ⟨K', hK'⟩ := HI.out.step hgk
            have HK' := Aside0.mk hK'
            clear hD hgk hgM hK'
            go_wp2_with fail
            refine HD.out.mono ?_
            rintro e w6 ⟨v6, u6, rfl, ⟨Aq, cq, rfl, hq1, hq2⟩, hu6, hB6⟩
            have hql := len_lt (Nat.le_trans (Nat.div_le_self a gk) HI.out.le) HMM.out.2.2.2
            have hMm := rmulmod_any w6 Aq cq (digs 4294967296 (a / gk)) At ct (digs 4294967296 t) A1 c1 l1 hq2 hq1 (Kd.C_below HS.out.2.2.2.2 hB6) HS.out.2.2.2.1 (HY.out _ (HB.out.trans (hB6.mono HB.out.size))) HC.out.2.1
              (lb_digs (Nat.le_trans hql (by decide))) (lb_digs (Nat.le_trans HN.out.2.1 (by decide))) HL1.out.1 (by rw [fits_digs]; exact decide_eq_true (Nat.le_trans hql (by decide))) (by rw [fits_digs]; exact decide_eq_true (Nat.le_trans HN.out.2.1 (by decide))) HL1.out.2.1 HGM.out
            rw [val_digs (by decide), val_digs (by decide)] at hMm
            have HM6 := Aside0.mk hMm
            have H6 := Aside0.mk (And.intro hu6 hB6)
            clear hq1 hq2 hu6 hB6 hql hMm HD
            go_wp2_with fail
            refine HM6.out.mono ?_
            rintro e w7 ⟨v7, rfl, ⟨Ap, cp, rfl, hp1, hp2⟩, hB7⟩
            have H7 := Aside0.mk (And.intro (H6.out.1.below hB7) (H6.out.2.trans (hB7.mono H6.out.2.size)))
            have hpM : a / gk * t % val 4294967296 l1 < val 4294967296 l1 := Nat.mod_lt _ HGM.out
            obtain ⟨p, hp⟩ : ∃ p, p = a / gk * t % val 4294967296 l1 := ⟨_, rfl⟩
            rw [← hp] at hp1 hp2 hpM HK' ⊢
            have hpl := len_lt (Nat.le_of_lt hpM) HMM.out.2.2.2
            have hA := radd_any w7 As cs (digs 4294967296 s) A1 c1 l1 (Kd.C_below HS.out.2.2.1.2 H7.out.2) HS.out.2.2.1.1 (HY.out _ (HB.out.trans (H7.out.2.mono HB.out.size))) HC.out.2.1 (lb_digs (Nat.le_trans HN.out.1 (by decide))) HL1.out.1 (by rw [fits_digs]; exact decide_eq_true (Nat.le_trans HN.out.1 (by decide))) HL1.out.2.2
              (by rw [val_digs (by decide)]; exact sum_fits HI.out.sM HMM.out.2.2.2)
            rw [val_digs (by decide)] at hA
            have HA7 := Aside0.mk hA
            have HPQ := Aside0.mk (And.intro hp1 (And.intro hp2 (And.intro hpM hpl)))
            clear hp hp1 hp2 hB7 HM6 H6 hpl hpM hA
            go_wp2_with fail
            refine HA7.out.mono ?_
            rintro e w8 ⟨v8, rfl, ⟨Au, cu, rfl, hu1, hu2⟩, hB8⟩
            have H8 := Aside0.mk (And.intro (H7.out.1.below hB8) (And.intro hB8 (H7.out.2.trans (hB8.mono H7.out.2.size))))
            have hsf := sum_fits HI.out.sM HMM.out.2.2.2
            have hS := rsub_any w8 Au cu (digs 4294967296 (s + val 4294967296 l1)) Ap cp (digs 4294967296 p) hu2 hu1 (Kd.C_below HPQ.out.2.1 hB8) HPQ.out.1 (lb_digs hsf) (lb_digs (Nat.le_trans HPQ.out.2.2.2 (by decide))) (by rw [fits_digs]; exact decide_eq_true hsf) (by rw [fits_digs]; exact decide_eq_true (Nat.le_trans HPQ.out.2.2.2 (by decide)))
              (by rw [val_digs (by decide), val_digs (by decide)]; have := HPQ.out.2.2.1; omega)
            rw [val_digs (by decide), val_digs (by decide)] at hS
            have HS8 := Aside0.mk hS
            clear hu1 hu2 hB8 hsf hS HA7
            go_wp2_with fail
            refine HS8.out.mono ?_
            rintro e w9 ⟨v9, rfl, ⟨Ad, cd, rfl, hd1, hd2⟩, hB9⟩
            have H9 := Aside0.mk (And.intro (H8.out.1.below hB9) (H8.out.2.2.trans (hB9.mono H8.out.2.2.size)))
            have hdl := len_lt (Nat.sub_le (s + val 4294967296 l1) p) (sum_fits HI.out.sM HMM.out.2.2.2)
            have hE := rdiv_any w9 Ad cd (digs 4294967296 (s + val 4294967296 l1 - p)) A1 c1 l1 hd2 hd1 (HY.out _ (HB.out.trans (H9.out.2.mono HB.out.size))) HC.out.2.1 (lb_digs hdl) HL1.out.1 (by rw [fits_digs]; exact decide_eq_true hdl) HL1.out.2.2 HGM.out
            rw [val_digs (by decide)] at hE
            have HE9 := Aside0.mk hE
            clear hd1 hd2 hB9 hdl hE HS8 H8
            go_wp2_with fail
            refine HE9.out.mono ?_
            rintro e w10 ⟨v10, u10, rfl, -, hu10, hB10⟩
            have H10 := Aside0.mk (And.intro hu10 (And.intro (H9.out.1.below hB10) (H9.out.2.trans (hB10.mono H9.out.2.size))))
            clear hu10 hB10 HE9
            go_wp2_with fail
            go_roundg (a % gk)
            case measure => exact Nat.mod_lt _ HGK.out
            case rel =>
              refine ⟨gk, t, (s + val 4294967296 l1 - p) % val 4294967296 l1, c + 1, K', rfl, by have := HK'.out.cnt; omega, ⟨RW.below (RV.rw ⟨Ar, cr, rfl, HS.out.2.1⟩ (Nat.le_trans HN.out.2.2.2 (by decide))) H10.out.2.2, H10.out.2.1, RV.below ⟨At, ct, rfl, HS.out.2.2.2⟩ H10.out.2.2, H10.out.1⟩, HK', ⟨HB.out.trans (H10.out.2.2.mono HB.out.size)⟩⟩
    · rw [if_neg hf] at h
      obtain ⟨rfl, rfl⟩ := Prod.mk.inj h
      clear h hlen hx hm
      cases hb1 : (fits l0 && fits l1) with
      | false =>
        rw [hb1] at HMay
        clear hb1 hf
        go_enter Try.func46, Try.ntmps46
        go_wp2_with fail
        refine HMay.out.mono ?_
        rintro e w1 ⟨rfl, hB1⟩
        have H1 := Aside0.mk hB1
        clear hB1
        go_wp2_with fail
        refine (HMo.out _ H1.out).mono ?_
        rintro e w2 ⟨rfl, hB2⟩
        have H2 := Aside0.mk (H1.out.trans (hB2.mono H1.out.size))
        clear hB2
        go_wp2_with fail
        go_ret2
        exact ⟨_, rfl, Kd.R_nil _ _ _ _ _, H2.out⟩
      | true =>
        have hb2 : isMod l1 = false := by
          rw [Bool.and_eq_true] at hb1
          rw [hb1.1, Bool.true_and] at hf
          simpa using hf
        rw [hb1] at HMay
        rw [hb2] at HMo
        clear hb1 hf hb2
        go_enter Try.func46, Try.ntmps46
        go_wp2_with fail
        refine HMay.out.mono ?_
        rintro e w1 ⟨rfl, hB1⟩
        have H1 := Aside0.mk hB1
        clear hB1
        go_wp2_with fail
        refine (HMo.out _ H1.out).mono ?_
        rintro e w2 ⟨rfl, hB2⟩
        have H2 := Aside0.mk (H1.out.trans (hB2.mono H1.out.size))
        clear hB2
        go_wp2_with fail
        go_ret2
        exact ⟨_, rfl, Kd.R_nil _ _ _ _ _, H2.out⟩
  · rw [if_neg hok] at h
    cases h
end Go.Proofs.Ytlifengbicpppaa.G
end
section
namespace Go.Proofs.Ytlifengbicpppaa.G
open Go.RowKit Go.Proofs.YtlifengbicpppaaW.PrintWords Go.Proofs.YtlifengbicpppaaW.PrintLast Go.Proofs.YtlifengbicpppaaW.PrintMore
open Go.Proofs.Ytlifengbicpppaa.Num
/-- Slices of limbs in one block, as a slice of them. -/
theorem C_slices (w : World) (ss : List (Option Addr × Nat × List Int)) (h : ∀ s ∈ ss, Kd.C (Kd.int .u32) w s.1 s.2.2.length s.2.2 ∧ s.2.2.length ≤ s.2.1) (hl : ss.length < 1000000) :
    Kd.C (Kd.slice 75 (Kd.int .u32)) (w.alloc (.cells (ss.map (fun s => Value.slice s.1 s.2.2.length s.2.1)).toArray 46)) (some ⟨w.heap.size, 0, none⟩) (ss.map (fun s => s.2.2)).length (ss.map (fun s => s.2.2)) := by
  refine ⟨rfl, by rw [List.length_map]; omega, fun _ => ⟨_, rfl, fun j p hp => ?_⟩⟩
  rw [List.getElem?_map] at hp
  obtain ⟨s, hs, rfl⟩ := Option.map_eq_some_iff.1 hp
  have hm := List.mem_of_getElem? hs
  obtain ⟨h1, h2⟩ := h s hm
  refine ⟨[_], rfl, ⟨s.1, s.2.1, rfl, h2, Kd.C_alloc h1 _⟩, fun i u hu => ?_⟩
  cases i with
  | succ i => simp at hu
  | zero =>
    cases hu
    rw [add_plain]
    show World.cell? _ ⟨w.heap.size, j * 1 + 0, none⟩ = _
    unfold World.cell?
    rw [World.alloc_heap_new]
    simp [hs]
theorem great6_call (m : Int) (w : World) (ss : List (Option Addr × Nat × List Int)) (h : ∀ s ∈ ss, Kd.C (Kd.int .u32) w s.1 s.2.2.length s.2.2 ∧ s.2.2.length ≤ s.2.1) (hl : ss.length < 1000000) :
    Calls Try.prog 29 #[.int .i64 m, .slice (some ⟨w.heap.size, 0, none⟩) (ss.map (fun s => s.2.2)).length ss.length] (w.alloc (.cells (ss.map (fun s => Value.slice s.1 s.2.2.length s.2.1)).toArray 46)) fun e w' => e = .returned (.bool ((ss.map (fun s => s.2.2)).any (fun x => decide (m < x.length)))) ∧ ∃ n, w' = (w.alloc (.cells (ss.map (fun s => Value.slice s.1 s.2.2.length s.2.1)).toArray 46)).drewN n := by
  obtain ⟨k, hk⟩ := (great6_ev m (ss.map (fun s => s.2.2)) (by rw [List.length_map]; exact hl)).rounds
  refine (postmarklaw06_great.calls k m _ ss.length _ _ _ (C_slices w ss h hl) (by rw [List.length_map]; exact Nat.le_refl _) hk).mono ?_
  rintro e w' ⟨rfl, ⟨h⟩⟩
  exact ⟨rfl, h⟩
theorem two_KV {b0 : Nat} {w : World} {u r : Value} {xs zs : List Int} (hu : Kd.R (Kd.int .u32) 75 w b0 (fun _ => True) u xs) (hr : Kd.R (Kd.int .u32) 75 w b0 (fun k => some k ≠ u.ownBlock) r zs) : KV b0 [u, r] w := by
  refine ⟨fun i a h => ?_, fun i j a b h h' hne k hk hk' => ?_⟩
  · match i with
    | 0 => cases h; exact ⟨xs, hu⟩
    | 1 => cases h; exact ⟨zs, Kd.R_mono hr (fun _ _ => trivial)⟩
    | i + 2 => simp at h
  · match i, j with
    | 0, 0 => exact hne rfl
    | 1, 1 => exact hne rfl
    | 0, 1 => cases h; cases h'; exact hr.1 k hk' hk.symm
    | 1, 0 => cases h; cases h'; exact hr.1 k hk hk'.symm
    | i + 2, _ => simp at h
    | 0, j + 2 => simp at h'
    | 1, j + 2 => simp at h'
set_option maxHeartbeats 8000000 in
set_option maxRecDepth 100000 in
theorem ratioRests_walk (A0 : Option Addr) (c0 : Nat) (l0 : List Int) (A1 : Option Addr) (c1 : Nat) (l1 : List Int) (A2 : Option Addr) (c2 : Nat) (l2 : List Int) (w : World) (hr0 : Kd.C (Kd.int .u32) w A0 l0.length l0) (hc0 : l0.length ≤ c0) (hr1 : Kd.C (Kd.int .u32) w A1 l1.length l1) (hc1 : l1.length ≤ c1) (hr2 : Kd.C (Kd.int .u32) w A2 l2.length l2) (hc2 : l2.length ≤ c2) (d0 : Dg 4294967296 l0) (d1 : Dg 4294967296 l1) (d2 : Dg 4294967296 l2) :
    Calls Try.prog 8 #[.slice A0 l0.length c0, .slice A1 l1.length c1, .slice A2 l2.length c2] w fun e w' => e = .returned (.bool true) ∧ Below w.heap.size w w' := by
  have HX := Aside0.mk (fun W (h : Below w.heap.size w W) => Kd.C_below hr0 h)
  have HY := Aside0.mk (fun W (h : Below w.heap.size w W) => Kd.C_below hr1 h)
  have HM := Aside0.mk (fun W (h : Below w.heap.size w W) => Kd.C_below hr2 h)
  have HC := Aside0.mk (And.intro hc0 (And.intro hc1 hc2))
  have HG3 := Aside0.mk (great6_call 270 w [(A0, c0, l0), (A1, c1, l1), (A2, c2, l2)] (by simp; exact ⟨⟨hr0, hc0⟩, ⟨hr1, hc1⟩, ⟨hr2, hc2⟩⟩) (by simp))
  have HG2 := Aside0.mk (fun W (h : Below w.heap.size w W) => great6_two 60 W A0 c0 l0 A1 c1 l1 (Kd.C_below hr0 h) hc0 (Kd.C_below hr1 h) hc1)
  have HG1 := Aside0.mk (fun W (h : Below w.heap.size w W) => great6_call 12 W [(A2, c2, l2)] (by simp; exact ⟨Kd.C_below hr2 h, hc2⟩) (by simp))
  simp only [List.map_cons, List.map_nil, List.length_cons, List.length_nil, Nat.zero_add, Nat.reduceAdd, List.any_cons, List.any_nil, Bool.or_false] at HG3 HG1
  have HD := Aside0.mk (And.intro d0 (And.intro d1 d2))
  have HZ := Aside0.mk (And.intro (C_lt hr0) (And.intro (C_lt hr1) (C_lt hr2)))
  clear hr0 hr1 hc0 hc1 d0 d1 hr2 hc2 d2
  obtain ⟨b270, h270⟩ : ∃ b, b = (decide ((270 : Int) < l0.length) || (decide ((270 : Int) < l1.length) || decide ((270 : Int) < l2.length))) := ⟨_, rfl⟩
  rw [← h270] at HG3
  cases b270 with
  | true =>
    clear h270
    go_enter Try.func8, Try.ntmps8
    go_wp2_with fail
    refine HG3.out.mono ?_
    rintro e w1 ⟨rfl, n, rfl⟩
    go_wp2_with fail
    go_ret
    exact ⟨rfl, pw_below_drewN ((Below.refl _ _).alloc (Nat.le_refl _) _) n⟩
  | false =>
    replace h270 := h270.symm
    simp only [Bool.or_eq_false_iff, decide_eq_false_iff_not] at h270
    have hL0 : Lb l0 := ⟨HD.out.1, by omega⟩
    have hL1 : Lb l1 := ⟨HD.out.2.1, by omega⟩
    have hL2 : Lb l2 := ⟨HD.out.2.2, by omega⟩
    have HL := Aside0.mk (And.intro hL0 (And.intro hL1 hL2))
    have HMa := Aside0.mk (fun W (h : Below w.heap.size w W) => may_call W A0 c0 l0 A1 c1 l1 (HX.out W h) HC.out.1 (HY.out W h) HC.out.2.1 hL0 hL1)
    have HMo := Aside0.mk (fun W (h : Below w.heap.size w W) => modulus_call W A2 c2 l2 (HM.out W h) HC.out.2.2 hL2)
    obtain ⟨b60, h60⟩ : ∃ b, b = (decide ((60 : Int) < l0.length) || decide ((60 : Int) < l1.length)) := ⟨_, rfl⟩
    obtain ⟨bm, hbm⟩ : ∃ b, b = (fits l0 && fits l1) := ⟨_, rfl⟩
    obtain ⟨b12, h12⟩ : ∃ b, b = decide ((12 : Int) < l2.length) := ⟨_, rfl⟩
    obtain ⟨bo, hbo⟩ : ∃ b, b = isMod l2 := ⟨_, rfl⟩
    have HF : Aside0 ((b12 && bo) = false → isMod l2 = true → l2.length ≤ 12) := ⟨fun h1 h2 => by
      rw [h12, hbo, h2, Bool.and_true, decide_eq_false_iff_not] at h1
      omega⟩
    rw [← h60] at HG2
    rw [← hbm] at HMa
    rw [← h12] at HG1
    rw [← hbo] at HMo
    clear h60 hbm h12 hbo h270 hL0 hL1 hL2
    go_enter Try.func8, Try.ntmps8
    go_wp2_with fail
    refine HG3.out.mono ?_
    rintro e w1 ⟨rfl, n, rfl⟩
    have hb1 := pw_below_drewN ((Below.refl _ w).alloc (Nat.le_refl _) (.cells [Value.slice A0 l0.length c0, Value.slice A1 l1.length c1, Value.slice A2 l2.length c2].toArray 46)) n
    obtain ⟨w1, hw1⟩ : ∃ W, (w.alloc (.cells [Value.slice A0 l0.length c0, Value.slice A1 l1.length c1, Value.slice A2 l2.length c2].toArray 46)).drewN n = W := ⟨_, rfl⟩
    rw [hw1] at hb1 ⊢
    have HB1 := Aside0.mk hb1
    clear hw1 hb1 HG3
    go_wp2_with fail
    refine (HG2.out w1 HB1.out).mono ?_
    rintro e w2 ⟨rfl, n, rfl⟩
    have hz1 := HB1.out.size
    have HB2 := Aside0.mk (pw_below_drewN (HB1.out.alloc hz1 (.cells #[.slice A0 l0.length c0, .slice A1 l1.length c1] 46)) n)
    obtain ⟨w2, hw2⟩ : ∃ W, (w1.alloc (.cells #[.slice A0 l0.length c0, .slice A1 l1.length c1] 46)).drewN n = W := ⟨_, rfl⟩
    rw [hw2] at HB2 ⊢
    clear hw2 HG2 hz1
    cases b60
    case' false =>
      have HB3 := HB2
      clear HB2 HMa
      generalize w2 = w3 at *
      go_wp2_with fail
    case' true =>
      go_wp2_with fail
      refine (HMa.out w2 HB2.out).mono ?_
      rintro e w3 ⟨rfl, hb3⟩
      have HB3 := Aside0.mk (HB2.out.trans (hb3.mono HB2.out.size))
      clear hb3 HB2 HMa
      cases bm
      case' true =>
        go_wp2_with fail
        go_ret
        exact ⟨rfl, HB3.out⟩
      go_wp2_with fail
    all_goals
      refine (HG1.out w3 HB3.out).mono ?_
      rintro e w4 ⟨rfl, n, rfl⟩
      have hz1 := HB3.out.size
      have HB4 := Aside0.mk (pw_below_drewN (HB3.out.alloc hz1 (.cells [Value.slice A2 l2.length c2].toArray 46)) n)
      obtain ⟨w4, hw4⟩ : ∃ W, (w3.alloc (.cells [Value.slice A2 l2.length c2].toArray 46)).drewN n = W := ⟨_, rfl⟩
      rw [hw4] at HB4 ⊢
      clear hw4 HG1 hz1
      cases b12
      case' false =>
        have HB5 := HB4
        clear HB4 HMo
        have HFF : Aside0 (isMod l2 = true → l2.length ≤ 12) := ⟨HF.out rfl⟩
        generalize w4 = w5 at *
        go_wp2_with fail
      case' true =>
        go_wp2_with fail
        refine (HMo.out w4 HB4.out).mono ?_
        rintro e w5 ⟨rfl, hb5⟩
        have HB5 := Aside0.mk (HB4.out.trans (hb5.mono HB4.out.size))
        clear hb5 HB4 HMo
        cases bo
        case' true =>
          go_wp2_with fail
          go_ret
          exact ⟨rfl, HB5.out⟩
        have HFF : Aside0 (isMod l2 = true → l2.length ≤ 12) := ⟨HF.out rfl⟩
        go_wp2_with fail
    all_goals
      clear HF
      refine (twin6_any A0 c0 l0 w5 (HX.out w5 HB5.out) HL.out.1.len).mono ?_
      rintro e w6 ⟨gp, cp, rfl, hcp, hRp, hBp⟩
      have HB6 := Aside0.mk (HB5.out.trans (hBp.mono HB5.out.size))
      have HP := Aside0.mk (And.intro hcp hRp)
      clear hcp hRp hBp
      go_wp2_with fail
      refine (twin6_any A1 c1 l1 w6 (HY.out w6 HB6.out) HL.out.2.1.len).mono ?_
      rintro e w7 ⟨gq, cq, rfl, hcq, hRq, hBq⟩
      have HB7 := Aside0.mk (HB6.out.trans (hBq.mono HB6.out.size))
      have HP := Aside0.mk (And.intro HP.out.1 (Kd.R_below HP.out.2 hBq))
      have HQ := Aside0.mk (And.intro hcq hRq)
      clear hcq hRq hBq
      go_wp2_with fail
      refine (twin6_any A2 c2 l2 w7 (HM.out w7 HB7.out) HL.out.2.2.len).mono ?_
      rintro e w8 ⟨gn, cn, rfl, hcn, hRn, hBn⟩
      have HB8 := Aside0.mk (HB7.out.trans (hBn.mono HB7.out.size))
      have HP := Aside0.mk (And.intro HP.out.1 (Kd.R_below HP.out.2 hBn))
      have HQ := Aside0.mk (And.intro HQ.out.1 (Kd.R_below HQ.out.2 hBn))
      have HN := Aside0.mk (And.intro hcn hRn)
      clear hcn hRn hBn
      obtain ⟨k1, hk1⟩ := (mulmod_ev l0 l1 l2 HL.out.1 HL.out.2.1 HL.out.2.2).rounds
      obtain ⟨k2, hk2⟩ := (rmulmod_ev l0 l1 l2 HL.out.1 HL.out.2.1 HL.out.2.2).rounds
      have hk4 : postmarkref06_Inverse.f l0 l2 = some (INVERSE l0 l2) := by
        unfold postmarkref06_Inverse.f
        rw [lbB_of HL.out.1, lbB_of HL.out.2.2, if_pos]
        cases hb : isMod l2 with
        | false => rfl
        | true =>
          have := HFF.out hb
          have := strip_length l2
          simp
          omega
      have HCp := Aside0.mk (fun W (h : Below w8.heap.size w8 W) => Kd.C_below (C_own7 HP.out.2 rfl).2.1 h)
      have HCq := Aside0.mk (fun W (h : Below w8.heap.size w8 W) => Kd.C_below (C_own7 HQ.out.2 rfl).2.1 h)
      have HCn := Aside0.mk (fun W (h : Below w8.heap.size w8 W) => Kd.C_below (C_own7 HN.out.2 rfl).2.1 h)
      have hK3 := fun W (h : Below w8.heap.size w8 W) => ratio_Inverse_any (some ⟨gp, 0, none⟩) cp l0 (some ⟨gn, 0, none⟩) cn l2 W (HCp.out W h) (by have := HP.out.1; omega) (HCn.out W h) (by have := HN.out.1; omega) HL.out.1 HL.out.2.2
      generalize MULMOD l0 l1 l2 = G at *
      obtain ⟨ga, ge⟩ := G
      generalize INVERSE l0 l2 = G2 at *
      obtain ⟨gc, gf⟩ := G2
      have HK1 := Aside0.mk (fun W (h : Below w8.heap.size w8 W) => ratio_MulMod.calls k1 (some ⟨gp, 0, none⟩) cp l0 (some ⟨gq, 0, none⟩) cq l1 (some ⟨gn, 0, none⟩) cn l2 ga ge W (HCp.out W h) (by have := HP.out.1; omega) (HCq.out W h) (by have := HQ.out.1; omega) (HCn.out W h) (by have := HN.out.1; omega) hk1)
      have HK2 := Aside0.mk (fun W (h : Below w.heap.size w W) => postmarkref06_MulMod.calls k2 A0 c0 l0 A1 c1 l1 A2 c2 l2 ga ge W (HX.out W h) HC.out.1 (HY.out W h) HC.out.2.1 (HM.out W h) HC.out.2.2 hk2)
      have HK3 := Aside0.mk hK3
      have HK4 := Aside0.mk (fun W (h : Below w.heap.size w W) => postmarkref06_Inverse.calls A0 c0 l0 A2 c2 l2 gc gf W (HX.out W h) HC.out.1 (HM.out W h) HC.out.2.2 hk4)
      clear hk1 hk2 hK3 hk4 HFF
      go_wp2_with fail
      refine (HK1.out w8 (Below.refl _ _)).mono ?_
      rintro e w9 ⟨va, rfl, hRa, hBa⟩
      have HA := Aside0.mk (And.intro hRa hBa)
      have HB9 := Aside0.mk (HB8.out.trans (hBa.mono HB8.out.size))
      clear hRa hBa HK1
      go_wp2_with fail
      refine (HK2.out w9 HB9.out).mono ?_
      rintro e w10 ⟨vb, rfl, hRb, hBb⟩
      have HB10 := Aside0.mk (HB9.out.trans (hBb.mono HB9.out.size))
      have HA := Aside0.mk (And.intro (Kd.R_below HA.out.1 hBb) (HA.out.2.trans (hBb.mono HA.out.2.size)))
      have HR := Aside0.mk hRb
      clear hRb hBb HK2
      go_wp2_with fail
      refine (HK3.out w10 HA.out.2).mono ?_
      rintro e w11 ⟨vc, rfl, hRc, hBc⟩
      have HB11 := Aside0.mk (HB10.out.trans (hBc.mono HB10.out.size))
      have hsz := HA.out.2.size
      have hRc' := Kd.R_mono (Kd.R_lower (Kd.R_bound hRc) hsz) (ok' := fun k => some k ≠ va.ownBlock) (fun k hk e => by
        have h1 := ((Kd.R_bound HA.out.1).1 k e.symm).2.2.1
        have := hk.2.1
        omega)
      have HA := Aside0.mk (And.intro (Kd.R_below HA.out.1 hBc) (And.intro hRc' (HA.out.2.trans (hBc.mono HA.out.2.size))))
      have HR := Aside0.mk (Kd.R_below HR.out hBc)
      clear hRc hRc' hBc HK3 hsz
      go_wp2_with fail
      refine (HK4.out w11 HB11.out).mono ?_
      rintro e w12 ⟨vd, rfl, hRd, hBd⟩
      have HB12 := Aside0.mk (HB11.out.trans (hBd.mono HB11.out.size))
      have HA := Aside0.mk (And.intro (Kd.R_below HA.out.1 hBd) (And.intro (Kd.R_below HA.out.2.1 hBd) (HA.out.2.2.trans (hBd.mono HA.out.2.2.size))))
      have HR := Aside0.mk (And.intro (Kd.R_below HR.out hBd) hRd)
      clear hRd hBd HK4
      obtain ⟨Aa, ca, rfl⟩ := Kd.R_slice HA.out.1
      obtain ⟨Ac, cc, rfl⟩ := Kd.R_slice HA.out.2.1
      obtain ⟨Ab, cb, rfl⟩ := Kd.R_slice HR.out.1
      obtain ⟨Ad, cd, rfl⟩ := Kd.R_slice HR.out.2
      have HC5 := Aside0.mk (And.intro (Kd.R_reads' HA.out.1).2 (And.intro (Kd.R_reads' HA.out.2.1).2 (And.intro (Kd.R_reads' HR.out.1).2 (Kd.R_reads' HR.out.2).2)))
      have HS1 := Aside0.mk (fun n => same_call (w12.drewN n) Aa ca Ab cb ga (Kd.C_drewN HC5.out.1.2 n) HC5.out.1.1 (Kd.C_drewN HC5.out.2.2.1.2 n) HC5.out.2.2.1.1)
      have HS2 := Aside0.mk (fun n => same_call (w12.drewN n) Ac cc Ad cd gc (Kd.C_drewN HC5.out.2.1.2 n) HC5.out.2.1.1 (Kd.C_drewN HC5.out.2.2.2.2 n) HC5.out.2.2.2.1)
      go_wp2_with fail
      refine (HS1.out 0).mono ?_
      rintro e w13 ⟨rfl, n1, rfl⟩
      rw [World.drewN_drewN, Nat.zero_add]
      go_wp2_with fail
      refine (HS2.out _).mono ?_
      rintro e w13 ⟨rfl, n2, rfl⟩
      rw [World.drewN_drewN]
      obtain ⟨nd, hnd⟩ : ∃ n, n = n1 + n2 := ⟨_, rfl⟩
      rw [← hnd]
      clear hnd
      have h8 := pw_below_drewN HA.out.2.2 nd
      have hbp := C_own7 HP.out.2 rfl
      have hz := HB8.out.size
      have HK5 := Aside0.mk (kept6_list gp l0.length cp l0 A0 c0 (w12.drewN nd) _ w8.heap.size [.slice Aa ga.length ca, .slice Ac gc.length cc] rfl HL.out.1.len HP.out.1 HC.out.1 (Kd.R_below HP.out.2 h8) (HX.out _ (pw_below_drewN HB12.out nd))
        (two_KV (Kd.R_drewN HA.out.1 nd) (Kd.R_drewN HA.out.2.1 nd)) (by simp) hbp.2.2.2 (fun ad e hn => Nat.lt_of_lt_of_le (HZ.out.1 ad e hn) hz))
      have H8 := Aside0.mk h8
      clear hbp hz h8 HS1 HS2
      go_wp2_with fail
      refine HK5.out.mono ?_
      rintro e w13 ⟨rfl, hb13, hz13⟩
      have h13 : Below w8.heap.size w8 w13 := (H8.out.alloc H8.out.size _).trans hb13
      have HB13 := Aside0.mk (HB8.out.trans (h13.mono HB8.out.size))
      have HK6 := Aside0.mk (kept6_none gq l1.length cq l1 A1 c1 w13 _ rfl HL.out.2.1.len HQ.out.1 HC.out.2.1 (Kd.R_below HQ.out.2 h13) (HY.out _ HB13.out) w8.heap.size)
      have H13 := Aside0.mk h13
      clear hb13 hz13 h13 HK5
      go_wp2_with fail
      refine HK6.out.mono ?_
      rintro e w14 ⟨rfl, hb14, hz14⟩
      have h14 := H13.out.trans hb14
      have HB14 := Aside0.mk (HB8.out.trans (h14.mono HB8.out.size))
      have HK7 := Aside0.mk (kept6_none gn l2.length cn l2 A2 c2 w14 _ rfl HL.out.2.2.len HN.out.1 HC.out.2.2 (Kd.R_below HN.out.2 h14) (HM.out _ HB14.out) w.heap.size)
      clear hb14 hz14 h14 HK6
      go_wp2_with fail
      refine HK7.out.mono ?_
      rintro e w15 ⟨rfl, hb15, hz15⟩
      have HB15 := Aside0.mk (HB14.out.trans hb15)
      clear hb15 hz15 HK7
      go_wp2_with fail
      go_ret
      exact ⟨rfl, HB15.out⟩
end Go.Proofs.Ytlifengbicpppaa.G
end
