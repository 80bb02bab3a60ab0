/- Part 4 of the texts for the claim RatioDivides: Go functions of the program and of the document's answers, each with a proof that its calls come to a Lean function's answers, and plain laws about these. -/
import Derived.Test.YtlifengbicpppaaDiv1
import Derived.Test.YtlifengbicpppaaDiv2
import Derived.Test.YtlifengbicpppaaDiv3
set_option linter.unusedVariables false
set_option linter.unusedSimpArgs false
section
/- Printed for this claim by wip/gen.py: Go functions as Lean functions, with proofs that calls of them come to these answers. -/
namespace Go.Proofs.Ytlifengbicpppaa.G
open Go.RowKit Go.Proofs.YtlifengbicpppaaW.PrintWords Go.Proofs.YtlifengbicpppaaW.PrintLast Go.Proofs.YtlifengbicpppaaW.PrintMore
attribute [local go_sem] max2_int min2_int max_two min_two max_three min_three max_four min_four   -- for this text's walks alone
set_option linter.unusedVariables false
set_option linter.unusedSimpArgs false

/-! ### postmarkref02_Same: function 34 -/
def postmarkref02_Same.l0 : Nat → List Int → List Int → Int → Option (Bool)
  | 0, _, _, _ => none
  | k + 1, x0, x1, x5 => if x5 < (x0.length : Int) then (if 0 ≤ x5 then (if x5 < (x1.length : Int) then (if (rd x0 x5) = (rd x1 x5) then (postmarkref02_Same.l0 k x0 x1 (wrap64 (x5 + 1))) else (some false)) else (none)) else (none)) else (some true)
def postmarkref02_Same.f (k : Nat) (l0 : List Int) (l1 : List Int) : Option (Bool) := if (l0.length : Int) = (l1.length : Int) then (postmarkref02_Same.l0 k l0 l1 0) else (some false)
theorem postmarkref02_Same.mono_l : ∀ k, (∀ y0 y1 y2, LeO (postmarkref02_Same.l0 k y0 y1 y2) (postmarkref02_Same.l0 (k + 1) y0 y1 y2))
  | 0 => fun _ _ _ r h => by simp [postmarkref02_Same.l0] at h
  | k + 1 => by
    have ih0 := postmarkref02_Same.mono_l k
    · intro y0 y1 y2
      unfold postmarkref02_Same.l0
      repeat' first
      | (with_reducible exact ih0 _ _ _)
      | (with_reducible exact LeO.refl _)
      | (with_reducible exact LeO.none _)
      | (with_reducible refine LeO.ite ?_ ?_)
      | (with_reducible refine LeO.bind ?_ (fun _ => ?_))
      | exact ih0 _ _ _
      | exact LeO.none _
      | refine LeO.ite ?_ ?_
      | refine LeO.bind ?_ (fun _ => ?_)
theorem postmarkref02_Same.mono : ∀ a0 a1 k, LeO (postmarkref02_Same.f k a0 a1) (postmarkref02_Same.f (k + 1) a0 a1) := by
  intro a0 a1 k
  have ih0 := postmarkref02_Same.mono_l k
  unfold postmarkref02_Same.f
  repeat' first
      | (with_reducible exact ih0 _ _ _)
      | (with_reducible exact LeO.refl _)
      | (with_reducible exact LeO.none _)
      | (with_reducible refine LeO.ite ?_ ?_)
      | (with_reducible refine LeO.bind ?_ (fun _ => ?_))
      | exact ih0 _ _ _
      | exact LeO.none _
      | refine LeO.ite ?_ ?_
      | refine LeO.bind ?_ (fun _ => ?_)
set_option maxHeartbeats 8000000 in
set_option maxRecDepth 100000 in
theorem postmarkref02_Same.calls (k : Nat) (A0 : Option Addr) (c0 : Nat) (l0 : List Int) (A1 : Option Addr) (c1 : Nat) (l1 : List Int) (r : Bool) (w : World) (hr0 : Kd.C (Kd.int .u32) w A0 l0.length l0) (hc0 : l0.length ≤ c0) (hr1 : Kd.C (Kd.int .u32) w A1 l1.length l1) (hc1 : l1.length ≤ c1) (h : postmarkref02_Same.f k l0 l1 = some r) :
    Calls Try.prog 34 #[.slice A0 l0.length c0, .slice A1 l1.length c1] w fun e w' => e = .returned (.bool r) ∧ Drawn0 w w' := by
  have HR0 := Aside0.mk hr0
  have HC0 := Aside0.mk hc0
  clear hr0 hc0
  have HR1 := Aside0.mk hr1
  have HC1 := Aside0.mk hc1
  clear hr1 hc1
  have H : (if (l0.length : Int) = (l1.length : Int) then (postmarkref02_Same.l0 k l0 l1 0) else (some false)) = some r := h
  clear h
  by_cases c3 : (l0.length : Int) = (l1.length : Int)
  · rw [if_pos c3] at H
    have c3b0 : ((l0.length : Int) == (l1.length : Int)) = true := beq_iff_eq.mpr c3
    have c3b1 : ((l0.length : Int) != (l1.length : Int)) = false := bne_eq_false_iff_eq.mpr c3
    have c3b2 : (l0.length == l1.length) = true := by first | simpa using c3 | (simp at c3 ⊢; omega)
    clear c3
    have H' := Aside0.mk H
    clear H
    go_enter Try.func34, Try.ntmps34
    go_wp2
    repeat (go_quiet (fail); try go_wp2)
    go_loopg [5] k (fun kq v5 w' => ∃ (x5_1 : Int), v5 = .int .i64 x5_1 ∧ Aside0 (postmarkref02_Same.l0 kq l0 l1 x5_1 = some r) ∧ Aside0 (kq ≤ k) ∧ Drawn0 w w')
    case atStart => exact ⟨(0), (by first | rfl | (simp; done) | (simp [*]; done)), H', ⟨Nat.le_refl _⟩, by repeat (first | exact Drawn0.refl _ | apply Drawn0.step)⟩
    case round =>
      clear H'
      try clear c1
      try clear p2
      try clear c3
      try clear c3b0
      try clear c3b1
      try clear c3b2
      obtain ⟨x5_1, rfl, HA, HK1, ⟨m1, rfl⟩⟩ := hrel
      cases gk with
      | zero => exact absurd HA.out (by simp [postmarkref02_Same.l0])
      | succ k1 =>
        have H := HA.out
        clear HA
        simp only [postmarkref02_Same.l0] at H
        by_cases c4 : x5_1 < (l0.length : Int)
        · rw [if_pos c4] at H
          have c4b0 : decide (x5_1 < (l0.length : Int)) = true := decide_eq_true c4
          clear c4
          by_cases c5 : 0 ≤ x5_1
          · rw [if_pos c5] at H
            have c5b0 : decide (0 ≤ x5_1) = true := decide_eq_true c5
            clear c5
            by_cases c6 : x5_1 < (l1.length : Int)
            · rw [if_pos c6] at H
              have c6b0 : decide (x5_1 < (l1.length : Int)) = true := decide_eq_true c6
              clear c6
              by_cases c7 : (rd l0 x5_1) = (rd l1 x5_1)
              · rw [if_pos c7] at H
                have c7b0 : ((rd l0 x5_1) == (rd l1 x5_1)) = true := beq_iff_eq.mpr c7
                have c7b1 : ((rd l0 x5_1) != (rd l1 x5_1)) = false := bne_eq_false_iff_eq.mpr c7
                clear c7
                have H' := Aside0.mk H
                clear H
                have p180 : 0 ≤ (x5_1 : Int) := of_decide_eq_true (by first | (with_reducible assumption) | assumption)
                have q180 : x5_1 < (l0.length : Int) := of_decide_eq_true (by first | (with_reducible assumption) | assumption)
                obtain ⟨ad180, e180, hx180_0⟩ := Kd.at_int HR0.out x5_1 p180 q180
                cases e180
                replace p180 := eq_true p180
                replace q180 := eq_true q180
                have p181 : 0 ≤ (x5_1 : Int) := of_decide_eq_true (by first | (with_reducible assumption) | assumption)
                have q181 : x5_1 < (l1.length : Int) := of_decide_eq_true (by first | (with_reducible assumption) | assumption)
                obtain ⟨ad181, e181, hx181_0⟩ := Kd.at_int HR1.out x5_1 p181 q181
                cases e181
                replace p181 := eq_true p181
                replace q181 := eq_true q181
                go_wp2
                repeat (go_quiet (fail); try go_wp2)
                go_roundg k1
                case measure => have := HK1.out; omega
                case rel => exact ⟨(wrap64 (x5_1 + 1)), (by first | rfl | (simp; done) | (simp [*]; done)), H', ⟨by have := HK1.out; omega⟩, by repeat (first | exact Drawn0.refl _ | apply Drawn0.step)⟩
              · rw [if_neg c7] at H
                have c7b0 : ((rd l0 x5_1) == (rd l1 x5_1)) = false := beq_eq_false_iff_ne.mpr c7
                have c7b1 : ((rd l0 x5_1) != (rd l1 x5_1)) = true := bne_iff_ne.mpr c7
                obtain rfl := Option.some.inj H
                have p180 : 0 ≤ (x5_1 : Int) := of_decide_eq_true (by first | (with_reducible assumption) | assumption)
                have q180 : x5_1 < (l0.length : Int) := of_decide_eq_true (by first | (with_reducible assumption) | assumption)
                obtain ⟨ad180, e180, hx180_0⟩ := Kd.at_int HR0.out x5_1 p180 q180
                cases e180
                replace p180 := eq_true p180
                replace q180 := eq_true q180
                have p181 : 0 ≤ (x5_1 : Int) := of_decide_eq_true (by first | (with_reducible assumption) | assumption)
                have q181 : x5_1 < (l1.length : Int) := of_decide_eq_true (by first | (with_reducible assumption) | assumption)
                obtain ⟨ad181, e181, hx181_0⟩ := Kd.at_int HR1.out x5_1 p181 q181
                cases e181
                replace p181 := eq_true p181
                replace q181 := eq_true q181
                go_wp2
                repeat (go_quiet (fail); try go_wp2)
                go_ret
                exact ⟨by first | rfl | (simp; done) | (simp [*]; done), by repeat (first | exact Drawn0.refl _ | apply Drawn0.step)⟩
            · rw [if_neg c6] at H
              exact absurd H (by simp)
          · rw [if_neg c5] at H
            exact absurd H (by simp)
        · rw [if_neg c4] at H
          have c4b0 : decide (x5_1 < (l0.length : Int)) = false := decide_eq_false c4
          clear c4
          obtain rfl := Option.some.inj H
          go_wp2
          repeat (go_quiet (fail); try go_wp2)
          go_ret
          exact ⟨by first | rfl | (simp; done) | (simp [*]; done), by repeat (first | exact Drawn0.refl _ | apply Drawn0.step)⟩
  · rw [if_neg c3] at H
    have c3b0 : ((l0.length : Int) == (l1.length : Int)) = false := beq_eq_false_iff_ne.mpr c3
    have c3b1 : ((l0.length : Int) != (l1.length : Int)) = true := bne_iff_ne.mpr c3
    have c3b2 : (l0.length == l1.length) = false := by first | simpa using c3 | (simp at c3 ⊢; omega)
    obtain rfl := Option.some.inj H
    go_enter Try.func34, Try.ntmps34
    go_wp2
    repeat (go_quiet (fail); try go_wp2)
    go_ret
    exact ⟨by first | rfl | (simp; done) | (simp [*]; done), by repeat (first | exact Drawn0.refl _ | apply Drawn0.step)⟩

end Go.Proofs.Ytlifengbicpppaa.G
end
section
/- postmarkref02.Same: the plain law. -/
namespace Go.Proofs.Ytlifengbicpppaa.G
open Go.RowKit Go.Proofs.YtlifengbicpppaaW.PrintWords Go.Proofs.YtlifengbicpppaaW.PrintLast Go.Proofs.YtlifengbicpppaaW.PrintMore
open Go.Proofs.Ytlifengbicpppaa.Num
theorem same_l0 (x : List Int) (hl : x.length ≤ 9223372036854775807) : ∀ (d i : Nat), d = x.length - i → i ≤ x.length → Ev (fun k => postmarkref02_Same.l0 k x x (i : Int)) true
  | 0, i, hd, hi => by
    refine Ev.step (f := fun _ => some true) (fun k => ?_) (Ev.now _)
    simp only [postmarkref02_Same.l0]
    rw [if_neg (by omega)]
  | d + 1, i, hd, hi => by
    refine Ev.step (f := fun k => postmarkref02_Same.l0 k x x ((i + 1 : Nat) : Int)) (fun k => ?_) (same_l0 x hl d (i + 1) (by omega) (by omega))
    have h1 : (i : Int) < (x.length : Int) := by omega
    have h2 : (0 : Int) ≤ (i : Int) := by omega
    have e : wrap64 ((i : Int) + 1) = ((i + 1 : Nat) : Int) := (w64 (by omega) (by omega)).trans (by omega)
    simp only [postmarkref02_Same.l0]
    simp only [if_pos h1, if_pos h2, e, if_true]
theorem same_ev (x : List Int) (hl : x.length ≤ 9223372036854775807) : Ev (fun k => postmarkref02_Same.f k x x) true := by
  refine Ev.congr (f := fun k => postmarkref02_Same.l0 k x x ((0 : Nat) : Int)) (fun k => ?_) (same_l0 x hl x.length 0 (by omega) (by omega))
  unfold postmarkref02_Same.f
  rw [if_pos rfl]
  rfl
end Go.Proofs.Ytlifengbicpppaa.G
end
section
/- kept: what was answered is written over; limbs are what they were, and the one behind their end. -/
namespace Go.Proofs.Ytlifengbicpppaa.G
open Go.RowKit Go.Proofs.YtlifengbicpppaaW.PrintWords Go.Proofs.YtlifengbicpppaaW.PrintLast Go.Proofs.YtlifengbicpppaaW.PrintMore
open Go.Proofs.Ytlifengbicpppaa.Num

/-- Rows that are written over, each of the call's own, no two the same. -/
structure KV (b0 : Nat) (vs : List Value) (W : World) : Prop where
  row : ∀ (i : Nat) (v : Value), vs[i]? = some v → ∃ xs, Kd.R (Kd.int .u32) 75 W b0 (fun _ => True) v xs
  ne : ∀ (i j : Nat) (u v : Value), vs[i]? = some u → vs[j]? = some v → i ≠ j → ∀ k, u.ownBlock = some k → v.ownBlock ≠ some k
/-- Only these rows have changed. -/
structure KO (b0 : Nat) (vs : List Value) (V W : World) : Prop where
  size : W.heap.size = V.heap.size
  below : Below b0 V W
  block : ∀ k, (∀ (i : Nat) (v : Value), vs[i]? = some v → v.ownBlock ≠ some k) → W.heap[k]? = V.heap[k]?
theorem KO.refl (b0 : Nat) (vs : List Value) (V : World) : KO b0 vs V V := ⟨rfl, Below.refl _ _, fun _ _ => rfl⟩
theorem KO.drewN {b0 : Nat} {vs : List Value} {V W : World} (h : KO b0 vs V W) (n : Nat) : KO b0 vs V (W.drewN n) := ⟨h.size, pw_below_drewN h.below n, h.block⟩
theorem KV.drewN {b0 : Nat} {vs : List Value} {W : World} (h : KV b0 vs W) (n : Nat) : KV b0 vs (W.drewN n) := ⟨fun i v hv => by obtain ⟨xs, hx⟩ := h.row i v hv; exact ⟨xs, Kd.R_drewN hx n⟩, h.ne⟩
theorem KO.set {b0 g i n c : Nat} {vs : List Value} {V W : World} (h : KO b0 vs V W) (hv : vs[i]? = some (.slice (some ⟨g, 0, none⟩) n c)) (hg : b0 ≤ g) (o : Nat) (u : Value) : KO b0 vs V (W.setCell ⟨g, o, none⟩ u) :=
  ⟨by rw [World.size_setCell]; exact h.size, h.below.setCell (p := ⟨g, o, none⟩) hg u, fun k hk => (Below.heap_setCell W ⟨g, o, none⟩ u k (fun e => by
    subst e
    exact hk i _ hv rfl)).trans (h.block k hk)⟩
theorem KV.set {b0 g i n c : Nat} {vs : List Value} {W : World} {xs : List Int} (h : KV b0 vs W) (hv : vs[i]? = some (.slice (some ⟨g, 0, none⟩) n c)) (hR : Kd.R (Kd.int .u32) 75 W b0 (fun _ => True) (.slice (some ⟨g, 0, none⟩) n c) xs) (o : Nat) (u : Int) :
    KV b0 vs (W.setCell ⟨g, o, none⟩ (.int .u32 u)) := by
  refine ⟨fun j v hj => ?_, h.ne⟩
  by_cases hij : i = j
  · subst hij
    rw [hv] at hj
    cases hj
    have hn := (Kd.R_reads' hR).1
    subst hn
    exact ⟨_, (Kd.R_put hR (o : Int) u).1⟩
  · obtain ⟨ys, hy⟩ := h.row j v hj
    have hne := h.ne i j _ v hv hj hij g rfl
    refine ⟨ys, Kd.R_mono (Kd.R_far (p := ⟨g, o, none⟩) (Kd.R_flat (ok' := fun k => k ≠ g) (fun h => h) hy (fun k hk _ e => hne (by rw [hk, e]))) (fun k hk => hk) _) (fun _ _ => trivial)⟩

set_option maxHeartbeats 4000000 in
set_option maxRecDepth 100000 in
theorem kept6_any (g n c0 : Nat) (x : List Int) (A1 : Option Addr) (c1 : Nat) (A2 : Option Addr) (c2 : Nat) (vs : List Value) (b0 : Nat) (w : World)
    (hx : x.length = n) (hxl : n < 1000000) (hc0 : n + 1 ≤ c0) (hc1 : n ≤ c1) (hp : Kd.C (Kd.int .u32) w (some ⟨g, 0, none⟩) (n + 1) (x ++ [7])) (hq : Kd.C (Kd.int .u32) w A1 n x)
    (hv : KV b0 vs w) (hvl : vs.length < 1000000)
    (hcell : ∀ (i : Nat) (v : Value), vs[i]? = some v → ∃ B o, A2 = some ⟨B, o, none⟩ ∧ w.cell? ⟨B, o + i, none⟩ = some v ∧ ∀ (j : Nat) (u : Value), vs[j]? = some u → u.ownBlock ≠ some B)
    (hgv : ∀ (j : Nat) (u : Value), vs[j]? = some u → u.ownBlock ≠ some g) (hAv : ∀ ad, A1 = some ad → 0 < n → ∀ (j : Nat) (u : Value), vs[j]? = some u → u.ownBlock ≠ some ad.block) :
    Calls Try.prog 35 #[.slice (some ⟨g, 0, none⟩) n c0, .slice A1 n c1, .slice A2 vs.length c2] w fun e w' => e = .returned (.bool true) ∧ Below b0 w w' ∧ w.heap.size ≤ w'.heap.size := by
  have H := Aside0.mk (And.intro hp (And.intro hq (And.intro hv (And.intro hcell (And.intro hgv hAv)))))
  have HX := Aside0.mk hx
  clear hp hq hv hcell hgv hAv hx
  go_enter Try.func35, Try.ntmps35
  go_wp2
  go_loopw [11] (fun a wr => ∃ i : Nat, a = .int .i64 i ∧ i ≤ vs.length ∧ Aside0 (KV b0 vs wr) ∧ Aside0 (KO b0 vs w wr)) (fun a _ => vs.length - (intOf a).toNat)
  case atStart => exact ⟨0, rfl, Nat.zero_le _, ⟨H.out.2.2.1⟩, ⟨KO.refl _ _ _⟩⟩
  case round =>
    obtain ⟨i, rfl, hi, HV, HO⟩ := hrel
    by_cases hlt : i < vs.length
    · obtain ⟨v, hv⟩ : ∃ v, vs[i]? = some v := ⟨_, List.getElem?_eq_getElem hlt⟩
      obtain ⟨B, o, rfl, hc, hB⟩ := H.out.2.2.2.1 i v hv
      generalize wr = W1 at *
      clear wr
      have f0 : W1.cell? ⟨B, o + i, none⟩ = some v := by
        have := HO.out.block B hB
        simp only [World.cell?, this] at hc ⊢
        exact hc
      obtain ⟨xs, hR⟩ := HV.out.row i v hv
      obtain ⟨A, c, rfl⟩ := Kd.R_slice hR
      have hxm := (Kd.R_reads' hR).2.2.2.1
      have hlt' : (i : Int) < (vs.length : Int) := by omega
      have HVI := Aside0.mk (And.intro hv hB)
      obtain ⟨L, hL⟩ : ∃ L, L = xs.length := ⟨_, rfl⟩
      rw [← hL] at f0 HVI hxm
      have HL := Aside0.mk hL
      clear hv hc hB hR hL
      go_wp2
      go_loopw [19] (fun a wr => ∃ k : Nat, a = .int .i64 k ∧ k ≤ L ∧ Aside0 (KV b0 vs wr) ∧ Aside0 (KO b0 vs w wr)) (fun a _ => L - (intOf a).toNat)
      case atStart => exact ⟨0, rfl, Nat.zero_le _, HV, HO⟩
      case round =>
        obtain ⟨k, rfl, hk, HV, HO⟩ := hrel
        generalize wr = W2 at *
        clear wr f0
        by_cases hlk : k < L
        · have hc := (H.out.2.2.2.1 i _ HVI.out.1)
          obtain ⟨B', o', e, hc, hB⟩ := hc
          cases e
          have f0 : W2.cell? ⟨B, o + i, none⟩ = some (.slice A L c) := by
            have := HO.out.block B hB
            simp only [World.cell?, this] at hc ⊢
            exact hc
          obtain ⟨ys, hR⟩ := HV.out.row i _ HVI.out.1
          have hyl := (Kd.R_reads' hR).1
          obtain ⟨g2, c2, e, hg2, -⟩ := Kd.R_form hR (by omega)
          cases e
          have c1 := Kd.R_cell (0 : Int) (by rw [← hyl]; exact hR) (k : Int) (by omega) (by omega)
          rw [Int.toNat_natCast] at c1
          obtain ⟨f1, f2⟩ := c1
          have hkl : (k : Int) < (ys.length : Int) := by omega
          have HY := Aside0.mk (And.intro hR hg2)
          clear hR hc hB
          generalize rdOf (0 : Int) ys (k : Int) = y at *
          obtain ⟨z, hz⟩ : ∃ z, IntKind.u32.wrap (y + 1) = z := ⟨_, rfl⟩
          go_wp2
          obtain ⟨S, hS0, hSe⟩ : ∃ S : World → Prop, S W2.drew ∧ ∀ w', S w' → w'.cell? ⟨B, o + i, none⟩ = some (.slice (some ⟨g2, 0, none⟩) ys.length c) ∧ w'.cell? ⟨g2, k, none⟩ = some (.int .u32 y) := ⟨_, ⟨f0, f1⟩, fun _ h => h⟩
          refine wp_region_TN (st := 14) S (by kernel_rfl) ?_
          iterate 14
            refine wpTL_held (v := ?_) (by kernel_rfl) (fun _ _ _ h => h) hS0 (Or.inl ⟨by rfl, fun w' hw' => ?_⟩) ?_
            rotate_left 1
            · obtain ⟨s1, s2⟩ := hSe _ hw'
              go_simp
              try with_reducible rfl
            simp only [Act.put, List.setIfInBounds_toArray, List.set_cons_zero, List.set_cons_succ, Nat.reduceAdd]
          refine wpTL_run (by kernel_rfl) (fun K hK => ?_)
          go_simp
          refine hK _ _ (stored (by kernel_rfl)) ?_
          clear hK K
          simp only [Act.put, List.setIfInBounds_toArray, List.set_cons_zero, List.set_cons_succ, Nat.reduceAdd]
          refine wpTL_end (by kernel_rfl) ?_
          refine onlyN ?_
          go_wp2
          exact ⟨⟨k + 1, rfl, by omega, ⟨(HV.out.set HVI.out.1 HY.out.1 k z).drewN 1⟩, ⟨(HO.out.set HVI.out.1 HY.out.2 k _).drewN 1⟩⟩, by simp [intOf]; omega⟩
        · go_wp2
          exact ⟨⟨i + 1, rfl, by omega, HV, HO⟩, by simp [intOf]; omega⟩
    · generalize wr = W1 at *
      clear wr
      have hgb := HO.out.block g H.out.2.2.2.2.1
      have hp : Kd.C (Kd.int .u32) W1 (some ⟨g, 0, none⟩) (n + 1) (x ++ [7]) := C_same H.out.1 (fun ad hA hn j => by cases hA; rw [add_plain]; simp only [World.cell?, hgb])
      have hq : Kd.C (Kd.int .u32) W1 A1 n x := C_same H.out.2.1 (fun ad hA hn j => by
        have := HO.out.block ad.block (H.out.2.2.2.2.2 ad hA hn)
        have hb : (ad.add j).block = ad.block := by unfold Addr.add; split <;> rfl
        simp only [World.cell?, hb, this])
      obtain ⟨ad, e, h7⟩ := Kd.at_int hp (n : Int) (by omega) (by omega)
      cases e
      rw [Int.toNat_natCast, add_plain] at h7
      have e7 : rd (x ++ [7]) (n : Int) = 7 := by have := HX.out; subst this; simp [rd, List.getD_eq_getElem?_getD]
      rw [e7] at h7
      have hp2 : Kd.C (Kd.int .u32) W1 (some ⟨g, 0, none⟩) x.length x := by
        have hp' : Kd.C (Kd.int .u32) W1 (some ⟨g, 0, none⟩) (x ++ [7]).length (x ++ [7]) := by rw [show (x ++ [(7 : Int)]).length = n + 1 by simp [HX.out]]; exact hp
        have := Kd.C_take (m := x.length) hp' (by simp)
        rwa [List.take_left] at this
      obtain ⟨ks, hks⟩ := (same_ev x (by have := HX.out; omega)).rounds
      have HS := Aside0.mk (postmarkref02_Same.calls ks (some ⟨g, 0, none⟩) c0 x A1 c1 x true W1 hp2 (by have := HX.out; omega) (by have := HX.out; rw [this]; exact hq) (by have := HX.out; omega) hks)
      rw [HX.out] at HS
      clear hp hq hp2 hgb e7 hks
      go_wp2_with fail
      refine HS.out.mono ?_
      rintro e w3 ⟨rfl, ⟨⟨nd, rfl⟩⟩⟩
      have f7 : W1.cell? ⟨g, n, none⟩ = some (.int .u32 7) := h7
      clear h7
      have hn1 : n < n + 1 := by omega
      go_wp2_with fail
      go_ret
      exact ⟨rfl, pw_below_drewN HO.out.below nd, by show w.heap.size ≤ W1.heap.size; rw [HO.out.size]; exact Nat.le_refl _⟩
/-- A row of the call's own, known whole, is read. -/
theorem C_own7 {W : World} {g n c b : Nat} {x : List Int} (h : Kd.R (Kd.int .u32) 75 W b (fun _ => True) (.slice (some ⟨g, 0, none⟩) (n + 1) c) (x ++ [7])) (hn : x.length = n) :
    Kd.C (Kd.int .u32) W (some ⟨g, 0, none⟩) (n + 1) (x ++ [7]) ∧ Kd.C (Kd.int .u32) W (some ⟨g, 0, none⟩) n x ∧ b ≤ g ∧ g < W.heap.size := by
  have h1 := (Kd.R_reads' h).2.2
  have h2 := Kd.C_take (m := x.length) h1 (by simp)
  rw [List.take_left] at h2
  have h3 := (Kd.R_bound h).1 g rfl
  subst hn
  refine ⟨?_, h2, h3.2.1, h3.2.2.1⟩
  rw [show (x ++ [(7 : Int)]).length = x.length + 1 by simp] at h1
  exact h1
set_option maxHeartbeats 1000000 in
theorem kept6_none (g n c0 : Nat) (x : List Int) (A1 : Option Addr) (c1 : Nat) (w : World) (b : Nat)
    (hx : x.length = n) (hxl : n < 1000000) (hc0 : n + 1 ≤ c0) (hc1 : n ≤ c1) (hp : Kd.R (Kd.int .u32) 75 w b (fun _ => True) (.slice (some ⟨g, 0, none⟩) (n + 1) c0) (x ++ [7])) (hq : Kd.C (Kd.int .u32) w A1 n x) (b0 : Nat) :
    Calls Try.prog 35 #[.slice (some ⟨g, 0, none⟩) n c0, .slice A1 n c1, .slice none 0 0] w fun e w' => e = .returned (.bool true) ∧ Below b0 w w' ∧ w.heap.size ≤ w'.heap.size :=
  kept6_any g n c0 x A1 c1 none 0 [] b0 w hx hxl hc0 hc1 (C_own7 hp hx).1 hq ⟨fun i v h => by simp at h, fun i j u v h => by simp at h⟩ (by simp) (fun i v h => by simp at h) (fun i v h => by simp at h) (fun ad _ _ j u h => by simp at h)
/-- One answer is written over. -/
theorem kept6_one (g n c0 : Nat) (x : List Int) (A1 : Option Addr) (c1 : Nat) (w : World) (b b0 : Nat) (va : Value) (ga : List Int)
    (hx : x.length = n) (hxl : n < 1000000) (hc0 : n + 1 ≤ c0) (hc1 : n ≤ c1) (hp : Kd.R (Kd.int .u32) 75 w b (fun _ => True) (.slice (some ⟨g, 0, none⟩) (n + 1) c0) (x ++ [7])) (hq : Kd.C (Kd.int .u32) w A1 n x)
    (ha : Kd.R (Kd.int .u32) 75 w b0 (fun _ => True) va ga) (hg : g < b0) (hA : ∀ ad, A1 = some ad → 0 < n → ad.block < b0) :
    Calls Try.prog 35 #[.slice (some ⟨g, 0, none⟩) n c0, .slice A1 n c1, .slice (some ⟨w.heap.size, 0, none⟩) 1 1] (w.alloc (.cells #[va] 46)) fun e w' => e = .returned (.bool true) ∧ Below b0 (w.alloc (.cells #[va] 46)) w' ∧ (w.alloc (.cells #[va] 46)).heap.size ≤ w'.heap.size := by
  have hb := fun k (h : va.ownBlock = some k) => (Kd.R_bound ha).1 k h
  refine kept6_any g n c0 x A1 c1 (some ⟨w.heap.size, 0, none⟩) 1 [va] b0 _ hx hxl hc0 hc1 (C_own7 (Kd.R_alloc hp _) hx).1 (Kd.C_alloc hq _) ⟨fun i v h => ?_, fun i j u v h h' hne => ?_⟩ (by simp) (fun i v h => ?_) (fun i v h => ?_) (fun ad e hn j u h => ?_)
  · cases i with
    | zero => cases h; exact ⟨ga, Kd.R_alloc ha _⟩
    | succ i => simp at h
  · cases i with
    | zero => cases j with
      | zero => exact (hne rfl).elim
      | succ j => simp at h'
    | succ i => simp at h
  · cases i with
    | zero =>
      cases h
      refine ⟨_, _, rfl, (Boxed.new w 46 _).cell, fun j u hj => ?_⟩
      cases j with
      | zero => cases hj; exact fun e => by have := (hb _ e).2.2.1; omega
      | succ j => simp at hj
    | succ i => simp at h
  · cases i with
    | zero => cases h; exact fun e => by have := (hb _ e).2.1; omega
    | succ i => simp at h
  · cases j with
    | zero => cases h; exact fun e' => by have := (hb _ e').2.1; have := hA ad e hn; omega
    | succ j => simp at h
/-- Some answers are written over. -/
theorem kept6_list (g n c0 : Nat) (x : List Int) (A1 : Option Addr) (c1 : Nat) (w : World) (b b0 : Nat) (vs : List Value)
    (hx : x.length = n) (hxl : n < 1000000) (hc0 : n + 1 ≤ c0) (hc1 : n ≤ c1) (hp : Kd.R (Kd.int .u32) 75 w b (fun _ => True) (.slice (some ⟨g, 0, none⟩) (n + 1) c0) (x ++ [7])) (hq : Kd.C (Kd.int .u32) w A1 n x)
    (hv : KV b0 vs w) (hvl : vs.length < 1000000) (hg : g < b0) (hA : ∀ ad, A1 = some ad → 0 < n → ad.block < b0) :
    Calls Try.prog 35 #[.slice (some ⟨g, 0, none⟩) n c0, .slice A1 n c1, .slice (some ⟨w.heap.size, 0, none⟩) vs.length vs.length] (w.alloc (.cells vs.toArray 46)) fun e w' => e = .returned (.bool true) ∧ Below b0 (w.alloc (.cells vs.toArray 46)) w' ∧ (w.alloc (.cells vs.toArray 46)).heap.size ≤ w'.heap.size := by
  have hb : ∀ (i : Nat) (v : Value), vs[i]? = some v → ∀ k, v.ownBlock = some k → b0 ≤ k ∧ k < w.heap.size := fun i v hi k hk => by
    obtain ⟨xs, hR⟩ := hv.row i v hi
    have := (Kd.R_bound hR).1 k hk
    exact ⟨this.2.1, this.2.2.1⟩
  refine kept6_any g n c0 x A1 c1 (some ⟨w.heap.size, 0, none⟩) vs.length vs b0 _ hx hxl hc0 hc1 (C_own7 (Kd.R_alloc hp _) hx).1 (Kd.C_alloc hq _) ⟨fun i v h => ?_, hv.ne⟩ hvl (fun i v h => ?_) (fun i v h e => ?_) (fun ad e hn j u h e' => ?_)
  · obtain ⟨xs, hR⟩ := hv.row i v h
    exact ⟨xs, Kd.R_alloc hR _⟩
  · refine ⟨_, _, rfl, ?_, fun j u hj e => by have := (hb j u hj _ e).2; omega⟩
    rw [Nat.zero_add]
    unfold World.cell?
    rw [World.alloc_heap_new]
    simpa using h
  · have := (hb i v h _ e).1; omega
  · have := (hb j u h _ e').1; have := hA ad e hn; omega
end Go.Proofs.Ytlifengbicpppaa.G
end
section
/- twin: limbs in memory of their own, with one more behind their end. -/
namespace Go.Proofs.Ytlifengbicpppaa.G
open Go.RowKit Go.Proofs.YtlifengbicpppaaW.PrintWords Go.Proofs.YtlifengbicpppaaW.PrintLast Go.Proofs.YtlifengbicpppaaW.PrintMore

set_option maxHeartbeats 1000000 in
set_option maxRecDepth 100000 in
theorem twin6_any (A0 : Option Addr) (c0 : Nat) (l0 : List Int) (w : World) (hr0 : Kd.C (Kd.int .u32) w A0 l0.length l0) (hl : l0.length < 1000000) :
    Calls Try.prog 31 #[.slice A0 l0.length c0] w fun e w' => ∃ g c, e = .returned (.slice (some ⟨g, 0, none⟩) l0.length c) ∧ l0.length + 1 ≤ c ∧ Kd.R (Kd.int .u32) 75 w' w.heap.size (fun _ => True) (.slice (some ⟨g, 0, none⟩) (l0.length + 1) c) (l0 ++ [7]) ∧ Below w.heap.size w w' := by
  have HR0 := Aside0.mk hr0
  have LM := Aside0.mk hl
  clear hr0
  have HB := Aside0.mk (Below.refl w.heap.size w)
  go_enter Try.func31, Try.ntmps31
  go_wp2_with (first
    | ((with_reducible refine gate_dst (N := 3) rfl ?_); refine Kd.R_lit (Kd.int .u32) _ 75 ?hg (N := 3) ?hd (xs := ([] : List Int)) (inner := []) (ok := fun _ => True) (okp := fun _ => True) ?hr ?hp (fun _ hk => hk) trivial (Below.refl _ _) (Nat.le_refl _) (by simp) ?_; (case hd => rfl); (case hg => rfl); (case hr => first | (go_simp; done) | (go_simp; rfl)); (case hp => exact (Reps.none _ _)); intro v1 w1 ho7 hb hg_ hnew_; clear hg_ hnew_; have HO1 := Aside0.mk ho7; have HB1 := Aside0.mk hb; clear hb ho7)
    | ((with_reducible refine gate_builtin (b := .append) (xs := #[.tmp 3, .tmp 4]) rfl ?_); at_builtin; refine Kd.R_append_rows (Kd.int .u32) (w0 := w) w.heap.size rfl (.tmp 3) (.tmp 4) 46 75 (.int .u32 0) 4 rfl Try.underlying46 info75 rfl (by decide) (by omega) v1 [] l0 _ _ _ (fun _ => True) (fun _ => False) rfl rfl ?aO ?aR (fun _ _ h => h) (fun _ h => h.elim) ?aF ?aB ?aS ?aL ?_; (case aR => exact Kd.C_below HR0.out HB1.out); (case aB => exact HB1.out); (case aF => exact (fun _ _ => trivial)); (case aO => exact HO1.out); (case aS => exact HB1.out.size); (case aL => have := LM.out; simp; omega); intro v2 w2 ho hb hg hat; have HB2 := Aside0.mk hb; have HO2 := Aside0.mk (Kd.own_of_R ho); clear ho hb hg hat)
    | ((with_reducible refine gate_builtin (b := .append) (xs := #[.tmp 5, .tmp 6]) rfl ?_); at_builtin; refine print_append_num (w0 := w) w.heap.size rfl _ _ 46 75 .u32 4 rfl Try.underlying46 info75 (by decide) v2 ([] ++ l0) 7 rfl rfl HO2.out HB2.out HB2.out.size (by have := LM.out; simp; omega) ?_; intro v3 w3 hown hb3 hg hat; simp only [List.nil_append, List.length_append, List.length_cons, List.length_nil, Nat.zero_add] at hown; obtain ⟨g, c, rfl⟩ := ownsRow_succ hown; have hc : l0.length + 1 ≤ c := by { rcases hown.2 with h | ⟨_, _, _, e, _, _, h, _⟩ ; (cases h.1) ; (cases e; exact h) }; have HH := Aside0.mk (And.intro hown hb3); clear hown hb3 hg hat HO1 HO2))
  go_ret
  refine ⟨g, c, rfl, hc, ?_, HH.out.2⟩
  have := HH.out.1
  rw [show l0.length + 1 = (l0 ++ [7]).length by simp] at this ⊢
  exact Kd.R_of_own this (fun _ _ => trivial)
end Go.Proofs.Ytlifengbicpppaa.G
end
section
/- The law RatioDivisors, walked. -/
namespace Go.Proofs.Ytlifengbicpppaa.G
open Go.RowKit Go.Proofs.YtlifengbicpppaaW.PrintWords Go.Proofs.YtlifengbicpppaaW.PrintLast Go.Proofs.YtlifengbicpppaaW.PrintMore
open Go.Proofs.Ytlifengbicpppaa.Num

theorem great6_two (m : Int) (w : World) (A0 : Option Addr) (c0 : Nat) (l0 : List Int) (A1 : Option Addr) (c1 : Nat) (l1 : List Int) (hr0 : Kd.C (Kd.int .u32) w A0 l0.length l0) (hc0 : l0.length ≤ c0) (hr1 : Kd.C (Kd.int .u32) w A1 l1.length l1) (hc1 : l1.length ≤ c1) :
    Calls Try.prog 29 #[.int .i64 m, .slice (some ⟨w.heap.size, 0, none⟩) 2 2] (w.alloc (.cells #[.slice A0 l0.length c0, .slice A1 l1.length c1] 46)) fun e w' => e = .returned (.bool (decide (m < l0.length) || decide (m < l1.length))) ∧ ∃ n, w' = (w.alloc (.cells #[.slice A0 l0.length c0, .slice A1 l1.length c1] 46)).drewN n := by
  obtain ⟨k, hk⟩ := (great6_ev m [l0, l1] (by simp)).rounds
  simp only [List.any_cons, List.any_nil, Bool.or_false] at hk
  refine (postmarklaw06_great.calls k m _ 2 [l0, l1] _ _ (C_two w hr0 hc0 hr1 hc1) (by simp) hk).mono ?_
  rintro e w' ⟨rfl, ⟨h⟩⟩
  exact ⟨rfl, h⟩
theorem may_call (w : World) (A0 : Option Addr) (c0 : Nat) (l0 : List Int) (A1 : Option Addr) (c1 : Nat) (l1 : List Int) (hr0 : Kd.C (Kd.int .u32) w A0 l0.length l0) (hc0 : l0.length ≤ c0) (hr1 : Kd.C (Kd.int .u32) w A1 l1.length l1) (hc1 : l1.length ≤ c1) (hx : Lb l0) (hy : Lb l1) :
    Calls Try.prog 30 #[.slice A0 l0.length c0, .slice A1 l1.length c1] w fun e w' => e = .returned (.bool (fits l0 && fits l1)) ∧ Below w.heap.size w w' := by
  obtain ⟨k, hk⟩ := (may_ev l0 l1 hx.dg hy.dg hx.len hy.len).rounds
  exact postmarkref02_May.calls k A0 c0 l0 A1 c1 l1 _ w hr0 hc0 hr1 hc1 hk

set_option maxHeartbeats 4000000 in
set_option maxRecDepth 100000 in
theorem ratioDivisors_walk (A0 : Option Addr) (c0 : Nat) (l0 : List Int) (A1 : Option Addr) (c1 : Nat) (l1 : List Int) (w : World) (hr0 : Kd.C (Kd.int .u32) w A0 l0.length l0) (hc0 : l0.length ≤ c0) (hr1 : Kd.C (Kd.int .u32) w A1 l1.length l1) (hc1 : l1.length ≤ c1) (d0 : Dg 4294967296 l0) (d1 : Dg 4294967296 l1) :
    Calls Try.prog 5 #[.slice A0 l0.length c0, .slice A1 l1.length c1] w fun e w' => e = .returned (.bool true) ∧ Below w.heap.size w w' := by
  have HX := Aside0.mk (fun W (h : Below w.heap.size w W) => Kd.C_below hr0 h)
  have HY := Aside0.mk (fun W (h : Below w.heap.size w W) => Kd.C_below hr1 h)
  have HC := Aside0.mk (And.intro hc0 hc1)
  have HG := Aside0.mk (fun m W (h : Below w.heap.size w W) => great6_two m W A0 c0 l0 A1 c1 l1 (Kd.C_below hr0 h) hc0 (Kd.C_below hr1 h) hc1)
  have HD := Aside0.mk (And.intro d0 d1)
  have HZ := Aside0.mk (And.intro (C_lt hr0) (C_lt hr1))
  clear hr0 hr1 hc0 hc1 d0 d1
  have HB := Aside0.mk (Below.refl w.heap.size w)
  cases hg : (decide ((270 : Int) < l0.length) || decide ((270 : Int) < l1.length)) with
  | true =>
    have HG1 := Aside0.mk (HG.out 270 w HB.out)
    rw [hg] at HG1
    clear hg
    go_enter Try.func5, Try.ntmps5
    go_wp2_with fail
    refine HG1.out.mono ?_
    rintro e w1 ⟨rfl, n, rfl⟩
    go_wp2_with fail
    go_ret
    exact ⟨rfl, pw_below_drewN ((Below.refl _ _).alloc (Nat.le_refl _) _) n⟩
  | false =>
    have HG1 := Aside0.mk (HG.out 270 w HB.out)
    rw [hg] at HG1
    simp only [Bool.or_eq_false_iff, decide_eq_false_iff_not] at hg
    have hL0 : Lb l0 := ⟨HD.out.1, by omega⟩
    have hL1 : Lb l1 := ⟨HD.out.2, by omega⟩
    have HL := Aside0.mk (And.intro hL0 hL1)
    have HM := Aside0.mk (fun W (h : Below w.heap.size w W) => may_call W A0 c0 l0 A1 c1 l1 (HX.out W h) HC.out.1 (HY.out W h) HC.out.2 hL0 hL1)
    have HF : Aside0 ((decide ((24 : Int) < l0.length) || decide ((24 : Int) < l1.length)) = false → l1.length ≤ 24) := ⟨fun h => by simp only [Bool.or_eq_false_iff, decide_eq_false_iff_not] at h; omega⟩
    clear hg hL0 hL1
    obtain ⟨b24, hb24⟩ : ∃ b, b = (decide ((24 : Int) < l0.length) || decide ((24 : Int) < l1.length)) := ⟨_, rfl⟩
    obtain ⟨bm, hbm⟩ : ∃ b, b = (fits l0 && fits l1) := ⟨_, rfl⟩
    rw [← hb24] at HF
    rw [← hbm] at HM
    have HBM := Aside0.mk hbm
    have HG2 := Aside0.mk (HG.out 24)
    rw [← hb24] at HG2
    clear hb24 hbm HG
    go_enter Try.func5, Try.ntmps5
    go_wp2_with fail
    refine HG1.out.mono ?_
    rintro e w1 ⟨rfl, n, rfl⟩
    have HB1 := Aside0.mk (pw_below_drewN ((Below.refl _ w).alloc (Nat.le_refl _) (.cells #[.slice A0 l0.length c0, .slice A1 l1.length c1] 46)) n)
    obtain ⟨w1, hw1⟩ : ∃ W, (w.alloc (.cells #[.slice A0 l0.length c0, .slice A1 l1.length c1] 46)).drewN n = W := ⟨_, rfl⟩
    rw [hw1] at HB1 ⊢
    clear hw1 HG1
    go_wp2_with fail
    refine (HG2.out w1 HB1.out).mono ?_
    rintro e w2 ⟨rfl, n, rfl⟩
    have hz1 := HB1.out.size
    have HB2 := Aside0.mk (pw_below_drewN (HB1.out.alloc hz1 (.cells #[.slice A0 l0.length c0, .slice A1 l1.length c1] 46)) n)
    obtain ⟨w2, hw2⟩ : ∃ W, (w1.alloc (.cells #[.slice A0 l0.length c0, .slice A1 l1.length c1] 46)).drewN n = W := ⟨_, rfl⟩
    rw [hw2] at HB2 ⊢
    clear hw2 HG2
    cases b24
    case' false =>
      have HFF : Aside0 ((fits l0 && fits l1) = true → l1.length ≤ 24) := ⟨fun _ => HF.out rfl⟩
      have HB3 := HB2
      clear HM HBM HF HB2
      generalize w2 = w3 at *
      go_wp2_with fail
    case' true =>
      go_wp2_with fail
      refine (HM.out w2 HB2.out).mono ?_
      rintro e w3 ⟨rfl, hb3⟩
      have HB3 := Aside0.mk (HB2.out.trans (hb3.mono HB2.out.size))
      clear hb3
      cases bm
      case' true =>
        go_wp2_with fail
        go_ret
        exact ⟨rfl, HB3.out⟩
      have HFF : Aside0 ((fits l0 && fits l1) = true → l1.length ≤ 24) := ⟨fun h => by rw [← HBM.out] at h; cases h⟩
      clear HM HBM HF HB2
      go_wp2_with fail
    all_goals
      refine (twin6_any A0 c0 l0 w3 (HX.out w3 HB3.out) HL.out.1.len).mono ?_
      rintro e w4 ⟨gp, cp, rfl, hcp, hRp, hBp⟩
      have HB4 := Aside0.mk (HB3.out.trans (hBp.mono HB3.out.size))
      have HP := Aside0.mk (And.intro hcp hRp)
      clear hcp hRp hBp
      go_wp2_with fail
      refine (twin6_any A1 c1 l1 w4 (HY.out w4 HB4.out) HL.out.2.len).mono ?_
      rintro e w5 ⟨gq, cq, rfl, hcq, hRq, hBq⟩
      have HB5 := Aside0.mk (HB4.out.trans (hBq.mono HB4.out.size))
      have HP := Aside0.mk (And.intro HP.out.1 (Kd.R_below HP.out.2 hBq))
      have HQ := Aside0.mk (And.intro hcq hRq)
      obtain ⟨kg, hkg⟩ := (gcd_ev l0 l1 HL.out.1 HL.out.2).rounds
      obtain ⟨kh, hkh⟩ := (refgcd_ev l0 l1 HL.out.1 HL.out.2 HFF.out).rounds
      generalize GCD l0 l1 = G at *
      obtain ⟨ga, ge⟩ := G
      have HCp : Aside0 (Kd.C (Kd.int .u32) w5 (some ⟨gp, 0, none⟩) l0.length l0) := ⟨by
        have h := (Kd.R_reads' HP.out.2).2.2
        have := Kd.C_take (m := l0.length) h (by simp)
        rwa [List.take_left] at this⟩
      have HCq : Aside0 (Kd.C (Kd.int .u32) w5 (some ⟨gq, 0, none⟩) l1.length l1) := ⟨by
        have h := (Kd.R_reads' HQ.out.2).2.2
        have := Kd.C_take (m := l1.length) h (by simp)
        rwa [List.take_left] at this⟩
      have HK1 := Aside0.mk (ratio_Gcd.calls kg (some ⟨gp, 0, none⟩) cp l0 (some ⟨gq, 0, none⟩) cq l1 ga ge w5 HCp.out (by have := HP.out.1; omega) HCq.out (by have := HQ.out.1; omega) hkg)
      have HK2 := Aside0.mk (fun W (h : Below w.heap.size w W) => postmarkref06_Gcd.calls kh A0 c0 l0 A1 c1 l1 ga ge W (HX.out W h) HC.out.1 (HY.out W h) HC.out.2 hkh)
      clear hcq hRq hBq hkg hkh
      go_wp2_with fail
      refine HK1.out.mono ?_
      rintro e w6 ⟨va, rfl, hRa, hBa⟩
      have HB6 := Aside0.mk (HB5.out.trans (hBa.mono HB5.out.size))
      have HA := Aside0.mk (And.intro hRa hBa)
      clear hRa hBa HK1
      go_wp2_with fail
      refine (HK2.out w6 HB6.out).mono ?_
      rintro e w7 ⟨vb, rfl, hRb, hBb⟩
      have HB7 := Aside0.mk (HB6.out.trans (hBb.mono HB6.out.size))
      have HA := Aside0.mk (And.intro (Kd.R_below HA.out.1 hBb) (HA.out.2.trans (hBb.mono HA.out.2.size)))
      obtain ⟨Aa, ca, rfl⟩ := Kd.R_slice HA.out.1
      obtain ⟨Ab, cb, rfl⟩ := Kd.R_slice hRb
      have hra := Kd.R_reads' HA.out.1
      have hrb := Kd.R_reads' hRb
      obtain ⟨ks, hks⟩ := (same_ev ga (by have := hra.2.2.2.1; omega)).rounds
      have HS := Aside0.mk (postmarkref02_Same.calls ks Aa ca ga Ab cb ga true w7 hra.2.2 hra.2.1 hrb.2.2 hrb.2.1 hks)
      clear hra hrb hks hRb hBb HK2
      go_wp2_with fail
      refine HS.out.mono ?_
      rintro e w8 ⟨rfl, ⟨⟨nd, rfl⟩⟩⟩
      have hbp := C_own7 HP.out.2 rfl
      have hz := HB5.out.size
      have h57 : Below w5.heap.size w5 (w7.drewN nd) := pw_below_drewN HA.out.2 nd
      have HK3 := Aside0.mk (kept6_one gp l0.length cp l0 A0 c0 (w7.drewN nd) _ w5.heap.size (.slice Aa ga.length ca) ga rfl HL.out.1.len HP.out.1 HC.out.1 (Kd.R_below HP.out.2 h57) (HX.out _ (pw_below_drewN HB7.out nd)) (Kd.R_drewN HA.out.1 nd) (hbp.2.2.2) (fun ad e hn => Nat.lt_of_lt_of_le (HZ.out.1 ad e hn) hz))
      have H57 := Aside0.mk h57
      clear hbp hz h57 HS
      go_wp2_with fail
      refine HK3.out.mono ?_
      rintro e w9 ⟨rfl, hb9, hz9⟩
      have h59 : Below w5.heap.size w5 w9 := (H57.out.alloc H57.out.size _).trans hb9
      have HB9 := Aside0.mk (HB5.out.trans (h59.mono HB5.out.size))
      have HK4 := Aside0.mk (kept6_none gq l1.length cq l1 A1 c1 w9 _ rfl HL.out.2.len HQ.out.1 HC.out.2 (Kd.R_below HQ.out.2 h59) (HY.out _ HB9.out) w.heap.size)
      clear hb9 hz9 h59 HK3
      go_wp2_with fail
      refine HK4.out.mono ?_
      rintro e w10 ⟨rfl, hb10, hz10⟩
      have HB10 := Aside0.mk (HB9.out.trans hb10)
      clear hb10 hz10 HK4
      go_wp2_with fail
      go_ret
      exact ⟨rfl, HB10.out⟩
end Go.Proofs.Ytlifengbicpppaa.G
end
section
/- The law RatioDivides, walked. -/
namespace Go.Proofs.Ytlifengbicpppaa.G
open Go.RowKit Go.Proofs.YtlifengbicpppaaW.PrintWords Go.Proofs.YtlifengbicpppaaW.PrintLast Go.Proofs.YtlifengbicpppaaW.PrintMore
open Go.Proofs.Ytlifengbicpppaa.Num

set_option maxHeartbeats 1000000 in
/-- Two lists of limbs that are the same. -/
theorem same_call (w : World) (A0 : Option Addr) (c0 : Nat) (A1 : Option Addr) (c1 : Nat) (l : List Int) (h0 : Kd.C (Kd.int .u32) w A0 l.length l) (hc0 : l.length ≤ c0) (h1 : Kd.C (Kd.int .u32) w A1 l.length l) (hc1 : l.length ≤ c1) :
    Calls Try.prog 34 #[.slice A0 l.length c0, .slice A1 l.length c1] w fun e w' => e = .returned (.bool true) ∧ ∃ n, w' = w.drewN n := by
  obtain ⟨ks, hks⟩ := (same_ev l h0.2.1).rounds
  refine (postmarkref02_Same.calls ks A0 c0 l A1 c1 l true w h0 hc0 h1 hc1 hks).mono ?_
  rintro e w' ⟨rfl, ⟨h⟩⟩
  exact ⟨rfl, h⟩
theorem three_KV {b0 : Nat} {w : World} {u v r : Value} {xs ys zs : List Int} (hu : Kd.R (Kd.int .u32) 75 w b0 (fun k => some k ≠ v.ownBlock) u xs) (hv : Kd.R (Kd.int .u32) 75 w b0 (fun k => some k ≠ u.ownBlock) v ys) (hr : Kd.R (Kd.int .u32) 75 w b0 (fun k => some k ≠ u.ownBlock ∧ some k ≠ v.ownBlock) r zs) : KV b0 [u, v, r] w := by
  refine ⟨fun i a h => ?_, fun i j a b h h' hne k hk hk' => ?_⟩
  · match i with
    | 0 => cases h; exact ⟨xs, Kd.R_mono hu (fun _ _ => trivial)⟩
    | 1 => cases h; exact ⟨ys, Kd.R_mono hv (fun _ _ => trivial)⟩
    | 2 => cases h; exact ⟨zs, Kd.R_mono hr (fun _ _ => trivial)⟩
    | i + 3 => simp at h
  · match i, j with
    | 0, 0 => exact hne rfl
    | 1, 1 => exact hne rfl
    | 2, 2 => exact hne rfl
    | 0, 1 => cases h; cases h'; exact hu.1 k hk hk'.symm
    | 1, 0 => cases h; cases h'; exact hv.1 k hk hk'.symm
    | 0, 2 => cases h; cases h'; exact (hr.1 k hk').1 hk.symm
    | 2, 0 => cases h; cases h'; exact (hr.1 k hk).1 hk'.symm
    | 1, 2 => cases h; cases h'; exact (hr.1 k hk').2 hk.symm
    | 2, 1 => cases h; cases h'; exact (hr.1 k hk).2 hk'.symm
    | i + 3, _ => simp at h
    | 0, j + 3 => simp at h'
    | 1, j + 3 => simp at h'
    | 2, j + 3 => simp at h'

set_option maxHeartbeats 4000000 in
set_option maxRecDepth 100000 in
theorem ratioDivides_walk (A0 : Option Addr) (c0 : Nat) (l0 : List Int) (A1 : Option Addr) (c1 : Nat) (l1 : List Int) (w : World) (hr0 : Kd.C (Kd.int .u32) w A0 l0.length l0) (hc0 : l0.length ≤ c0) (hr1 : Kd.C (Kd.int .u32) w A1 l1.length l1) (hc1 : l1.length ≤ c1) (d0 : Dg 4294967296 l0) (d1 : Dg 4294967296 l1) :
    Calls Try.prog 7 #[.slice A0 l0.length c0, .slice A1 l1.length c1] w fun e w' => e = .returned (.bool true) ∧ Below w.heap.size w w' := by
  have HX := Aside0.mk (fun W (h : Below w.heap.size w W) => Kd.C_below hr0 h)
  have HY := Aside0.mk (fun W (h : Below w.heap.size w W) => Kd.C_below hr1 h)
  have HC := Aside0.mk (And.intro hc0 hc1)
  have HG := Aside0.mk (fun m W (h : Below w.heap.size w W) => great6_two m W A0 c0 l0 A1 c1 l1 (Kd.C_below hr0 h) hc0 (Kd.C_below hr1 h) hc1)
  have HD := Aside0.mk (And.intro d0 d1)
  have HZ := Aside0.mk (And.intro (C_lt hr0) (C_lt hr1))
  clear hr0 hr1 hc0 hc1 d0 d1
  have HB := Aside0.mk (Below.refl w.heap.size w)
  cases hg : (decide ((270 : Int) < l0.length) || decide ((270 : Int) < l1.length)) with
  | true =>
    have HG1 := Aside0.mk (HG.out 270 w HB.out)
    rw [hg] at HG1
    clear hg
    go_enter Try.func7, Try.ntmps7
    go_wp2_with fail
    refine HG1.out.mono ?_
    rintro e w1 ⟨rfl, n, rfl⟩
    go_wp2_with fail
    go_ret
    exact ⟨rfl, pw_below_drewN ((Below.refl _ _).alloc (Nat.le_refl _) _) n⟩
  | false =>
    have HG1 := Aside0.mk (HG.out 270 w HB.out)
    rw [hg] at HG1
    simp only [Bool.or_eq_false_iff, decide_eq_false_iff_not] at hg
    have hL0 : Lb l0 := ⟨HD.out.1, by omega⟩
    have hL1 : Lb l1 := ⟨HD.out.2, by omega⟩
    have HL := Aside0.mk (And.intro hL0 hL1)
    clear hg hL0 hL1 HG
    go_enter Try.func7, Try.ntmps7
    go_wp2_with fail
    refine HG1.out.mono ?_
    rintro e w1 ⟨rfl, n, rfl⟩
    have HB3 := Aside0.mk (pw_below_drewN ((Below.refl _ w).alloc (Nat.le_refl _) (.cells #[.slice A0 l0.length c0, .slice A1 l1.length c1] 46)) n)
    obtain ⟨w3, hw3⟩ : ∃ W, (w.alloc (.cells #[.slice A0 l0.length c0, .slice A1 l1.length c1] 46)).drewN n = W := ⟨_, rfl⟩
    rw [hw3] at HB3 ⊢
    clear hw3 HG1
    go_wp2_with fail
    refine (twin6_any A0 c0 l0 w3 (HX.out w3 HB3.out) HL.out.1.len).mono ?_
    rintro e w4 ⟨gp, cp, rfl, hcp, hRp, hBp⟩
    have HB4 := Aside0.mk (HB3.out.trans (hBp.mono HB3.out.size))
    have HP := Aside0.mk (And.intro hcp hRp)
    clear hcp hRp hBp
    go_wp2_with fail
    refine (twin6_any A1 c1 l1 w4 (HY.out w4 HB4.out) HL.out.2.len).mono ?_
    rintro e w5 ⟨gq, cq, rfl, hcq, hRq, hBq⟩
    have HB5 := Aside0.mk (HB4.out.trans (hBq.mono HB4.out.size))
    have HP := Aside0.mk (And.intro HP.out.1 (Kd.R_below HP.out.2 hBq))
    have HQ := Aside0.mk (And.intro hcq hRq)
    obtain ⟨k1, hk1⟩ := (div_ev l0 l1 HL.out.1 HL.out.2).rounds
    obtain ⟨k2, hk2⟩ := (refdiv_ev l0 l1 HL.out.1 HL.out.2).rounds
    obtain ⟨k3, hk3⟩ := (mod_ev l0 l1 HL.out.1 HL.out.2).rounds
    generalize DIV l0 l1 = G at *
    obtain ⟨ga, gb, ge⟩ := G
    have HCp := Aside0.mk (fun W (h : Below w5.heap.size w5 W) => Kd.C_below (C_own7 HP.out.2 rfl).2.1 h)
    have HCq := Aside0.mk (fun W (h : Below w5.heap.size w5 W) => Kd.C_below (C_own7 HQ.out.2 rfl).2.1 h)
    have HK1 := Aside0.mk (ratio_Div.calls k1 (some ⟨gp, 0, none⟩) cp l0 (some ⟨gq, 0, none⟩) cq l1 ga gb ge w5 (HCp.out _ (Below.refl _ _)) (by have := HP.out.1; omega) (HCq.out _ (Below.refl _ _)) (by have := HQ.out.1; omega) hk1)
    have HK2 := Aside0.mk (fun W (h : Below w.heap.size w W) => postmarkref06_Div.calls k2 A0 c0 l0 A1 c1 l1 ga gb ge W (HX.out W h) HC.out.1 (HY.out W h) HC.out.2 hk2)
    have HK3 := Aside0.mk (fun W (h : Below w5.heap.size w5 W) => ratio_Mod.calls k3 (some ⟨gp, 0, none⟩) cp l0 (some ⟨gq, 0, none⟩) cq l1 gb ge W (HCp.out _ h) (by have := HP.out.1; omega) (HCq.out _ h) (by have := HQ.out.1; omega) hk3)
    clear hcq hRq hBq hk1 hk2 hk3
    go_wp2_with fail
    refine HK1.out.mono ?_
    rintro e w6 ⟨va, vb, rfl, hRa, hRb, hBa⟩
    have HB6 := Aside0.mk (HB5.out.trans (hBa.mono HB5.out.size))
    have HA := Aside0.mk (And.intro hRa (And.intro hRb hBa))
    clear hRa hRb hBa HK1
    go_wp2_with fail
    refine (HK2.out w6 HB6.out).mono ?_
    rintro e w7 ⟨vc, vd, rfl, hRc, hRd, hBb⟩
    have HB7 := Aside0.mk (HB6.out.trans (hBb.mono HB6.out.size))
    have HA := Aside0.mk (And.intro (Kd.R_below HA.out.1 hBb) (And.intro (Kd.R_below HA.out.2.1 hBb) (HA.out.2.2.trans (hBb.mono HA.out.2.2.size))))
    have HR := Aside0.mk (And.intro hRc hRd)
    clear hRc hRd hBb HK2
    go_wp2_with fail
    refine (HK3.out w7 HA.out.2.2).mono ?_
    rintro e w8 ⟨vr, rfl, hRr, hBr⟩
    have HB8 := Aside0.mk (HB7.out.trans (hBr.mono HB7.out.size))
    have h78 := HA.out.2.2.size
    have hRr' := Kd.R_mono (Kd.R_lower (Kd.R_bound hRr) h78) (ok' := fun k => some k ≠ va.ownBlock ∧ some k ≠ vb.ownBlock) (fun k hk => by
      have h1 := (Kd.R_bound HA.out.1).1
      have h2 := (Kd.R_bound HA.out.2.1).1
      exact ⟨fun e => by have := (h1 k e.symm).2.2.1; have := hk.2.1; omega, fun e => by have := (h2 k e.symm).2.2.1; have := hk.2.1; omega⟩)
    have HA := Aside0.mk (And.intro (Kd.R_below HA.out.1 hBr) (And.intro (Kd.R_below HA.out.2.1 hBr) (And.intro hRr' (HA.out.2.2.trans (hBr.mono HA.out.2.2.size)))))
    have HR := Aside0.mk (And.intro (Kd.R_below HR.out.1 hBr) (Kd.R_below HR.out.2 hBr))
    clear hRr hBr hRr' HK3 h78
    obtain ⟨Aa, ca, rfl⟩ := Kd.R_slice HA.out.1
    obtain ⟨Ab, cb, rfl⟩ := Kd.R_slice HA.out.2.1
    obtain ⟨Ar, cr, rfl⟩ := Kd.R_slice HA.out.2.2.1
    obtain ⟨Ac, cc, rfl⟩ := Kd.R_slice HR.out.1
    obtain ⟨Ad, cd, rfl⟩ := Kd.R_slice HR.out.2
    have HC5 := Aside0.mk (And.intro (Kd.R_reads' HA.out.1).2 (And.intro (Kd.R_reads' HA.out.2.1).2 (And.intro (Kd.R_reads' HA.out.2.2.1).2 (And.intro (Kd.R_reads' HR.out.1).2 (Kd.R_reads' HR.out.2).2))))
    have HS1 := Aside0.mk (fun n => same_call (w8.drewN n) Aa ca Ac cc ga (Kd.C_drewN HC5.out.1.2 n) HC5.out.1.1 (Kd.C_drewN HC5.out.2.2.2.1.2 n) HC5.out.2.2.2.1.1)
    have HS2 := Aside0.mk (fun n => same_call (w8.drewN n) Ab cb Ad cd gb (Kd.C_drewN HC5.out.2.1.2 n) HC5.out.2.1.1 (Kd.C_drewN HC5.out.2.2.2.2.2 n) HC5.out.2.2.2.2.1)
    have HS3 := Aside0.mk (fun n => same_call (w8.drewN n) Ar cr Ad cd gb (Kd.C_drewN HC5.out.2.2.1.2 n) HC5.out.2.2.1.1 (Kd.C_drewN HC5.out.2.2.2.2.2 n) HC5.out.2.2.2.2.1)
    go_wp2_with fail
    refine (HS1.out 0).mono ?_
    rintro e w9 ⟨rfl, n1, rfl⟩
    rw [World.drewN_drewN, Nat.zero_add]
    go_wp2_with fail
    refine (HS2.out _).mono ?_
    rintro e w9 ⟨rfl, n2, rfl⟩
    rw [World.drewN_drewN]
    go_wp2_with fail
    refine (HS3.out _).mono ?_
    rintro e w9 ⟨rfl, n3, rfl⟩
    rw [World.drewN_drewN]
    obtain ⟨nd, hnd⟩ : ∃ n, n = n1 + n2 + n3 := ⟨_, rfl⟩
    rw [← hnd]
    clear hnd
    have h58 := pw_below_drewN HA.out.2.2.2 nd
    have hbp := C_own7 HP.out.2 rfl
    have hz := HB5.out.size
    have HK4 := Aside0.mk (kept6_list gp l0.length cp l0 A0 c0 (w8.drewN nd) _ w5.heap.size [.slice Aa ga.length ca, .slice Ab gb.length cb, .slice Ar gb.length cr] rfl HL.out.1.len HP.out.1 HC.out.1 (Kd.R_below HP.out.2 h58) (HX.out _ (pw_below_drewN HB8.out nd))
      (three_KV (Kd.R_drewN HA.out.1 nd) (Kd.R_drewN HA.out.2.1 nd) (Kd.R_drewN HA.out.2.2.1 nd)) (by simp) hbp.2.2.2 (fun ad e hn => Nat.lt_of_lt_of_le (HZ.out.1 ad e hn) hz))
    have H58 := Aside0.mk h58
    clear hbp hz h58 HS1 HS2 HS3
    go_wp2_with fail
    refine HK4.out.mono ?_
    rintro e w9 ⟨rfl, hb9, hz9⟩
    have h59 : Below w5.heap.size w5 w9 := (H58.out.alloc H58.out.size _).trans hb9
    have HB9 := Aside0.mk (HB5.out.trans (h59.mono HB5.out.size))
    have HK5 := Aside0.mk (kept6_none gq l1.length cq l1 A1 c1 w9 _ rfl HL.out.2.len HQ.out.1 HC.out.2 (Kd.R_below HQ.out.2 h59) (HY.out _ HB9.out) w.heap.size)
    clear hb9 hz9 h59 HK4
    go_wp2_with fail
    refine HK5.out.mono ?_
    rintro e w10 ⟨rfl, hb10, hz10⟩
    have HB10 := Aside0.mk (HB9.out.trans hb10)
    clear hb10 hz10 HK5
    go_wp2_with fail
    go_ret
    exact ⟨rfl, HB10.out⟩
end Go.Proofs.Ytlifengbicpppaa.G
end
