/- Part 5 of the texts for the claim RatioRests: Go functions of the program and of the document's answers, each with a proof that its calls come to a Lean function's answers, and plain laws about these. Joined by wip/merge.py of the claimant's repo out of its texts and of what the kit's print wrote for this claim. -/
import Derived.Test.YtlifengbicpppaaRest2
import Derived.Test.YtlifengbicpppaaRest4
import Derived.Test.YtlifengbicpppaaRest3
set_option linter.unusedVariables false
set_option linter.unusedSimpArgs false
section
namespace Go.Proofs.Ytlifengbicpppaa.G
open Go.RowKit Go.Shelf Go.Proofs.YtlifengbicpppaaW.PrintWords Go.Proofs.YtlifengbicpppaaW.PrintLast Go.Proofs.YtlifengbicpppaaW.PrintMore
open Go.Proofs.Ytlifengbicpppaa.Num
attribute [local go_sem] Oper.semAt_some
def cmpI (a b : Int) : Int := if a < b then -1 else if a > b then 1 else 0
theorem cmp_int_eval (a b : Int) : cmp_Compare_int.f a b = some (cmpI a b) := by
  simp only [cmp_Compare_int.f, cmp_isNaN_int.f, Option.bind_some, bne_self_eq_false, Bool.false_eq_true, if_false, cmpI]
  split
  · rfl
  · split <;> rfl
theorem cmp_u32_eval (a b : Int) : cmp_Compare_uint32.f a b = some (cmpI a b) := by
  simp only [cmp_Compare_uint32.f, cmp_isNaN_uint32.f, Option.bind_some, bne_self_eq_false, Bool.false_eq_true, if_false, cmpI]
  split
  · rfl
  · split <;> rfl
/-- The last place that differs tells. -/
def cmpf (zs : List (Nat × Int × Int)) : Int := zs.foldl (fun out z => if z.2.1 = z.2.2 then out else cmpI z.2.1 z.2.2) 0
theorem cmpf_snoc (zs : List (Nat × Int × Int)) (z : Nat × Int × Int) : cmpf (zs ++ [z]) = if z.2.1 = z.2.2 then cmpf zs else cmpI z.2.1 z.2.2 := by simp [cmpf]
def natCmpL (xs ys : List Int) : Int := if xs.length ≠ ys.length then cmpI xs.length ys.length else cmpf (bes xs ys xs.length)
def nat_Cmp.f (l0 l1 : List Int) : Option Int := some (natCmpL (strip l0) (strip l1))
set_option maxHeartbeats 4000000 in
set_option maxRecDepth 100000 in
theorem nat_Cmp.calls (A0 : Option Addr) (c0 : Nat) (l0 : List Int) (A1 : Option Addr) (c1 : Nat) (l1 : List Int) (r : Int) (w : World) (hr0 : Kd.C (Kd.int .u32) w A0 l0.length l0) (hc0 : l0.length ≤ c0) (hr1 : Kd.C (Kd.int .u32) w A1 l1.length l1) (hc1 : l1.length ≤ c1) (h : nat_Cmp.f l0 l1 = some r) :
    Calls Try.prog 68 #[.slice A0 l0.length c0, .slice A1 l1.length c1] w fun e w' => e = .returned (.int .i64 r) ∧ Below w.heap.size w w' := by
  obtain rfl := Option.some.inj h
  clear h
  have HX := Aside0.mk (fun W (h : Below w.heap.size w W) => bare_read A0 c0 l0 W (Kd.C_below hr0 h) hc0)
  have HY := Aside0.mk (fun W (h : Below w.heap.size w W) => bare_read A1 c1 l1 W (Kd.C_below hr1 h) hc1)
  clear hr0 hr1 hc0 hc1
  generalize strip l0 = xs at HX ⊢
  generalize strip l1 = ys at HY ⊢
  refine calls_marks Try.func68 rfl ?_
  simp only [Try.ntmps68, List.size_toArray, List.length_cons, List.length_nil, Nat.reduceAdd, Nat.reduceSub, Array.replicate_succ, Array.replicate_zero, List.push_toArray, List.append_toArray, List.nil_append, List.cons_append]
  by_cases hne : xs.length = ys.length
  · have hr : natCmpL xs ys = cmpf (bes xs ys xs.length) := by unfold natCmpL; rw [if_neg (by simpa using hne)]
    rw [hr]
    clear hr
    have hb : ((xs.length : Int) != (ys.length : Int)) = false := by simp; omega
    have HNE := Aside0.mk hne
    clear hne
    go_wp2
    go_step3
    go_wp2_with fail
    refine (HX.out _ ((Below.refl _ _).alloc (Nat.le_refl _) _)).mono ?_
    rintro e w1 ⟨A, c, rfl, hl1, hC1, hb1⟩
    have HC1 := Aside0.mk hC1
    have HL1 := Aside0.mk hl1
    have HB1 := Aside0.mk (((Below.refl _ w).alloc (Nat.le_refl _) _).trans (hb1.mono (by simp)))
    have hc1 := (hb1.cell (p := ⟨w.heap.size, 0, none⟩) (by simp)).trans (Boxed.new w 46 (.slice A0 l0.length c0)).cell
    have hf1 := (hb1.frozen (p := ⟨w.heap.size, 0, none⟩) (by simp)).trans (Boxed.new w 46 (.slice A0 l0.length c0)).frozen
    have bx1 : Boxed w1 w.heap.size 46 (.slice A0 l0.length c0) := (hb1.block _ (by simp)).trans (Boxed.new w 46 (.slice A0 l0.length c0))
    have hz1 : w.heap.size + 1 ≤ w1.heap.size := by have := hb1.size; simpa using this
    clear hb1 HX hl1 hC1
    go_wp2_with fail
    refine (HY.out _ HB1.out).mono ?_
    rintro e w2 ⟨A', c', rfl, hl2, hC2, hb2⟩
    have HC2 := Aside0.mk hC2
    have HL2 := Aside0.mk hl2
    have HB2 := Aside0.mk (HB1.out.trans (hb2.mono (by omega)))
    have bx2 : Boxed w2 w.heap.size 46 (.slice A0 l0.length c0) := (hb2.block _ (by omega)).trans bx1
    have HC3 := Aside0.mk (C_set (Kd.C_below HC1.out hb2) (C_ne (Kd.C_below HC1.out hb2) bx2 (fun _ h => by cases h)) (.slice A xs.length c))
    have HC4 := Aside0.mk (C_set HC2.out (C_ne HC2.out bx2 (fun _ h => by cases h)) (.slice A xs.length c))
    have hc2 := bx2.cell
    have hf2 := bx2.frozen
    have bx3 := bx2.set (.slice A xs.length c)
    have HZ2 := Aside0.mk bx2.lt
    clear hb2 HY hc1 hf1 HB1 hl2 hC2 HC1 HC2 bx1 bx2
    go_wp2
    have HB3 := Aside0.mk (HB2.out.setCell (p := ⟨w.heap.size, 0, none⟩) (Nat.le_refl _) (.slice A xs.length c))
    generalize hW : w2.setCell { block := w.heap.size, off := 0, spot := none } (Value.slice A xs.length c) = W at *
    clear hc2 hf2 HB2
    have hsz : w2.heap.size = W.heap.size := by rw [← hW]; simp
    clear hW
    rw [hsz]
    rw [hsz] at HZ2
    clear hsz
    go_step3
    have hcx : ∀ o, (W.alloc o).cell? ⟨w.heap.size, 0, none⟩ = some (.slice A xs.length c) := fun o => (bx3.alloc o).cell
    go_wp2_with (go_at_call 112; refine (beside_any _ _ _ _ _ _ _).mono ?_; rintro e w3 ⟨rfl, rfl⟩)
    have bO := Boxed.new W 3 (.int .i64 0)
    have h3 : ((((W.alloc (.cells #[.int .i64 0] 3)).alloc (.cells #[.slice A xs.length c] 46)).alloc (.cells #[.slice A' ys.length c'] 46))).heap.size = W.heap.size + 3 := by simp
    have hBa : Below W.heap.size W (((W.alloc (.cells #[.int .i64 0] 3)).alloc (.cells #[.slice A xs.length c] 46)).alloc (.cells #[.slice A' ys.length c'] 46)) := (((Below.refl _ W).alloc (Nat.le_refl _) _).alloc (by simp) _).alloc (by simp; omega) _
    have b1 : Boxed (((W.alloc (.cells #[.int .i64 0] 3)).alloc (.cells #[.slice A xs.length c] 46)).alloc (.cells #[.slice A' ys.length c'] 46)) (W.heap.size + 1) 46 (.slice A xs.length c) := by
      have := (Boxed.new (W.alloc (.cells #[.int .i64 0] 3)) 46 (.slice A xs.length c)).alloc (.cells #[.slice A' ys.length c'] 46)
      simpa using this
    have b2 : Boxed (((W.alloc (.cells #[.int .i64 0] 3)).alloc (.cells #[.slice A xs.length c] 46)).alloc (.cells #[.slice A' ys.length c'] 46)) (W.heap.size + 1 + 1) 46 (.slice A' ys.length c') := by
      have := Boxed.new ((W.alloc (.cells #[.int .i64 0] 3)).alloc (.cells #[.slice A xs.length c] 46)) 46 (.slice A' ys.length c')
      simpa using this
    refine wp_rangeFunc_box (gf := 135) (lb := #[.pointer (some ⟨W.heap.size + 1, 0, none⟩), .pointer (some ⟨W.heap.size + 1 + 1, 0, none⟩)]) rfl (enters_of Try.func135 (by kernel_rfl) rfl)
      (beside_stops Fence.wide 2 trivial rfl (by decide) (W.heap.size + 1) W.heap.size A A' c c' xs ys (C_lt HC3.out) (C_lt HC4.out) _ (by simp) (by simp; omega) b1 b2 (Kd.C_below HC3.out hBa) (Kd.C_below HC4.out hBa))
      KpB.trans (KpB_b (by simp; omega) (by simp)) (Below.refl _ _) (fun _ => rfl)
      (fun pre V => Boxed V W.heap.size 3 (.int .i64 (cmpf pre)) ∧ Below W.heap.size W V ∧ W.heap.size + 3 ≤ V.heap.size)
      (fun cd pre V => cd = .exit 0 ∧ (∃ p x, pre = p ++ [x] ∧ (x.1 : Int) = (xs.length : Int) - 1) ∧ Boxed V W.heap.size 3 (.int .i64 (cmpf pre)) ∧ Below W.heap.size W V)
      ?hI ?hIx ?hIs ?hKa ⟨(bO.alloc _).alloc _, hBa, by rw [h3]; exact Nat.le_refl _⟩ (fun x => #[.int .u32 x.2.1, .int .u32 x.2.2]) 132
      (fun x Bp t => (((t.setIfInBounds 25 (.int .i64 (x.1 : Int))).setIfInBounds 26 (.agg #[.int .u32 x.2.1, .int .u32 x.2.2])).setIfInBounds 6 (.int .i64 (x.1 : Int))).setIfInBounds 7 (.pointer (some ⟨Bp, 0, none⟩)))
      ?assign ?body ?done ?stop
    case hI => exact OwnFrom.and (Own.from (boxed_own _ _ _) _) (OwnFrom.and (ownFrom_below (Nat.le_refl _) (by simp; omega)) (fun _ _ _ _ hs hg _ => Nat.le_trans hs hg.size))
    case hIx => exact fun cd => OwnFrom.and (ownFrom_pure _ _) (OwnFrom.and (ownFrom_pure _ _) (OwnFrom.and (Own.from (boxed_own _ _ _) _) (ownFrom_below (Nat.le_refl _) (by simp; omega))))
    case hIs => intro pre V hV; rw [h3]; exact hV.2.2
    case hKa => intro V o hs; rw [h3] at hs; exact ⟨(Below.refl _ V).alloc (by omega) o, Below.heap_alloc V o _ (by omega), Below.heap_alloc V o _ (by omega)⟩
    case assign =>
      intro l x V K hK
      clear hBa b1 b2 h3 bO
      unfold encB
      gi_wp2
      exact hK
    case body =>
      rintro l pre x Bp V hBp hbox ⟨hO, hV, hz⟩ hlt
      rw [h3] at hBp
      clear hBa b1 b2 h3 bO
      have f0 : V.cell? ⟨Bp, 0, none⟩ = some (.int .u32 x.2.1) := by simp [World.cell?, hbox]
      have f1 : V.cell? ⟨Bp, 1, none⟩ = some (.int .u32 x.2.2) := by simp [World.cell?, hbox]
      have f2 := hO.cell
      have f3 := hO.frozen
      have f4 : V.cell? ⟨w.heap.size, 0, none⟩ = some (.slice A xs.length c) := (hV.cell (p := ⟨w.heap.size, 0, none⟩) HZ2.out).trans bx3.cell
      have f5 : ∀ n u, ((V.drewN n).setCell ⟨W.heap.size, 0, none⟩ u).cell? ⟨w.heap.size, 0, none⟩ = some (.slice A xs.length c) := fun n u => by
        rw [World.cell?_setCell_other _ _ _ _ (fun e => by have := HZ2.out; injection e with e; omega), World.cell?_drewN]
        exact f4
      have hxm : xs.length ≤ 9223372036854775807 := HC3.out.2.1
      obtain ⟨i, a, b⟩ := x
      dsimp only at *
      have hV' := Aside0.mk hV
      have hO' := Aside0.mk hO
      clear hbox hV hO
      by_cases hab : a = b
      · have e1 : (a != b) = false := by simp [hab]
        have HAB := Aside0.mk hab
        clear hab
        by_cases hi : (i : Int) = (xs.length : Int) - 1
        · have e2 : ((i : Int) == (xs.length : Int) - 1) = true := by simp [hi]
          have HI := Aside0.mk hi
          clear hi
          gi_wp2
          exact ⟨KeepsFrom.refl _ _, rfl, ⟨pre, _, rfl, HI.out⟩, by rw [cmpf_snoc, if_pos HAB.out]; exact hO'.out, hV'.out⟩
        · have e2 : ((i : Int) == (xs.length : Int) - 1) = false := by simp [hi]
          clear hi
          gi_wp2
          exact ⟨KeepsFrom.refl _ _, ⟨Below.refl _ _, rfl, rfl⟩, by rw [cmpf_snoc, if_pos HAB.out]; exact hO'.out, hV'.out, hz⟩
      · have e1 : (a != b) = true := by simp [hab]
        have HAB := Aside0.mk hab
        clear hab
        by_cases hi : (i : Int) = (xs.length : Int) - 1
        · have e2 : ((i : Int) == (xs.length : Int) - 1) = true := by simp [hi]
          have HI := Aside0.mk hi
          clear hi
          gi_wp2_with (refine ⟨trivial, ?_⟩; gi_at_call 113; refine (round_call l (cmp_Compare_uint32.calls _ _ _ _ (cmp_u32_eval _ _))).mono ?_; rintro e w3 ⟨rfl, n3, rfl⟩)
          exact ⟨(set_keeps V n3 _ _).from _, rfl, ⟨pre, _, rfl, HI.out⟩, by rw [cmpf_snoc, if_neg HAB.out]; exact Boxed.set (W := V.drewN n3) _ hO'.out, hV'.out.trans (set_below V n3 (p := ⟨W.heap.size, 0, none⟩) (Nat.le_refl _) _)⟩
        · have e2 : ((i : Int) == (xs.length : Int) - 1) = false := by simp [hi]
          clear hi
          gi_wp2_with (refine ⟨trivial, ?_⟩; gi_at_call 113; refine (round_call l (cmp_Compare_uint32.calls _ _ _ _ (cmp_u32_eval _ _))).mono ?_; rintro e w3 ⟨rfl, n3, rfl⟩)
          exact ⟨(set_keeps V n3 _ _).from _, ⟨set_below V n3 (p := ⟨W.heap.size, 0, none⟩) (Nat.le_refl _) _, set_heap V n3 (p := ⟨W.heap.size, 0, none⟩) _ (by show _ ≠ W.heap.size; omega), set_heap V n3 (p := ⟨W.heap.size, 0, none⟩) _ (by show _ ≠ W.heap.size; omega)⟩, by rw [cmpf_snoc, if_neg HAB.out]; exact Boxed.set (W := V.drewN n3) _ hO'.out, hV'.out.trans (set_below V n3 (p := ⟨W.heap.size, 0, none⟩) (Nat.le_refl _) _), by simpa using hz⟩
    case done =>
      rintro D zs V hD rfl ⟨hO, hV, hz⟩ hK
      have f1 := hO.cell
      rw [h3] at hD
      have hm : max xs.length ys.length = xs.length := by have := HNE.out; omega
      go_wp2
      rw [Exit.noGoto_ret]
      refine post_mark hK (results_tmp rfl _ _ _) ⟨?_, below_mark (HB3.out.trans (hV.mono (Nat.le_of_lt HZ2.out))) (by have := HZ2.out; omega) hK⟩
      rw [← hm]
      rfl
    case stop =>
      rintro D cd pre V hD ⟨k, hk, rfl⟩ ⟨rfl, ⟨p, x, hp, hx⟩, hO, hV⟩ hK
      have f1 := hO.cell
      rw [h3] at hD
      have hk : bes xs ys k = bes xs ys xs.length := by
        cases k with
        | zero => simp [bes] at hp
        | succ m =>
          rw [bes_succ] at hp
          have hp2 := List.append_inj_right' hp rfl
          simp at hp2
          have hx2 : ((m : Nat) : Int) = (xs.length : Int) - 1 := by rw [← hx, ← hp2]; rfl
          rw [show m + 1 = xs.length by omega]
      have HK := Aside0.mk (show cmpf (p ++ [x]) = cmpf (bes xs ys xs.length) by rw [← hp, hk])
      rw [hp] at f1
      clear hk hp
      go_wp2
      rw [Exit.noGoto_ret]
      refine post_mark hK (results_tmp rfl _ _ _) ⟨?_, below_mark (HB3.out.trans (hV.mono (Nat.le_of_lt HZ2.out))) (by have := HZ2.out; omega) hK⟩
      rw [← HK.out]
      rfl
  · have hr : natCmpL xs ys = cmpI xs.length ys.length := by unfold natCmpL; rw [if_pos hne]
    rw [hr]
    clear hr
    have hb : ((xs.length : Int) != (ys.length : Int)) = true := by simp; omega
    go_wp2
    go_step3
    go_wp2_with fail
    refine (HX.out _ ((Below.refl _ _).alloc (Nat.le_refl _) _)).mono ?_
    rintro e w1 ⟨A, c, rfl, _, _, hb1⟩
    have HB1 := Aside0.mk (((Below.refl _ w).alloc (Nat.le_refl _) _).trans (hb1.mono (by simp)))
    have hc1 := (hb1.cell (p := ⟨w.heap.size, 0, none⟩) (by simp)).trans (Boxed.new w 46 (.slice A0 l0.length c0)).cell
    have hf1 := (hb1.frozen (p := ⟨w.heap.size, 0, none⟩) (by simp)).trans (Boxed.new w 46 (.slice A0 l0.length c0)).frozen
    have hz1 : w.heap.size + 1 ≤ w1.heap.size := by have := hb1.size; simpa using this
    clear hb1 HX
    go_wp2_with fail
    refine (HY.out _ HB1.out).mono ?_
    rintro e w2 ⟨A', c', rfl, _, _, hb2⟩
    have HB2 := Aside0.mk (HB1.out.trans (hb2.mono (by omega)))
    have hc2 := (hb2.cell (p := ⟨w.heap.size, 0, none⟩) (by show w.heap.size < _; omega)).trans hc1
    have hf2 := (hb2.frozen (p := ⟨w.heap.size, 0, none⟩) (by show w.heap.size < _; omega)).trans hf1
    clear hb2 HY hc1 hf1 HB1
    go_wp2_with (go_at_call 111; refine (cmp_Compare_int.calls _ _ _ _ (cmp_int_eval _ _)).mono ?_; rintro e w3 ⟨rfl, n3, rfl⟩)
    rw [Exit.noGoto_ret]
    exact post_plain (results_tmp rfl _ _ _) ⟨rfl, pw_below_drewN (HB2.out.setCell (Nat.le_refl _) _) _⟩
end Go.Proofs.Ytlifengbicpppaa.G
end
section
namespace Go.Proofs.Ytlifengbicpppaa.G
open Go.RowKit Go.Shelf Go.Proofs.YtlifengbicpppaaW.PrintWords Go.Proofs.YtlifengbicpppaaW.PrintLast Go.Proofs.YtlifengbicpppaaW.PrintMore
open Go.Proofs.Ytlifengbicpppaa.Num
attribute [local go_sem] Oper.semAt_some
def subS (zs : List (Nat × Int × Int)) : List Int × Int := zs.foldl (fun s z => (s.1 ++ [(sb32 z.2.1 z.2.2 s.2).1], (sb32 z.2.1 z.2.2 s.2).2)) ([], 0)
theorem subS_snoc (zs : List (Nat × Int × Int)) (z : Nat × Int × Int) : subS (zs ++ [z]) = ((subS zs).1 ++ [(sb32 z.2.1 z.2.2 (subS zs).2).1], (sb32 z.2.1 z.2.2 (subS zs).2).2) := by simp [subS]
theorem subS_length (zs : List (Nat × Int × Int)) : (subS zs).1.length = zs.length := by
  suffices ∀ (zs : List (Nat × Int × Int)) (s : List Int × Int), (zs.foldl (fun s z => (s.1 ++ [(sb32 z.2.1 z.2.2 s.2).1], (sb32 z.2.1 z.2.2 s.2).2)) s).1.length = s.1.length + zs.length by simpa [subS] using this zs ([], 0)
  intro zs
  induction zs with
  | nil => simp
  | cons z zs ih => intro s; rw [List.foldl_cons, ih]; simp; omega
def subL (xs ys : List Int) : List Int := (subS (bes xs ys (max xs.length ys.length))).1
def nat_Sub.f (l0 l1 : List Int) : Option (List Int × Int) := if AnyFits [l0, l1] = true then some ([], 20) else if natCmpL (strip l0) (strip l1) < 0 then some ([], 20) else nat_checked.f (subL (strip l0) (strip l1))
set_option maxHeartbeats 4000000 in
set_option maxRecDepth 100000 in
theorem nat_Sub.calls (A0 : Option Addr) (c0 : Nat) (l0 : List Int) (A1 : Option Addr) (c1 : Nat) (l1 : List Int) (r1 : List Int) (r2 : Int) (w : World) (hr0 : Kd.C (Kd.int .u32) w A0 l0.length l0) (hc0 : l0.length ≤ c0) (hr1 : Kd.C (Kd.int .u32) w A1 l1.length l1) (hc1 : l1.length ≤ c1) (h : nat_Sub.f l0 l1 = some (r1, r2)) :
    Calls Try.prog 88 #[.slice A0 l0.length c0, .slice A1 l1.length c1] w fun e w' => ∃ v0_ : Value, e = .returned (.tuple #[v0_, .int .i64 r2]) ∧ Kd.R (Kd.int .u32) 75 w' w.heap.size (fun _ => True) v0_ r1 ∧ Below w.heap.size w w' := by
  have HM := Aside0.mk (nat_may.calls _ 2 [l0, l1] _ _ (C_two w hr0 hc0 hr1 hc1) (by simp) rfl)
  unfold nat_Sub.f at h
  refine calls_marks Try.func88 rfl ?_
  simp only [Try.ntmps88, List.size_toArray, List.length_cons, List.length_nil, Nat.reduceAdd, Nat.reduceSub, Array.replicate_succ, Array.replicate_zero, List.push_toArray, List.append_toArray, List.nil_append, List.cons_append]
  cases hm : AnyFits [l0, l1] with
  | true =>
    rw [hm] at HM
    rw [if_pos hm] at h
    cases h
    clear hm hr0 hr1 hc0 hc1
    go_wp2_with (go_at_call 109; refine HM.out.mono ?_; rintro e w1 ⟨rfl, hb⟩; have HB1 := Aside0.mk (((Below.refl _ w).alloc (Nat.le_refl _) _).trans (hb.mono (by simp))); clear hb HM)
    exact post_plain (results_tmp2 rfl _ _ _) ⟨_, rfl, Kd.R_nil _ _ _ _ _, HB1.out⟩
  | false =>
    rw [hm] at HM
    rw [if_neg (by simp [hm])] at h
    have HCM := Aside0.mk (fun W (h : Below w.heap.size w W) => nat_Cmp.calls A0 c0 l0 A1 c1 l1 _ W (Kd.C_below hr0 h) hc0 (Kd.C_below hr1 h) hc1 rfl)
    by_cases hcm : natCmpL (strip l0) (strip l1) < 0
    · rw [if_pos hcm] at h
      cases h
      have dcm : decide (natCmpL (strip l0) (strip l1) < 0) = true := decide_eq_true hcm
      clear hm hr0 hr1 hc0 hc1 hcm
      go_wp2_with (first
        | (go_at_call 109; refine HM.out.mono ?_; rintro e w1 ⟨rfl, hb⟩; have HB1 := Aside0.mk (((Below.refl _ w).alloc (Nat.le_refl _) _).trans (hb.mono (by simp))); clear hb HM)
        | (go_at_call 68; refine (HCM.out _ HB1.out).mono ?_; rintro e w2 ⟨rfl, hb⟩; have HB2 := Aside0.mk (below_then HB1.out HB1.out.size hb); clear hb))
      exact post_plain (results_tmp2 rfl _ _ _) ⟨_, rfl, Kd.R_nil _ _ _ _ _, HB2.out⟩
    rw [if_neg hcm] at h
    have dcm : decide (natCmpL (strip l0) (strip l1) < 0) = false := decide_eq_false hcm
    clear hcm
    have HX := Aside0.mk (fun W (h : Below w.heap.size w W) => And.intro (bare_exact A0 c0 l0 W (Kd.C_below hr0 h) hc0) (Kd.C_below hr0 h))
    have HY := Aside0.mk (fun W (h : Below w.heap.size w W) => And.intro (bare_exact A1 c1 l1 W (Kd.C_below hr1 h) hc1) (Kd.C_below hr1 h))
    have hlx : (strip l0).length ≤ 256 := by simp [AnyFits, fits256] at hm; omega
    have hly : (strip l1).length ≤ 256 := by simp [AnyFits, fits256] at hm; omega
    have HLX := Aside0.mk hlx
    have HLY := Aside0.mk hly
    have HH := Aside0.mk h
    clear hm hr0 hr1 hlx hly h
    go_wp2_with (first
      | (go_at_call 109; refine HM.out.mono ?_; rintro e w0 ⟨rfl, hb⟩; have HB0 := Aside0.mk (((Below.refl _ w).alloc (Nat.le_refl _) _).trans (hb.mono (by simp))); clear hb HM)
      | (go_at_call 68; refine (HCM.out _ HB0.out).mono ?_; rintro e w1 ⟨rfl, hb⟩; have HB1 := Aside0.mk (below_then HB0.out HB0.out.size hb); clear hb HB0)
      | fail)
    clear dcm
    have hs1 : w.heap.size ≤ w1.heap.size := HB1.out.size
    have hb2 : Below w.heap.size w ((w1.alloc (.cells #[.slice none 0 0] 46)).alloc (.cells #[.int .u32 0] 75)) := (HB1.out.alloc hs1 _).alloc (by simp; omega) _
    refine ((HX.out _ hb2).1).mono ?_
    rintro e w2 ⟨rfl, rfl⟩
    go_wp2_with fail
    refine ((HY.out _ hb2).1).mono ?_
    rintro e w2 ⟨rfl, rfl⟩
    have HC0 := Aside0.mk (C_strip (HX.out _ HB1.out).2)
    have HC1 := Aside0.mk (C_strip (HY.out _ HB1.out).2)
    clear hb2 HX HY hc0 hc1
    generalize strip l0 = xs at *
    generalize strip l1 = ys at *
    go_wp2_with (go_at_call 112; refine (beside_any _ _ _ _ _ _ _).mono ?_; rintro e w3 ⟨rfl, rfl⟩)
    have h4 : (((((w1.alloc (.cells #[.slice none 0 0] 46)).alloc (.cells #[.int .u32 0] 75)).alloc (.cells #[.slice A0 xs.length c0] 46)).alloc (.cells #[.slice A1 ys.length c1] 46))).heap.size = w1.heap.size + 4 := by simp
    have hBa : Below w1.heap.size w1 ((((w1.alloc (.cells #[.slice none 0 0] 46)).alloc (.cells #[.int .u32 0] 75)).alloc (.cells #[.slice A0 xs.length c0] 46)).alloc (.cells #[.slice A1 ys.length c1] 46)) := ((((Below.refl _ w1).alloc (Nat.le_refl _) _).alloc (by simp) _).alloc (by simp; omega) _).alloc (by simp; omega) _
    have b0 : Boxed ((((w1.alloc (.cells #[.slice none 0 0] 46)).alloc (.cells #[.int .u32 0] 75)).alloc (.cells #[.slice A0 xs.length c0] 46)).alloc (.cells #[.slice A1 ys.length c1] 46)) w1.heap.size 46 (.slice none 0 0) := (((Boxed.new w1 46 (.slice none 0 0)).alloc _).alloc _).alloc _
    have b1 : Boxed ((((w1.alloc (.cells #[.slice none 0 0] 46)).alloc (.cells #[.int .u32 0] 75)).alloc (.cells #[.slice A0 xs.length c0] 46)).alloc (.cells #[.slice A1 ys.length c1] 46)) (w1.heap.size + 1) 75 (.int .u32 0) := by
      have := ((Boxed.new (w1.alloc (.cells #[.slice none 0 0] 46)) 75 (.int .u32 0)).alloc (.cells #[.slice A0 xs.length c0] 46)).alloc (.cells #[.slice A1 ys.length c1] 46)
      simpa using this
    have b2 : Boxed ((((w1.alloc (.cells #[.slice none 0 0] 46)).alloc (.cells #[.int .u32 0] 75)).alloc (.cells #[.slice A0 xs.length c0] 46)).alloc (.cells #[.slice A1 ys.length c1] 46)) (w1.heap.size + 1 + 1) 46 (.slice A0 xs.length c0) := by
      have := (Boxed.new ((w1.alloc (.cells #[.slice none 0 0] 46)).alloc (.cells #[.int .u32 0] 75)) 46 (.slice A0 xs.length c0)).alloc (.cells #[.slice A1 ys.length c1] 46)
      simpa using this
    have b3 : Boxed ((((w1.alloc (.cells #[.slice none 0 0] 46)).alloc (.cells #[.int .u32 0] 75)).alloc (.cells #[.slice A0 xs.length c0] 46)).alloc (.cells #[.slice A1 ys.length c1] 46)) (w1.heap.size + 1 + 1 + 1) 46 (.slice A1 ys.length c1) := by
      have := Boxed.new (((w1.alloc (.cells #[.slice none 0 0] 46)).alloc (.cells #[.int .u32 0] 75)).alloc (.cells #[.slice A0 xs.length c0] 46)) 46 (.slice A1 ys.length c1)
      simpa using this
    refine wp_rangeFunc_box (gf := 135) (lb := #[.pointer (some ⟨w1.heap.size + 1 + 1, 0, none⟩), .pointer (some ⟨w1.heap.size + 1 + 1 + 1, 0, none⟩)]) rfl (enters_of Try.func135 (by kernel_rfl) rfl)
      (beside_stops Fence.wide 2 trivial rfl (by decide) (w1.heap.size + 1 + 1) w1.heap.size A0 A1 c0 c1 xs ys (C_lt HC0.out) (C_lt HC1.out) _ (by simp) (by simp; omega) b2 b3 (Kd.C_below HC0.out hBa) (Kd.C_below HC1.out hBa))
      KpB.trans (KpB_b (by simp; omega) (by simp)) (Below.refl _ _) (fun _ => rfl)
      (fun pre V => (∃ v, Boxed V w1.heap.size 46 v ∧ V.ownsRow (w1.heap.size + 4) 75 1 v (subS pre).1.length (nums .u32 (subS pre).1) ∧ True) ∧ Boxed V (w1.heap.size + 1) 75 (.int .u32 (subS pre).2) ∧ Below w1.heap.size w1 V ∧ w1.heap.size + 4 ≤ V.heap.size)
      (fun cd pre V => False)
      ?hI ?hIx ?hIs ?hKa ⟨⟨_, b0, own_nil _ _ _ _, trivial⟩, b1, hBa, by rw [h4]; exact Nat.le_refl _⟩ (fun x => #[.int .u32 x.2.1, .int .u32 x.2.2]) 132
      (fun x Bp t => ((t.setIfInBounds 28 (.int .i64 (x.1 : Int))).setIfInBounds 29 (.agg #[.int .u32 x.2.1, .int .u32 x.2.2])).setIfInBounds 9 (.pointer (some ⟨Bp, 0, none⟩)))
      ?assign ?body ?done ?stop
    case hI => exact OwnFrom.and (Own.from (holdsRow_own _ _ _ _ _ _ _ _) _) (OwnFrom.and (Own.from (boxed_own _ _ _) _) (OwnFrom.and (ownFrom_below (Nat.le_refl _) (by simp; omega)) (fun _ _ _ _ hs hg _ => Nat.le_trans hs hg.size)))
    case hIx => exact fun cd _ _ _ _ hs _ _ => hs
    case hIs => intro pre V hV; rw [h4]; exact hV.2.2.2
    case hKa => intro V o hs; rw [h4] at hs; exact ⟨(Below.refl _ V).alloc (by omega) o, Below.heap_alloc V o _ (by omega), Below.heap_alloc V o _ (by omega)⟩
    case assign =>
      intro l x V K hK
      clear hBa b0 b1 b2 b3 h4
      unfold encB
      gi_wp2
      exact hK
    case body =>
      rintro l pre x Bp V hBp hbox ⟨⟨v, hO, hrow, _⟩, hC, hV, hz⟩ hlt
      rw [h4] at hBp
      clear hBa b0 b1 b2 b3 h4
      have f0 : V.cell? ⟨Bp, 0, none⟩ = some (.int .u32 x.2.1) := by simp [World.cell?, hbox]
      have f1 : V.cell? ⟨Bp, 1, none⟩ = some (.int .u32 x.2.2) := by simp [World.cell?, hbox]
      have f2 := hC.cell
      have f3 := hO.cell
      obtain ⟨i, a, b⟩ := x
      dsimp only at *
      have hlen : (subS pre).1.length ≤ 256 := by rw [subS_length]; have := HLX.out; have := HLY.out; omega
      obtain ⟨i0, hi, hz0, hz1, hz2⟩ := info_parts info75
      have HS := Aside0.mk (subS_snoc pre (i, a, b))
      generalize subS pre = s at *
      obtain ⟨so, sc⟩ := s
      dsimp only at *
      obtain ⟨p, q, he⟩ : ∃ p q, sb32 a b sc = (p, q) := ⟨_, _, rfl⟩
      have HA := Aside0.mk (fun W => bits_Sub32_any a b sc p q W he)
      rw [he] at HS
      clear he
      clear hbox hlt
      gi_wp2_with (first
        | (refine ⟨trivial, ?_⟩; gi_at_call 127; refine (round_call l (HA.out _)).mono ?_; rintro e w3 ⟨rfl, rfl⟩)
        | (gi_at_builtin; refine wpListIn_append_own _ rfl _ _ 46 rfl (w1.heap.size + 4) 75 i0 (.int .u32 0) 1 4 Try.underlying46 hi hz0 hz1 hz2 rfl (by decide) _ _ _ rfl (hrow.alloc _) ⟨V.heap.size, 0, none⟩ 1 1 [.int .u32 p] rfl rfl (cell_one_new _ _ _) (by simp [Value.oneCell']) (by simp only [maxLen]; omega) (by omega) (by simp; omega) ?_; intro v' w4 hown' hgrow _; obtain ⟨g', cap', rfl⟩ := ownsRow_succ hown'; obtain ⟨k1, k2, k3, k4, k5, k6, k7, k8, k9⟩ := carry_appended (V := V) (n₀ := w1.heap.size) (.int .u32 q) hO hC (by omega) hrow (by omega) (by omega) hz (Nat.le_refl _) (by omega) hown' hgrow; have m1 := k1.cell; have m2 := k1.frozen; have m3 := k2.cell; have m4 := k2.frozen))
      refine ⟨k6.from _, ⟨k7, k8 _ (by omega) (by omega) (by omega), k8 _ (by omega) (by omega) (by omega)⟩, ⟨_, k3, ?_, trivial⟩, ?_, hV.trans k7, Nat.le_trans hz k9⟩
      · rw [HS.out]
        simpa [nums] using k5
      · rw [HS.out]
        exact k4
    case done =>
      rintro D zs V hD rfl ⟨⟨v, hO, hrow, _⟩, hC, hV, hz⟩ hK
      rw [h4] at hD
      clear hBa b0 b1 b2 b3 h4
      have f2 := hC.cell
      have f3 := hO.cell
      have hlen : (subS (bes xs ys (max xs.length ys.length))).1.length ≤ 256 := by rw [subS_length, bes_length]; have := HLX.out; have := HLY.out; omega
      have HL := Aside0.mk (show subL xs ys = (subS (bes xs ys (max xs.length ys.length))).1 from rfl)
      generalize subS (bes xs ys (max xs.length ys.length)) = s at *
      obtain ⟨so, sc⟩ := s
      dsimp only at *
      have hRR : Kd.R (Kd.int .u32) 75 V w.heap.size (fun _ => True) v so := Kd.R_lower (Kd.R_of_own hrow (fun _ _ => trivial)) (by omega)
      have hBB : Below w.heap.size w (V.putObj D (.deferred none)) := below_mark (HB1.out.trans (hV.mono hs1)) (by omega) hK
      obtain ⟨A, c, rfl⟩ := Kd.R_slice hRR
      have hrd := Kd.R_reads' hRR
      have HH := HH.out
      rw [HL.out] at HH
      unfold nat_checked.f at HH
      have HH := Option.some.inj HH
      have HK := Aside0.mk hK
      have HBB := Aside0.mk hBB
      by_cases hl : 256 < (strip so).length
      · rw [if_pos hl] at HH
        cases HH
        have HC := Aside0.mk (checked_big A c _ V hrd.2.2 hrd.2.1 hl)
        clear hBB hrd hl hRR hV hrow hO hK
        go_wp2_with (go_at_call 110; refine HC.out.mono ?_; rintro e w6 ⟨rfl, rfl⟩)
        exact post_mark HK.out (results_tmp2 rfl _ _ _) ⟨_, rfl, Kd.R_nil _ _ _ _ _, HBB.out⟩
      · rw [if_neg hl] at HH
        cases HH
        have HC := Aside0.mk (checked_fit A c _ V hrd.2.2 hrd.2.1 hl)
        have HRR := Aside0.mk (R_putObj (R_strip hRR) hK)
        clear hBB hrd hl hRR hV hrow hO hK
        go_wp2_with (go_at_call 110; refine HC.out.mono ?_; rintro e w6 ⟨rfl, rfl⟩)
        exact post_mark HK.out (results_tmp2 rfl _ _ _) ⟨_, rfl, HRR.out, HBB.out⟩
    case stop =>
      rintro D cd pre V _ _ h _
      exact h.elim
end Go.Proofs.Ytlifengbicpppaa.G
end
section
namespace Go.Proofs.Ytlifengbicpppaa.G
open Go.RowKit Go.Proofs.YtlifengbicpppaaW.PrintWords Go.Proofs.YtlifengbicpppaaW.PrintLast Go.Proofs.YtlifengbicpppaaW.PrintMore
open Go.Proofs.Ytlifengbicpppaa.Num
/-- A natural that a number is, or the error. -/
def CUT (n : Nat) : List Int × Int := if (digs 4294967296 n).length ≤ 256 then (digs 4294967296 n, 0) else ([], 20)
def ADD (x y : List Int) : List Int × Int := if (fits x && fits y) = true then CUT (val 4294967296 x + val 4294967296 y) else ([], 20)
def SUB (x y : List Int) : List Int × Int := if (fits x && fits y) = true then (if val 4294967296 y ≤ val 4294967296 x then CUT (val 4294967296 x - val 4294967296 y) else ([], 20)) else ([], 20)
def MUL (x y : List Int) : List Int × Int := if (fits x && fits y) = true then CUT (val 4294967296 x * val 4294967296 y) else ([], 20)
theorem checked_cut {l : List Int} (h : Dg 4294967296 l) : nat_checked.f l = some (CUT (val 4294967296 l)) := by
  unfold nat_checked.f CUT
  rw [digs_val (by decide) h]
  by_cases hl : (strip l).length ≤ 256
  · rw [if_pos hl, if_neg (by omega)]
  · rw [if_neg hl, if_pos (by omega)]
theorem anyfits (x y : List Int) : AnyFits [x, y] = !(fits x && fits y) := by
  unfold AnyFits fits
  simp only [List.any_cons, List.any_nil, Bool.or_false, fits256]
  by_cases h1 : (strip x).length ≤ 256 <;> by_cases h2 : (strip y).length ≤ 256 <;> simp [h1, h2] <;> omega
theorem val_take_succ (b : Nat) (l : List Int) (k : Nat) : val b (l.take (k + 1)) = val b (l.take k) + b ^ k * (rd l (k : Int)).toNat := by
  by_cases h : k < l.length
  · rw [take_snoc_int l k h, val_snoc, List.length_take, Nat.min_eq_left (by omega)]
  · rw [List.take_of_length_le (by omega), List.take_of_length_le (by omega)]
    have : rd l (k : Int) = 0 := by simp [rd, List.getD_eq_getElem?_getD, List.getElem?_eq_none (show l.length ≤ k by omega)]
    rw [this]; simp
theorem addS_val (xs ys : List Int) (hx : Dg 4294967296 xs) (hy : Dg 4294967296 ys) : ∀ k : Nat, Dg 4294967296 (addS (bes xs ys k)).1 ∧ 0 ≤ (addS (bes xs ys k)).2 ∧ (addS (bes xs ys k)).2 ≤ 1 ∧
    val 4294967296 (addS (bes xs ys k)).1 + 4294967296 ^ k * (addS (bes xs ys k)).2.toNat = val 4294967296 (xs.take k) + val 4294967296 (ys.take k)
  | 0 => by
    refine ⟨Dg.nil, Int.le_refl 0, (by decide : (0 : Int) ≤ 1), ?_⟩
    simp [bes, addS, val_nil]
  | k + 1 => by
    obtain ⟨h1, h2, h3, h4⟩ := addS_val xs ys hx hy k
    have hlen : (addS (bes xs ys k)).1.length = k := by rw [addS_length, bes_length]
    rw [bes_succ, addS_snoc]
    generalize addS (bes xs ys k) = s at *
    obtain ⟨so, sc⟩ := s
    dsimp only at *
    have b1 := rdb hx (k : Int)
    have b2 := rdb hy (k : Int)
    obtain ⟨p, q, hpq⟩ : ∃ p q, ad32 (besf xs ys k).2.1 (besf xs ys k).2.2 sc = (p, q) := ⟨_, _, rfl⟩
    rw [hpq]
    dsimp only
    have e1 : (besf xs ys k).2.1 = rd xs (k : Int) := by simp [besf, rd]
    have e2 : (besf xs ys k).2.2 = rd ys (k : Int) := by simp [besf, rd]
    rw [e1, e2] at hpq
    have hs := ad32_spec b1.1 b1.2 b2.1 b2.2 h2 h3 hpq
    refine ⟨h1.append (Dg.cons hs.2.1 hs.2.2.1 Dg.nil), hs.2.2.2.1, hs.2.2.2.2, ?_⟩
    rw [val_snoc, hlen, val_take_succ, val_take_succ, Nat.pow_succ]
    have h5 : p.toNat + 4294967296 * q.toNat = (rd xs (k : Int)).toNat + (rd ys (k : Int)).toNat + sc.toNat := by omega
    have h6 : 4294967296 ^ k * p.toNat + 4294967296 ^ k * (4294967296 * q.toNat) = 4294967296 ^ k * (rd xs (k : Int)).toNat + 4294967296 ^ k * (rd ys (k : Int)).toNat + 4294967296 ^ k * sc.toNat := by
      rw [← Nat.mul_add, h5, Nat.mul_add, Nat.mul_add]
    rw [Nat.mul_assoc]
    generalize 4294967296 ^ k * p.toNat = z1 at *
    generalize 4294967296 ^ k * (4294967296 * q.toNat) = z2 at *
    generalize 4294967296 ^ k * (rd xs (k : Int)).toNat = z3 at *
    generalize 4294967296 ^ k * (rd ys (k : Int)).toNat = z4 at *
    generalize 4294967296 ^ k * sc.toNat = z5 at *
    omega
theorem take_max (b : Nat) (xs ys : List Int) : val b (xs.take (max xs.length ys.length)) = val b xs ∧ val b (ys.take (max xs.length ys.length)) = val b ys := by
  rw [List.take_of_length_le (Nat.le_max_left _ _), List.take_of_length_le (Nat.le_max_right _ _)]
  exact ⟨rfl, rfl⟩
theorem add_eq (x y : List Int) (hx : Lb x) (hy : Lb y) : nat_Add.f x y = some (ADD x y) := by
  unfold nat_Add.f ADD
  rw [anyfits]
  by_cases hf : (fits x && fits y) = true
  · rw [hf, if_neg (by simp), if_pos rfl]
    obtain ⟨h1, h2, h3, h4⟩ := addS_val (strip x) (strip y) (strip_Dg hx.dg) (strip_Dg hy.dg) (max (strip x).length (strip y).length)
    have ht := take_max 4294967296 (strip x) (strip y)
    rw [ht.1, ht.2, val_strip, val_strip] at h4
    have hd : Dg 4294967296 (addL (strip x) (strip y)) := h1.append (Dg.cons h2 (by omega) Dg.nil)
    have hv : val 4294967296 (addL (strip x) (strip y)) = val 4294967296 x + val 4294967296 y := by
      unfold addL
      rw [val_snoc, addS_length, bes_length, h4]
    rw [checked_cut hd, hv]
  · rw [if_neg hf, if_pos (by rw [Bool.not_eq_true] at hf; rw [hf]; rfl)]
theorem subS_val (xs ys : List Int) (hx : Dg 4294967296 xs) (hy : Dg 4294967296 ys) : ∀ k : Nat, Dg 4294967296 (subS (bes xs ys k)).1 ∧ 0 ≤ (subS (bes xs ys k)).2 ∧ (subS (bes xs ys k)).2 ≤ 1 ∧
    val 4294967296 (xs.take k) + 4294967296 ^ k * (subS (bes xs ys k)).2.toNat = val 4294967296 (subS (bes xs ys k)).1 + val 4294967296 (ys.take k)
  | 0 => by
    refine ⟨Dg.nil, Int.le_refl 0, (by decide : (0 : Int) ≤ 1), ?_⟩
    simp [bes, subS, val_nil]
  | k + 1 => by
    obtain ⟨h1, h2, h3, h4⟩ := subS_val xs ys hx hy k
    have hlen : (subS (bes xs ys k)).1.length = k := by rw [subS_length, bes_length]
    rw [bes_succ, subS_snoc]
    generalize subS (bes xs ys k) = s at *
    obtain ⟨so, sc⟩ := s
    dsimp only at *
    have b1 := rdb hx (k : Int)
    have b2 := rdb hy (k : Int)
    obtain ⟨p, q, hpq⟩ : ∃ p q, sb32 (besf xs ys k).2.1 (besf xs ys k).2.2 sc = (p, q) := ⟨_, _, rfl⟩
    rw [hpq]
    dsimp only
    have e1 : (besf xs ys k).2.1 = rd xs (k : Int) := by simp [besf, rd]
    have e2 : (besf xs ys k).2.2 = rd ys (k : Int) := by simp [besf, rd]
    rw [e1, e2] at hpq
    have hs := sb32_spec b1.1 b1.2 b2.1 b2.2 h2 h3 hpq
    refine ⟨h1.append (Dg.cons hs.2.1 hs.2.2.1 Dg.nil), hs.2.2.2.1, hs.2.2.2.2, ?_⟩
    rw [val_snoc, hlen, val_take_succ, val_take_succ, Nat.pow_succ]
    have h5 : (rd xs (k : Int)).toNat + 4294967296 * q.toNat = p.toNat + (rd ys (k : Int)).toNat + sc.toNat := by omega
    have h6 : 4294967296 ^ k * (rd xs (k : Int)).toNat + 4294967296 ^ k * (4294967296 * q.toNat) = 4294967296 ^ k * p.toNat + 4294967296 ^ k * (rd ys (k : Int)).toNat + 4294967296 ^ k * sc.toNat := by
      rw [← Nat.mul_add, h5, Nat.mul_add, Nat.mul_add]
    rw [Nat.mul_assoc]
    generalize 4294967296 ^ k * p.toNat = z1 at *
    generalize 4294967296 ^ k * (4294967296 * q.toNat) = z2 at *
    generalize 4294967296 ^ k * (rd xs (k : Int)).toNat = z3 at *
    generalize 4294967296 ^ k * (rd ys (k : Int)).toNat = z4 at *
    generalize 4294967296 ^ k * sc.toNat = z5 at *
    omega
/-- What Cmp tells. -/
def CMP (n m : Nat) : Int := if n < m then -1 else if m < n then 1 else 0
theorem cmpf_val (xs ys : List Int) (hx : Dg 4294967296 xs) (hy : Dg 4294967296 ys) : ∀ k : Nat, cmpf (bes xs ys k) = CMP (val 4294967296 (xs.take k)) (val 4294967296 (ys.take k))
  | 0 => by simp [bes, cmpf, CMP, val_nil]
  | k + 1 => by
    have ih := cmpf_val xs ys hx hy k
    rw [bes_succ, cmpf_snoc, ih]
    have b1 := rdb hx (k : Int)
    have b2 := rdb hy (k : Int)
    have e1 : (besf xs ys k).2.1 = rd xs (k : Int) := by simp [besf, rd]
    have e2 : (besf xs ys k).2.2 = rd ys (k : Int) := by simp [besf, rd]
    rw [e1, e2, val_take_succ, val_take_succ]
    have l1 : val 4294967296 (xs.take k) < 4294967296 ^ k := by
      have := val_lt (hx.take k)
      exact Nat.lt_of_lt_of_le this (Nat.pow_le_pow_right (by decide) (List.length_take_le _ _))
    have l2 : val 4294967296 (ys.take k) < 4294967296 ^ k := by
      have := val_lt (hy.take k)
      exact Nat.lt_of_lt_of_le this (Nat.pow_le_pow_right (by decide) (List.length_take_le _ _))
    generalize rd xs (k : Int) = u at *
    generalize rd ys (k : Int) = v at *
    generalize val 4294967296 (xs.take k) = n at *
    generalize val 4294967296 (ys.take k) = m at *
    generalize 4294967296 ^ k = B at *
    by_cases h : u = v
    · subst h
      rw [if_pos rfl]
      unfold CMP
      generalize B * u.toNat = z
      split <;> split <;> (try split) <;> (try split) <;> first | rfl | omega
    · rw [if_neg h]
      unfold cmpI CMP
      rcases Int.lt_or_lt_of_ne h with h1 | h1
      · have h2 : B * (u.toNat + 1) ≤ B * v.toNat := Nat.mul_le_mul_left _ (by omega)
        rw [Nat.mul_add, Nat.mul_one] at h2
        rw [if_pos h1, if_pos (by omega)]
      · have h2 : B * (v.toNat + 1) ≤ B * u.toNat := Nat.mul_le_mul_left _ (by omega)
        rw [Nat.mul_add, Nat.mul_one] at h2
        rw [if_neg (by omega), if_pos h1, if_neg (by omega), if_pos (by omega)]
theorem cmp_eq (x y : List Int) (hx : Lb x) (hy : Lb y) : nat_Cmp.f x y = some (CMP (val 4294967296 x) (val 4294967296 y)) := by
  unfold nat_Cmp.f natCmpL
  have hdx := strip_Dg hx.dg
  have hdy := strip_Dg hy.dg
  rw [← val_strip x, ← val_strip y]
  have sx := strip_strip x
  have sy := strip_strip y
  generalize strip x = x at *
  generalize strip y = y at *
  by_cases h : x.length = y.length
  · rw [if_neg (by omega), cmpf_val x y hdx hdy, List.take_length, h, List.take_length]
  · rw [if_pos h]
    congr 1
    unfold cmpI CMP
    rcases Nat.lt_or_gt_of_ne h with h1 | h1
    · have := val_lt_len (b := 4294967296) (by decide) hdx hdy sy h1
      rw [if_pos (by omega), if_pos this]
    · have := val_lt_len (b := 4294967296) (by decide) hdy hdx sx h1
      rw [if_neg (by omega), if_pos (by omega), if_neg (by omega), if_pos this]
theorem cmp_neg (x y : List Int) (hx : Lb x) (hy : Lb y) : natCmpL (strip x) (strip y) < 0 ↔ ¬ val 4294967296 y ≤ val 4294967296 x := by
  have := Option.some.inj (cmp_eq x y hx hy)
  rw [this]
  unfold CMP
  split
  · simp; omega
  · split <;> simp <;> omega
theorem sub_eq (x y : List Int) (hx : Lb x) (hy : Lb y) : nat_Sub.f x y = some (SUB x y) := by
  unfold nat_Sub.f SUB
  rw [anyfits]
  by_cases hf : (fits x && fits y) = true
  · rw [hf, if_neg (by simp), if_pos rfl]
    have hc := cmp_neg x y hx hy
    by_cases hle : val 4294967296 y ≤ val 4294967296 x
    · rw [if_neg (fun h => hc.1 h hle), if_pos hle]
      obtain ⟨h1, h2, h3, h4⟩ := subS_val (strip x) (strip y) (strip_Dg hx.dg) (strip_Dg hy.dg) (max (strip x).length (strip y).length)
      have ht := take_max 4294967296 (strip x) (strip y)
      rw [ht.1, ht.2, val_strip, val_strip] at h4
      have hd : Dg 4294967296 (subL (strip x) (strip y)) := h1
      have hb := val_lt h1
      rw [subS_length, bes_length] at hb
      have hv : val 4294967296 (subL (strip x) (strip y)) = val 4294967296 x - val 4294967296 y := by
        unfold subL
        generalize val 4294967296 (subS (bes (strip x) (strip y) (max (strip x).length (strip y).length))).1 = D at *
        have h5 : (subS (bes (strip x) (strip y) (max (strip x).length (strip y).length))).2.toNat = 0 := by
          rcases Nat.eq_zero_or_pos (subS (bes (strip x) (strip y) (max (strip x).length (strip y).length))).2.toNat with h | h
          · exact h
          · have : 4294967296 ^ (max (strip x).length (strip y).length) * 1 ≤ 4294967296 ^ (max (strip x).length (strip y).length) * (subS (bes (strip x) (strip y) (max (strip x).length (strip y).length))).2.toNat := Nat.mul_le_mul_left _ h
            omega
        rw [h5, Nat.mul_zero] at h4
        omega
      rw [checked_cut hd, hv]
    · rw [if_pos (hc.2 hle), if_neg hle]
  · rw [if_neg hf, if_pos (by rw [Bool.not_eq_true] at hf; rw [hf]; rfl)]
end Go.Proofs.Ytlifengbicpppaa.G
end
section
namespace Go.Proofs.Ytlifengbicpppaa.G
open Go.RowKit Go.Proofs.YtlifengbicpppaaW.PrintWords Go.Proofs.YtlifengbicpppaaW.PrintLast Go.Proofs.YtlifengbicpppaaW.PrintMore
attribute [local go_sem] max2_int min2_int max_two min_two max_three min_three max_four min_four   -- for this text's walks alone
set_option linter.unusedVariables false
set_option linter.unusedSimpArgs false
mutual
def nat_Mul.l0 : Nat → List Int → List Int → List Int → Int → Int → Option (List Int × Int)
  | 0, _, _, _, _, _ => none
  | k + 1, x1, x6, x27, x28, x29 => if x29 < x28 then (if 0 ≤ x29 then (if x29 < (x27.length : Int) then (nat_Mul.l1 k x1 x6 x29 (rd x27 x29) 0 x27 x28 x29 x1 (x1.length : Int) 0) else (none)) else (none)) else ((nat_checked.f x6).bind fun bt591 => (some (bt591.1, bt591.2)))
def nat_Mul.l1 : Nat → List Int → List Int → Int → Int → Int → List Int → Int → Int → List Int → Int → Int → Option (List Int × Int)
  | 0, _, _, _, _, _, _, _, _, _, _, _ => none
  | k + 1, x1, x6, x7, x8, x9, x27, x28, x29, x34, x35, x36 => if x36 < x35 then (if 0 ≤ x36 then (if x36 < (x34.length : Int) then (if 0 ≤ (wrap64 (x7 + x36)) then (if (wrap64 (x7 + x36)) < (x6.length : Int) then (nat_Mul.l1 k x1 (x6.set ((wrap64 (x7 + x36)) : Int).toNat ((IntKind.u64.wrap (x9 + (IntKind.u64.wrap ((IntKind.u64.wrap ((IntKind.u64.wrap (x8)) * (IntKind.u64.wrap (rd x34 x36)))) + (IntKind.u64.wrap (rd x6 (wrap64 (x7 + x36)))))))) % 4294967296)) x7 x8 ((IntKind.u64.wrap (x9 + (IntKind.u64.wrap ((IntKind.u64.wrap ((IntKind.u64.wrap (x8)) * (IntKind.u64.wrap (rd x34 x36)))) + (IntKind.u64.wrap (rd x6 (wrap64 (x7 + x36)))))))) / 4294967296) x27 x28 x29 x34 x35 (wrap64 (x36 + 1))) else (none)) else (none)) else (none)) else (none)) else (if 0 ≤ (wrap64 (x7 + (x1.length : Int))) then (if (wrap64 (x7 + (x1.length : Int))) < (x6.length : Int) then (nat_Mul.l0 k x1 (x6.set ((wrap64 (x7 + (x1.length : Int))) : Int).toNat ((x9) % 4294967296)) x27 x28 (wrap64 (x29 + 1))) else (none)) else (none))
end
def nat_Mul.f (k : Nat) (l0 : List Int) (l1 : List Int) : Option (List Int × Int) := (nat_may.f (([l0, l1] : List (List Int)))).bind fun t581 => (if t581 = true then ((api_Nat_uint32_92.f k l0).bind fun t582 => ((api_Nat_uint32_92.f k l1).bind fun t585 => (if 0 ≤ (wrap64 ((t582.length : Int) + (t585.length : Int))) then (if (wrap64 ((t582.length : Int) + (t585.length : Int)) : Int).toNat ≤ 70368744177664 then (nat_Mul.l0 k t585 (List.replicate (wrap64 ((t582.length : Int) + (t585.length : Int)) : Int).toNat 0) t582 (t582.length : Int) 0) else (none)) else (none)))) else (some (([] : List Int), 20)))
set_option maxHeartbeats 8000000 in
set_option maxRecDepth 100000 in
theorem nat_Mul.calls (k : Nat) (P0_ : Nat → Prop) (A0 : Option Addr) (c0 : Nat) (l0 : List Int) (P1_ : Nat → Prop) (A1 : Option Addr) (c1 : Nat) (l1 : List Int) (r1 : List Int) (r2 : Int) (w : World) (hs0 : Kd.V (Kd.int .u32) 75 w w.heap.size (fun k_ => P0_ k_) (.slice A0 l0.length c0) l0) (hs1 : Kd.V (Kd.int .u32) 75 w w.heap.size (fun k_ => P1_ k_) (.slice A1 l1.length c1) l1) (h : nat_Mul.f k l0 l1 = some (r1, r2)) :
    Calls Try.prog 67 #[.slice A0 l0.length c0, .slice A1 l1.length c1] w fun e w' => ∃ v0_ : Value, e = .returned (.tuple #[v0_, .int .i64 r2]) ∧ Kd.R (Kd.int .u32) 75 w' w.heap.size (fun k_ => (w.heap.size ≤ k_)) v0_ r1 ∧ Below w.heap.size w w' := by
  have HO0 := Aside0.mk (show Kd.V (Kd.int .u32) 75 w w.heap.size (fun k_ => ((P0_ k_ ∨ P1_ k_) ∨ w.heap.size ≤ k_)) (.slice A0 l0.length c0) l0 from Kd.V_mono hs0 (fun k_ hk => .inl (.inl hk)))
  have HO1 := Aside0.mk (show Kd.V (Kd.int .u32) 75 w w.heap.size (fun k_ => ((P0_ k_ ∨ P1_ k_) ∨ w.heap.size ≤ k_)) (.slice A1 l1.length c1) l1 from Kd.V_mono hs1 (fun k_ hk => .inl (.inr hk)))
  have HB := Aside0.mk (Below.refl w.heap.size w)
  have H : ((nat_may.f (([l0, l1] : List (List Int)))).bind fun t581 => (if t581 = true then ((api_Nat_uint32_92.f k l0).bind fun t582 => ((api_Nat_uint32_92.f k l1).bind fun t585 => (if 0 ≤ (wrap64 ((t582.length : Int) + (t585.length : Int))) then (if (wrap64 ((t582.length : Int) + (t585.length : Int)) : Int).toNat ≤ 70368744177664 then (nat_Mul.l0 k t585 (List.replicate (wrap64 ((t582.length : Int) + (t585.length : Int)) : Int).toNat 0) t582 (t582.length : Int) 0) else (none)) else (none)))) else (some (([] : List Int), 20)))) = some (r1, r2) := h
  clear h
  obtain ⟨y578, hy578⟩ : ∃ y_ : List (List Int), y_ = (([l0, l1] : List (List Int))) := ⟨_, rfl⟩
  replace H : ((nat_may.f y578).bind fun t581 => (if t581 = true then ((api_Nat_uint32_92.f k l0).bind fun t582 => ((api_Nat_uint32_92.f k l1).bind fun t585 => (if 0 ≤ (wrap64 ((t582.length : Int) + (t585.length : Int))) then (if (wrap64 ((t582.length : Int) + (t585.length : Int)) : Int).toNat ≤ 70368744177664 then (nat_Mul.l0 k t585 (List.replicate (wrap64 ((t582.length : Int) + (t585.length : Int)) : Int).toNat 0) t582 (t582.length : Int) 0) else (none)) else (none)))) else (some (([] : List Int), 20)))) = some (r1, r2) := by first | (rw [hy578]; with_reducible exact H) | (have H2_ := (Option.bind_some _ _).symm.trans H; rw [hy578]; with_reducible exact H2_) | (have H2_ := (Option.bind_some _ _).symm.trans H; with_reducible exact H2_) | with_reducible exact H | (rw [hy578]; exact H) | exact H
  have Ny578 := Aside0.mk hy578
  clear hy578
  replace H := Option.bind_eq_some_iff.mp H
  obtain ⟨t581, A30, H⟩ := H
  replace H : (if t581 = true then ((api_Nat_uint32_92.f k l0).bind fun t582 => ((api_Nat_uint32_92.f k l1).bind fun t585 => (if 0 ≤ (wrap64 ((t582.length : Int) + (t585.length : Int))) then (if (wrap64 ((t582.length : Int) + (t585.length : Int)) : Int).toNat ≤ 70368744177664 then (nat_Mul.l0 k t585 (List.replicate (wrap64 ((t582.length : Int) + (t585.length : Int)) : Int).toNat 0) t582 (t582.length : Int) 0) else (none)) else (none)))) else (some (([] : List Int), 20))) = some (r1, r2) := H
  have A3 := Aside0.mk A30
  clear A30
  by_cases c4 : t581 = true
  · subst c4
    have H1 : ((api_Nat_uint32_92.f k l0).bind fun t582 => ((api_Nat_uint32_92.f k l1).bind fun t585 => (if 0 ≤ (wrap64 ((t582.length : Int) + (t585.length : Int))) then (if (wrap64 ((t582.length : Int) + (t585.length : Int)) : Int).toNat ≤ 70368744177664 then (nat_Mul.l0 k t585 (List.replicate (wrap64 ((t582.length : Int) + (t585.length : Int)) : Int).toNat 0) t582 (t582.length : Int) 0) else (none)) else (none)))) = some (r1, r2) := by rw [if_pos rfl] at H; exact H
    clear H
    have H := H1
    clear H1
    replace H := Option.bind_eq_some_iff.mp H
    obtain ⟨t582, A50, H⟩ := H
    replace H : ((api_Nat_uint32_92.f k l1).bind fun t585 => (if 0 ≤ (wrap64 ((t582.length : Int) + (t585.length : Int))) then (if (wrap64 ((t582.length : Int) + (t585.length : Int)) : Int).toNat ≤ 70368744177664 then (nat_Mul.l0 k t585 (List.replicate (wrap64 ((t582.length : Int) + (t585.length : Int)) : Int).toNat 0) t582 (t582.length : Int) 0) else (none)) else (none))) = some (r1, r2) := H
    have A5 := Aside0.mk A50
    clear A50
    replace H := Option.bind_eq_some_iff.mp H
    obtain ⟨t585, A60, H⟩ := H
    replace H : (if 0 ≤ (wrap64 ((t582.length : Int) + (t585.length : Int))) then (if (wrap64 ((t582.length : Int) + (t585.length : Int)) : Int).toNat ≤ 70368744177664 then (nat_Mul.l0 k t585 (List.replicate (wrap64 ((t582.length : Int) + (t585.length : Int)) : Int).toNat 0) t582 (t582.length : Int) 0) else (none)) else (none)) = some (r1, r2) := H
    have A6 := Aside0.mk A60
    clear A60
    obtain ⟨ji7, hji7⟩ : ∃ j_ : Int, (wrap64 ((t582.length : Int) + (t585.length : Int))) = j_ := ⟨_, rfl⟩
    replace H : (if 0 ≤ (ji7) then (if (ji7 : Int).toNat ≤ 70368744177664 then (nat_Mul.l0 k t585 (List.replicate (ji7 : Int).toNat 0) t582 (t582.length : Int) 0) else (none)) else (none)) = some (r1, r2) := by first | (rw [hji7] at H; exact H) | (simp only [hji7] at H ⊢; exact H)
    (try rw [hji7] at A3)
    (try rw [hji7] at A5)
    (try rw [hji7] at A6)
    have hji7w : (IntKind.i64.wrap ((t582.length : Int) + (t585.length : Int))) = ji7 := (i64_w _).trans hji7
    by_cases c8 : 0 ≤ (ji7)
    · rw [if_pos c8] at H
      have c8b0 := eq_true c8
      have c8b1 : decide (0 ≤ (ji7)) = true := decide_eq_true c8
      clear c8
      by_cases c9 : (ji7 : Int).toNat ≤ 70368744177664
      · rw [if_pos c9] at H
        have c9b0 := eq_true c9
        have c9b1 : decide ((ji7 : Int).toNat ≤ 70368744177664) = true := decide_eq_true c9
        clear c9
        obtain ⟨y588, hy588⟩ : ∃ y_ : List Int, y_ = (List.replicate (ji7 : Int).toNat 0) := ⟨_, rfl⟩
        replace H : (nat_Mul.l0 k t585 y588 t582 (t582.length : Int) 0) = some (r1, r2) := by first | (rw [hy588]; with_reducible exact H) | (have H2_ := (Option.bind_some _ _).symm.trans H; rw [hy588]; with_reducible exact H2_) | (have H2_ := (Option.bind_some _ _).symm.trans H; with_reducible exact H2_) | with_reducible exact H | (rw [hy588]; exact H) | exact H
        have Ny588 := Aside0.mk hy588
        clear hy588
        have H' := Aside0.mk H
        clear H
        go_enter Try.func67, Try.ntmps67
        go_wp2_with (first | ((with_reducible refine gate_dst (N := 14) rfl ?_); refine Kd.N_lit (Kd.slice 75 (Kd.int .u32)) _ 46 ?hg (N' := 14) ?hd (xs := ([l0, l1] : List (List Int))) (inner := [.slice A0 l0.length c0, .slice A1 l1.length c1]) (ok := (fun k_ => ((P0_ k_ ∨ P1_ k_) ∨ w.heap.size ≤ k_))) (okp := (fun k_ => ((P0_ k_ ∨ P1_ k_) ∨ w.heap.size ≤ k_))) ?hr ?hp (fun _ hk => hk) ((show ∀ k_, w.heap.size ≤ k_ → (fun k_ => ((P0_ k_ ∨ P1_ k_) ∨ w.heap.size ≤ k_)) k_ from fun k_ hk => (.inr (Nat.le_trans (below_size (by repeat (first | (with_reducible first | exact HB.out | apply below_alloc | apply pw_below_drewN | apply below_drew1) | exact HB.out))) hk))) _ (Nat.le_refl _)) (Below.refl _ _) (Nat.le_refl _) (by simp) ?_; (case hd => rfl); (case hg => rfl); (case hr => first | (go_simp; done) | (go_simp; rfl)); (case hp => exact (Reps.one (show Kd.FK (Kd.slice 75 (Kd.int .u32)) _ _ l0 [.slice A0 l0.length c0] from (Kd.FK_slice_mk (Kd.V_reads' (Kd.V_mono (ok' := (fun k_ => ((P0_ k_ ∨ P1_ k_) ∨ w.heap.size ≤ k_))) (HO0.out) (fun k_ hk => hk))).2.1 (Kd.V_F (Kd.V_mono (ok' := (fun k_ => ((P0_ k_ ∨ P1_ k_) ∨ w.heap.size ≤ k_))) (HO0.out) (fun k_ hk => hk))))) (Reps.one (show Kd.FK (Kd.slice 75 (Kd.int .u32)) _ _ l1 [.slice A1 l1.length c1] from (Kd.FK_slice_mk (Kd.V_reads' (Kd.V_mono (ok' := (fun k_ => ((P0_ k_ ∨ P1_ k_) ∨ w.heap.size ≤ k_))) (HO1.out) (fun k_ hk => hk))).2.1 (Kd.V_F (Kd.V_mono (ok' := (fun k_ => ((P0_ k_ ∨ P1_ k_) ∨ w.heap.size ≤ k_))) (HO1.out) (fun k_ hk => hk))))) (Reps.none _ _)))); intro v579 w10 ho11 hb hg_ hnew_; clear hg_ hnew_; (first | rw [← Ny578.out] at ho11 | (simp only [Int.reduceToNat] at ho11; rw [← Ny578.out] at ho11)); have n0_ := Aside0.mk (Kd.V_elder' (by (with_reducible repeat (first | apply Kd.V_alloc | apply Kd.V_drewN | apply Kd.V_drew)); exact HO0.out) (Kd.N_base ho11) hb); have n1_ := Aside0.mk (Kd.V_elder' (by (with_reducible repeat (first | apply Kd.V_alloc | apply Kd.V_drewN | apply Kd.V_drew)); exact HO1.out) (Kd.N_base ho11) hb); have n2_ := Aside0.mk (Kd.N_lower ho11 (below_size (by repeat (first | (with_reducible first | exact HB.out | apply below_alloc | apply pw_below_drewN | apply below_drew1) | exact HB.out)))); have n3_ := Aside0.mk (below_step (by repeat (first | (with_reducible first | exact HB.out | apply below_alloc | apply pw_below_drewN | apply below_drew1) | exact HB.out)) hb); clear HO0; clear HO1; clear HB; have HO0 := n0_; have HO1 := n1_; have HO580 := n2_; have HB := n3_; clear n0_ n1_ n2_ n3_; clear hb ho11; obtain ⟨Ao12, co12, eo12⟩ := Kd.N_slice HO580.out; subst eo12) | ((with_reducible refine gate_callee (f := 109) rfl ?_); refine goesL_ (some 15) rfl rfl Try.func109 (by kernel_rfl) rfl #[.slice Ao12 y578.length co12] rfl (by (try simp only [List.map_toArray, List.map_cons, List.map_nil]); first | done | rfl | (simp only [List.length_drop, List.length_take]; rfl)) ?_; (with_reducible refine (nat_may.calls _ _ y578 true _ ?side1 ?side2 A3.out).mono ?_); (case side1 => repeat (first | exact (Kd.N_reads' HO580.out).2.2 | (with_reducible refine Kd.C_alloc ?_ _) | (with_reducible refine Kd.C_drewN ?_ _) | (with_reducible refine Kd.C_drew ?_))); (case side2 => exact (Kd.N_reads' HO580.out).2.1); rintro e w13 ⟨rfl, hb⟩; refine ⟨_, rfl, ?_⟩; have n0_ := Aside0.mk (Kd.V_below (by (with_reducible repeat (first | apply Kd.V_alloc | apply Kd.V_drewN | apply Kd.V_drew)); exact HO0.out) hb); have n1_ := Aside0.mk (Kd.V_below (by (with_reducible repeat (first | apply Kd.V_alloc | apply Kd.V_drewN | apply Kd.V_drew)); exact HO1.out) hb); have n2_ := Aside0.mk (Kd.N_below (by (with_reducible repeat (first | apply Kd.N_alloc | apply Kd.N_drewN | apply Kd.N_drew)); exact HO580.out) hb); have n3_ := Aside0.mk (below_step (by repeat (first | (with_reducible first | exact HB.out | apply below_alloc | apply pw_below_drewN | apply below_drew1) | exact HB.out)) hb); clear HO0; clear HO1; clear HO580; clear HB; have HO0 := n0_; have HO1 := n1_; have HO580 := n2_; have HB := n3_; clear n0_ n1_ n2_ n3_; (try clear hb); (try clear hb2); (try clear hk); (try clear hi)) | ((with_reducible refine gate_callee (f := 92) rfl ?_); refine goesL_ (some 18) rfl rfl Try.func92 (by kernel_rfl) rfl #[.slice A0 l0.length c0] rfl (by (try simp only [List.map_toArray, List.map_cons, List.map_nil]); first | done | rfl | (simp only [List.length_drop, List.length_take]; rfl)) ?_; (with_reducible refine (api_Nat_uint32_92.calls k (fun k_ => (((P0_ k_ ∨ P1_ k_) ∨ w.heap.size ≤ k_) ∧ some k_ ≠ (.slice Ao12 y578.length co12 : Value).ownBlock)) _ _ l0 t582 _ ?side1 A5.out).mono ?_); (case side1 => exact HO0.out); rintro e w14 ⟨v583, rfl, ho0, hb⟩; refine ⟨_, rfl, ?_⟩; have n0_ := Aside0.mk (Kd.V_below (by (with_reducible repeat (first | apply Kd.V_alloc | apply Kd.V_drewN | apply Kd.V_drew)); exact HO0.out) hb); have n1_ := Aside0.mk (Kd.V_below (by (with_reducible repeat (first | apply Kd.V_alloc | apply Kd.V_drewN | apply Kd.V_drew)); exact HO1.out) hb); have n2_ := Aside0.mk (Kd.N_below (by (with_reducible repeat (first | apply Kd.N_alloc | apply Kd.N_drewN | apply Kd.N_drew)); exact HO580.out) hb); have n3_ := Aside0.mk (Kd.V_lower (Kd.V_mono (ok' := fun k_ => ((P0_ k_ ∨ P1_ k_) ∨ w.heap.size ≤ k_) ∧ some k_ ≠ (.slice Ao12 y578.length co12 : Value).ownBlock) ho0 (fun k_ hk_ => ⟨Or.elim hk_ (fun hs_ => hs_.1) (fun hn_ => (.inr (Nat.le_trans (below_size (by repeat (first | (with_reducible first | exact HB.out | apply below_alloc | apply pw_below_drewN | apply below_drew1) | exact HB.out))) hn_))), Or.elim hk_ (fun hs_ => hs_.2) (fun hn_ => (Kd.fresh' (Kd.N_lt (by (with_reducible repeat (first | apply Kd.N_alloc | apply Kd.N_drewN | apply Kd.N_drew)); exact HO580.out)) k_ hn_))⟩)) (below_size (by repeat (first | (with_reducible first | exact HB.out | apply below_alloc | apply pw_below_drewN | apply below_drew1) | exact HB.out)))); have n4_ := Aside0.mk (below_step (by repeat (first | (with_reducible first | exact HB.out | apply below_alloc | apply pw_below_drewN | apply below_drew1) | exact HB.out)) hb); clear HO0; clear HO1; clear HO580; clear HB; have HO0 := n0_; have HO1 := n1_; have HO580 := n2_; have HO584 := n3_; have HB := n4_; clear n0_ n1_ n2_ n3_ n4_; (try clear hb); (try clear hb2); (try clear hk); (try clear hi); (try clear ho0)) | ((with_reducible refine gate_callee (f := 92) rfl ?_); refine goesL_ (some 20) rfl rfl Try.func92 (by kernel_rfl) rfl #[.slice A1 l1.length c1] rfl (by (try simp only [List.map_toArray, List.map_cons, List.map_nil]); first | done | rfl | (simp only [List.length_drop, List.length_take]; rfl)) ?_; (with_reducible refine (api_Nat_uint32_92.calls k (fun k_ => (((P0_ k_ ∨ P1_ k_) ∨ w.heap.size ≤ k_) ∧ some k_ ≠ (.slice Ao12 y578.length co12 : Value).ownBlock)) _ _ l1 t585 _ ?side1 A6.out).mono ?_); (case side1 => exact HO1.out); rintro e w15 ⟨v586, rfl, ho0, hb⟩; refine ⟨_, rfl, ?_⟩; have n0_ := Aside0.mk (Kd.V_below (by (with_reducible repeat (first | apply Kd.V_alloc | apply Kd.V_drewN | apply Kd.V_drew)); exact HO0.out) hb); have n1_ := Aside0.mk (Kd.V_below (by (with_reducible repeat (first | apply Kd.V_alloc | apply Kd.V_drewN | apply Kd.V_drew)); exact HO1.out) hb); have n2_ := Aside0.mk (Kd.N_below (by (with_reducible repeat (first | apply Kd.N_alloc | apply Kd.N_drewN | apply Kd.N_drew)); exact HO580.out) hb); have n3_ := Aside0.mk (Kd.V_below (by (with_reducible repeat (first | apply Kd.V_alloc | apply Kd.V_drewN | apply Kd.V_drew)); exact HO584.out) hb); have n4_ := Aside0.mk (Kd.V_lower (Kd.V_mono (ok' := fun k_ => ((P0_ k_ ∨ P1_ k_) ∨ w.heap.size ≤ k_) ∧ some k_ ≠ (.slice Ao12 y578.length co12 : Value).ownBlock) ho0 (fun k_ hk_ => ⟨Or.elim hk_ (fun hs_ => hs_.1) (fun hn_ => (.inr (Nat.le_trans (below_size (by repeat (first | (with_reducible first | exact HB.out | apply below_alloc | apply pw_below_drewN | apply below_drew1) | exact HB.out))) hn_))), Or.elim hk_ (fun hs_ => hs_.2) (fun hn_ => (Kd.fresh' (Kd.N_lt (by (with_reducible repeat (first | apply Kd.N_alloc | apply Kd.N_drewN | apply Kd.N_drew)); exact HO580.out)) k_ hn_))⟩)) (below_size (by repeat (first | (with_reducible first | exact HB.out | apply below_alloc | apply pw_below_drewN | apply below_drew1) | exact HB.out)))); have n5_ := Aside0.mk (below_step (by repeat (first | (with_reducible first | exact HB.out | apply below_alloc | apply pw_below_drewN | apply below_drew1) | exact HB.out)) hb); clear HO0; clear HO1; clear HO580; clear HO584; clear HB; have HO0 := n0_; have HO1 := n1_; have HO580 := n2_; have HO584 := n3_; have HO587 := n4_; have HB := n5_; clear n0_ n1_ n2_ n3_ n4_ n5_; (try clear hb); (try clear hb2); (try clear hk); (try clear hi); (try clear ho0); obtain ⟨Ao16, co16, eo16⟩ := Kd.V_slice HO584.out; subst eo16; obtain ⟨Ao17, co17, eo17⟩ := Kd.V_slice HO587.out; subst eo17) | ((with_reducible refine gate_dst (N := 26) rfl ?_); refine Kd.R_make (Kd.int .u32) _ 75 rfl (N := 26) rfl 46 _ _ rfl ji7 rfl rfl Try.underlying46 (.int .u32 0) 4 info75 rfl (by decide) (by omega) 0 (ok := fun _ => True) (okp := fun _ => True) rfl (fun _ hk => hk) trivial (of_decide_eq_true (by first | (with_reducible assumption) | assumption)) (Nat.le_trans (Nat.mul_le_mul_right _ (of_decide_eq_true (by first | (with_reducible assumption) | assumption) : ji7.toNat ≤ 70368744177664)) (by omega)) (Below.refl _ _) (Nat.le_refl _) ?_; intro v589 w18 ho19 hb hg_ hnew_; clear hg_ hnew_; (first | rw [← Ny588.out] at ho19 | (simp only [Int.reduceToNat] at ho19; rw [← Ny588.out] at ho19)); have n0_ := Aside0.mk (Kd.V_elder' (by (with_reducible repeat (first | apply Kd.V_alloc | apply Kd.V_drewN | apply Kd.V_drew)); exact HO0.out) (Kd.R_base ho19) hb); have n1_ := Aside0.mk (Kd.V_elder' (by (with_reducible repeat (first | apply Kd.V_alloc | apply Kd.V_drewN | apply Kd.V_drew)); exact HO1.out) (Kd.R_base ho19) hb); have n2_ := Aside0.mk (Kd.N_elder' (by (with_reducible repeat (first | apply Kd.N_alloc | apply Kd.N_drewN | apply Kd.N_drew)); exact HO580.out) (Kd.R_base ho19) hb); have n3_ := Aside0.mk (Kd.V_elder' (by (with_reducible repeat (first | apply Kd.V_alloc | apply Kd.V_drewN | apply Kd.V_drew)); exact HO584.out) (Kd.R_base ho19) hb); have n4_ := Aside0.mk (Kd.V_elder' (by (with_reducible repeat (first | apply Kd.V_alloc | apply Kd.V_drewN | apply Kd.V_drew)); exact HO587.out) (Kd.R_base ho19) hb); have n5_ := Aside0.mk (Kd.R_lower (Kd.R_newM (M := fun k_ => (w.heap.size ≤ k_)) ho19 (below_size (by repeat (first | (with_reducible first | exact HB.out | apply below_alloc | apply pw_below_drewN | apply below_drew1) | exact HB.out))) (fun k_ h_ => h_)) (below_size (by repeat (first | (with_reducible first | exact HB.out | apply below_alloc | apply pw_below_drewN | apply below_drew1) | exact HB.out)))); have n6_ := Aside0.mk (below_step (by repeat (first | (with_reducible first | exact HB.out | apply below_alloc | apply pw_below_drewN | apply below_drew1) | exact HB.out)) hb); clear HO0; clear HO1; clear HO580; clear HO584; clear HO587; clear HB; have HO0 := n0_; have HO1 := n1_; have HO580 := n2_; have HO584 := n3_; have HO587 := n4_; have HO590 := n5_; have HB := n6_; clear n0_ n1_ n2_ n3_ n4_ n5_ n6_; clear hb ho19))
        go_loopg [29] k (fun kq v29 w' => ∃ (x6_1 : List Int) (x29_1 : Int), v29 = .int .i64 x29_1 ∧ Aside0 (nat_Mul.l0 kq t585 x6_1 t582 (t582.length : Int) x29_1 = some (r1, r2)) ∧ Aside0 (kq ≤ k) ∧ Aside0 (Kd.V (Kd.int .u32) 75 w' w.heap.size (fun k_ => ((P0_ k_ ∨ P1_ k_) ∨ w.heap.size ≤ k_) ∧ some k_ ≠ (v589 : Value).ownBlock) (.slice Ao17 t585.length co17) t585) ∧ Aside0 (Kd.R (Kd.int .u32) 75 w' w.heap.size (fun k_ => (w.heap.size ≤ k_)) v589 x6_1) ∧ Aside0 (Kd.V (Kd.int .u32) 75 w' w.heap.size (fun k_ => ((P0_ k_ ∨ P1_ k_) ∨ w.heap.size ≤ k_) ∧ some k_ ≠ (v589 : Value).ownBlock) (.slice Ao16 t582.length co16) t582) ∧ Aside0 (Below w.heap.size w w'))
        case atStart => exact ⟨(y588), (0), (by first | rfl | (simp; done) | (simp [*]; done)), H', ⟨Nat.le_refl _⟩, ⟨by (with_reducible repeat (first | apply Kd.V_alloc | apply Kd.V_drewN | apply Kd.V_drew)); exact Kd.V_mono HO587.out (fun _ hk => ⟨hk.1.1, hk.2⟩)⟩, ⟨by (with_reducible repeat (first | apply Kd.R_alloc | apply Kd.R_drewN | apply Kd.R_drew)); exact Kd.R_mono HO590.out (fun _ hk => hk.1)⟩, ⟨by (with_reducible repeat (first | apply Kd.V_alloc | apply Kd.V_drewN | apply Kd.V_drew)); exact Kd.V_mono HO584.out (fun _ hk => ⟨hk.1.1, hk.2⟩)⟩, ⟨by repeat (first | (with_reducible first | exact HB.out | apply below_alloc | apply pw_below_drewN | apply below_drew1) | exact HB.out)⟩⟩
        case round =>
          clear H'
          try clear c1
          try clear p2
          try clear c4
          try clear c6
          try clear p6
          try clear c8
          try clear c8b0
          try clear c8b1
          try clear c9
          try clear c9b0
          try clear c9b1
          try clear c10
          obtain ⟨x6_1, x29_1, rfl, HA, HK1, HO_1, HO_6, HO_27, HB⟩ := hrel
          cases gk with
          | zero => exact absurd HA.out (by simp [nat_Mul.l0])
          | succ k1 =>
            have H := HA.out
            clear HA
            simp only [nat_Mul.l0] at H
            by_cases c20 : x29_1 < (t582.length : Int)
            · rw [if_pos c20] at H
              have c20b0 : decide (x29_1 < (t582.length : Int)) = true := decide_eq_true c20
              clear c20
              by_cases c21 : 0 ≤ x29_1
              · rw [if_pos c21] at H
                have c21b0 : decide (0 ≤ x29_1) = true := decide_eq_true c21
                clear c21
                by_cases c22 : x29_1 < (t582.length : Int)
                · rw [if_pos c22] at H
                  have c22b0 : decide (x29_1 < (t582.length : Int)) = true := decide_eq_true c22
                  clear c22
                  have H' := Aside0.mk H
                  clear H
                  have p595 : 0 ≤ (x29_1 : Int) := of_decide_eq_true (by first | (with_reducible assumption) | assumption)
                  have q595 : x29_1 < (t582.length : Int) := of_decide_eq_true (by first | (with_reducible assumption) | assumption)
                  obtain ⟨ad595, e595, hx595_0⟩ := Kd.at_int (Kd.V_reads' HO_27.out).2.2 x29_1 p595 q595
                  cases e595
                  replace p595 := eq_true p595
                  replace q595 := eq_true q595
                  go_wp2
                  go_loopg [9, 36] k1 (fun kq v9 v36 w' => ∃ (x6_2 : List Int) (x9_2 : Int) (x36_2 : Int), v9 = .int .u64 x9_2 ∧ v36 = .int .i64 x36_2 ∧ Aside0 (nat_Mul.l1 kq t585 x6_2 x29_1 (rd t582 x29_1) x9_2 t582 (t582.length : Int) x29_1 t585 (t585.length : Int) x36_2 = some (r1, r2)) ∧ Aside0 (kq ≤ k1) ∧ Aside0 (Kd.V (Kd.int .u32) 75 w' w.heap.size (fun k_ => ((P0_ k_ ∨ P1_ k_) ∨ w.heap.size ≤ k_) ∧ some k_ ≠ (v589 : Value).ownBlock) (.slice Ao17 t585.length co17) t585) ∧ Aside0 (Kd.R (Kd.int .u32) 75 w' w.heap.size (fun k_ => (w.heap.size ≤ k_)) v589 x6_2) ∧ Aside0 (Kd.V (Kd.int .u32) 75 w' w.heap.size (fun k_ => ((P0_ k_ ∨ P1_ k_) ∨ w.heap.size ≤ k_) ∧ some k_ ≠ (v589 : Value).ownBlock) (.slice (some ad595) t582.length co16) t582) ∧ Aside0 (Kd.V (Kd.int .u32) 75 w' w.heap.size (fun k_ => ((P0_ k_ ∨ P1_ k_) ∨ w.heap.size ≤ k_) ∧ some k_ ≠ (v589 : Value).ownBlock) (.slice Ao17 t585.length co17) t585) ∧ Aside0 (Below w.heap.size w w'))
                  case atStart => exact ⟨(x6_1), (0), (0), (by first | rfl | (simp; done) | (simp [*]; done)), (by first | rfl | (simp; done) | (simp [*]; done)), H', ⟨Nat.le_refl _⟩, ⟨by (with_reducible repeat (first | apply Kd.V_alloc | apply Kd.V_drewN | apply Kd.V_drew)); exact HO_1.out⟩, ⟨by (with_reducible repeat (first | apply Kd.R_alloc | apply Kd.R_drewN | apply Kd.R_drew)); exact HO_6.out⟩, ⟨by (with_reducible repeat (first | apply Kd.V_alloc | apply Kd.V_drewN | apply Kd.V_drew)); exact HO_27.out⟩, ⟨by (with_reducible repeat (first | apply Kd.V_alloc | apply Kd.V_drewN | apply Kd.V_drew)); exact HO_1.out⟩, ⟨by repeat (first | (with_reducible first | exact HB.out | apply below_alloc | apply pw_below_drewN | apply below_drew1) | exact HB.out)⟩⟩
                  case round =>
                    clear H'
                    try clear c1
                    try clear c2
                    try clear p2
                    try clear c4
                    try clear p5
                    try clear q5
                    try clear hx5
                    try clear c6
                    try clear p6
                    try clear c8
                    try clear c8b0
                    try clear c8b1
                    try clear c9
                    try clear c9b0
                    try clear c9b1
                    try clear c10
                    try clear c20
                    try clear c20b0
                    try clear c21
                    try clear c21b0
                    try clear c22
                    try clear c22b0
                    try clear hx595_0
                    try clear p2
                    try clear p595
                    try clear p6
                    try clear q595
                    obtain ⟨x6_2, x9_2, x36_2, rfl, rfl, HA, HK2, HO_1, HO_6, HO_27, HO_34, HB⟩ := hrel
                    cases gk with
                    | zero => exact absurd HA.out (by simp [nat_Mul.l1])
                    | succ k2 =>
                      have H := HA.out
                      clear HA
                      simp only [nat_Mul.l1] at H
                      by_cases c23 : x36_2 < (t585.length : Int)
                      · rw [if_pos c23] at H
                        have c23b0 : decide (x36_2 < (t585.length : Int)) = true := decide_eq_true c23
                        clear c23
                        by_cases c24 : 0 ≤ x36_2
                        · rw [if_pos c24] at H
                          have c24b0 : decide (0 ≤ x36_2) = true := decide_eq_true c24
                          clear c24
                          by_cases c25 : x36_2 < (t585.length : Int)
                          · rw [if_pos c25] at H
                            have c25b0 : decide (x36_2 < (t585.length : Int)) = true := decide_eq_true c25
                            clear c25
                            obtain ⟨ji26, hji26⟩ : ∃ j_ : Int, (wrap64 (x29_1 + x36_2)) = j_ := ⟨_, rfl⟩
                            replace H : (if 0 ≤ (ji26) then (if (ji26) < (x6_2.length : Int) then (nat_Mul.l1 k2 t585 (x6_2.set ((ji26) : Int).toNat ((IntKind.u64.wrap (x9_2 + (IntKind.u64.wrap ((IntKind.u64.wrap ((IntKind.u64.wrap ((rd t582 x29_1))) * (IntKind.u64.wrap (rd t585 x36_2)))) + (IntKind.u64.wrap (rd x6_2 (ji26))))))) % 4294967296)) x29_1 (rd t582 x29_1) ((IntKind.u64.wrap (x9_2 + (IntKind.u64.wrap ((IntKind.u64.wrap ((IntKind.u64.wrap ((rd t582 x29_1))) * (IntKind.u64.wrap (rd t585 x36_2)))) + (IntKind.u64.wrap (rd x6_2 (ji26))))))) / 4294967296) t582 (t582.length : Int) x29_1 t585 (t585.length : Int) (wrap64 (x36_2 + 1))) else (none)) else (none)) = some (r1, r2) := by first | (rw [hji26] at H; exact H) | (simp only [hji26] at H ⊢; exact H)
                            have hji26w : (IntKind.i64.wrap (x29_1 + x36_2)) = ji26 := (i64_w _).trans hji26
                            by_cases c27 : 0 ≤ (ji26)
                            · rw [if_pos c27] at H
                              have c27b0 : decide (0 ≤ (ji26)) = true := decide_eq_true c27
                              clear c27
                              by_cases c28 : (ji26) < (x6_2.length : Int)
                              · rw [if_pos c28] at H
                                have c28b0 : decide ((ji26) < (x6_2.length : Int)) = true := decide_eq_true c28
                                clear c28
                                obtain ⟨y598, hy598⟩ : ∃ y_ : List Int, y_ = (x6_2.set ((ji26) : Int).toNat ((IntKind.u64.wrap (x9_2 + (IntKind.u64.wrap ((IntKind.u64.wrap ((IntKind.u64.wrap ((rd t582 x29_1))) * (IntKind.u64.wrap (rd t585 x36_2)))) + (IntKind.u64.wrap (rd x6_2 (ji26))))))) % 4294967296)) := ⟨_, rfl⟩
                                replace H : (nat_Mul.l1 k2 t585 y598 x29_1 (rd t582 x29_1) ((IntKind.u64.wrap (x9_2 + (IntKind.u64.wrap ((IntKind.u64.wrap ((IntKind.u64.wrap ((rd t582 x29_1))) * (IntKind.u64.wrap (rd t585 x36_2)))) + (IntKind.u64.wrap (rd x6_2 (ji26))))))) / 4294967296) t582 (t582.length : Int) x29_1 t585 (t585.length : Int) (wrap64 (x36_2 + 1))) = some (r1, r2) := by first | (rw [hy598]; with_reducible exact H) | (have H2_ := (Option.bind_some _ _).symm.trans H; rw [hy598]; with_reducible exact H2_) | (have H2_ := (Option.bind_some _ _).symm.trans H; with_reducible exact H2_) | with_reducible exact H | (rw [hy598]; exact H) | exact H
                                have Ny598 := Aside0.mk hy598
                                clear hy598
                                have H' := Aside0.mk H
                                clear H
                                have p596 : 0 ≤ (x36_2 : Int) := of_decide_eq_true (by first | (with_reducible assumption) | assumption)
                                have q596 : x36_2 < (t585.length : Int) := of_decide_eq_true (by first | (with_reducible assumption) | assumption)
                                obtain ⟨ad596, e596, hx596_0⟩ := Kd.at_int (Kd.V_reads' HO_34.out).2.2 x36_2 p596 q596
                                cases e596
                                replace p596 := eq_true p596
                                replace q596 := eq_true q596
                                obtain ⟨Ao30, co30, eo30⟩ := Kd.R_slice HO_6.out
                                subst eo30
                                have p597 : 0 ≤ ((ji26) : Int) := of_decide_eq_true (by first | (with_reducible assumption) | assumption)
                                have q597 : (ji26) < (x6_2.length : Int) := of_decide_eq_true (by first | (with_reducible assumption) | assumption)
                                obtain ⟨ad597, e597, hx597_0⟩ := Kd.at_int (Kd.R_reads' HO_6.out).2.2 (ji26) p597 q597
                                cases e597
                                replace p597 := eq_true p597
                                replace q597 := eq_true q597
                                have p29 : 0 ≤ ((ji26) : Int) := of_decide_eq_true (by first | (with_reducible assumption) | assumption)
                                have q29 : ((ji26) : Int) < ((x6_2.length : Int) : Int) := of_decide_eq_true (by first | (with_reducible assumption) | assumption)
                                obtain ⟨go29, co29, eo29, gb29, gl29, cl29, HG29⟩ := Kd.R_form HO_6.out (by omega)
                                (first | cases eo29 | (injection eo29 with ea_ en_ ec_; (first | subst ea_ | (injection ea_ with ea_; subst ea_)); subst ec_; clear en_))
                                have GB29 := Aside0.mk gb29
                                have GG29 := Aside0.mk HG29
                                clear gb29 gl29 HG29
                                (first | simp only [add_plain] at hx597_0 | skip)
                                obtain ⟨hx29_0, hf29_0⟩ := Kd.R_celln 0 HO_6.out ((ji26) : Int) p29 q29
                                replace p29 := eq_true p29
                                replace q29 := eq_true q29
                                have HP31 := Kd.R_putg HO_6.out ((ji26) : Int) ((IntKind.u64.wrap (x9_2 + (IntKind.u64.wrap ((IntKind.u64.wrap ((IntKind.u64.wrap ((rd t582 x29_1))) * (IntKind.u64.wrap (rd t585 x36_2)))) + (IntKind.u64.wrap (rd x6_2 (ji26))))))) % 4294967296)
                                go_wp2_with (first | ((with_reducible refine gate_store (t := 75) (p := 62) rfl ?_); refine store_event (t := 75) (p := 62) (v := ?vo_w32) (w1 := (wr.setCell ⟨go29, ((ji26) : Int).toNat, none⟩ (.int .u32 ((IntKind.u64.wrap (x9_2 + (IntKind.u64.wrap ((IntKind.u64.wrap ((IntKind.u64.wrap ((rd t582 x29_1))) * (IntKind.u64.wrap (rd t585 x36_2)))) + (IntKind.u64.wrap (rd x6_2 (ji26))))))) % 4294967296)))) ?hg ?ho ?hn ?hr ?_; (case ho => rfl); (case hg => rfl); (case hn => rfl); (case hr => first | (go_simp; done) | (go_simp; rfl)); intro w32 hw; have hg : wr.grownBy w32 (some go29) := (by rw [hw]; exact HP31.2); have hp_ : Kd.R (Kd.int .u32) 75 w32 w.heap.size (fun k_ => (w.heap.size ≤ k_)) (.slice (some ⟨go29, 0, none⟩) x6_2.length co30) y598 := (by rw [hw, Ny598.out]; exact HP31.1); clear HP31; have n0_ := Aside0.mk (Kd.V_afterv (v := (.slice (some ⟨go29, 0, none⟩) x6_2.length co30)) (v1 := (.slice (some ⟨go29, 0, none⟩) x6_2.length co30)) (ok := (fun k_ => ((P0_ k_ ∨ P1_ k_) ∨ w.heap.size ≤ k_))) (by (with_reducible repeat (first | apply Kd.V_alloc | apply Kd.V_drewN | apply Kd.V_drew)); exact HO_1.out) hg (.inl rfl)); have n1_ := Aside0.mk (hp_); have n2_ := Aside0.mk (Kd.V_afterv (v := (.slice (some ⟨go29, 0, none⟩) x6_2.length co30)) (v1 := (.slice (some ⟨go29, 0, none⟩) x6_2.length co30)) (ok := (fun k_ => ((P0_ k_ ∨ P1_ k_) ∨ w.heap.size ≤ k_))) (by (with_reducible repeat (first | apply Kd.V_alloc | apply Kd.V_drewN | apply Kd.V_drew)); exact HO_27.out) hg (.inl rfl)); have n3_ := Aside0.mk (Kd.V_afterv (v := (.slice (some ⟨go29, 0, none⟩) x6_2.length co30)) (v1 := (.slice (some ⟨go29, 0, none⟩) x6_2.length co30)) (ok := (fun k_ => ((P0_ k_ ∨ P1_ k_) ∨ w.heap.size ≤ k_))) (by (with_reducible repeat (first | apply Kd.V_alloc | apply Kd.V_drewN | apply Kd.V_drew)); exact HO_34.out) hg (.inl rfl)); have n4_ := Aside0.mk ((by rw [hw]; exact below_set (HB.out) GB29.out : Below w.heap.size w w32)); clear HO_1; clear HO_6; clear HO_27; clear HO_34; clear HB; have HO_1 := n0_; have HO_6 := n1_; have HO_27 := n2_; have HO_34 := n3_; have HB := n4_; clear n0_ n1_ n2_ n3_ n4_; clear hg hw hp_))
                                go_roundg k2
                                case measure => have := HK1.out; have := HK2.out; omega
                                case rel => exact ⟨(y598), ((IntKind.u64.wrap (x9_2 + (IntKind.u64.wrap ((IntKind.u64.wrap ((IntKind.u64.wrap ((rd t582 x29_1))) * (IntKind.u64.wrap (rd t585 x36_2)))) + (IntKind.u64.wrap (rd x6_2 (ji26))))))) / 4294967296), (wrap64 (x36_2 + 1)), (by first | rfl | (simp; done) | (simp only [← hji26] <;> (first | rfl | simp)) | (simp [*]; done)), (by first | rfl | (simp; done) | (simp [*]; done)), H', ⟨by have := HK1.out; have := HK2.out; omega⟩, ⟨by (with_reducible repeat (first | apply Kd.V_alloc | apply Kd.V_drewN | apply Kd.V_drew)); exact HO_1.out⟩, ⟨by (with_reducible repeat (first | apply Kd.R_alloc | apply Kd.R_drewN | apply Kd.R_drew)); exact HO_6.out⟩, ⟨by (with_reducible repeat (first | apply Kd.V_alloc | apply Kd.V_drewN | apply Kd.V_drew)); exact HO_27.out⟩, ⟨by (with_reducible repeat (first | apply Kd.V_alloc | apply Kd.V_drewN | apply Kd.V_drew)); exact HO_34.out⟩, ⟨by repeat (first | (with_reducible first | exact HB.out | apply below_alloc | apply pw_below_drewN | apply below_drew1) | exact HB.out)⟩⟩
                              · rw [if_neg c28] at H
                                exact absurd H (by simp)
                            · rw [if_neg c27] at H
                              exact absurd H (by simp)
                          · rw [if_neg c25] at H
                            exact absurd H (by simp)
                        · rw [if_neg c24] at H
                          exact absurd H (by simp)
                      · rw [if_neg c23] at H
                        have c23b0 : decide (x36_2 < (t585.length : Int)) = false := decide_eq_false c23
                        clear c23
                        obtain ⟨ji33, hji33⟩ : ∃ j_ : Int, (wrap64 (x29_1 + (t585.length : Int))) = j_ := ⟨_, rfl⟩
                        replace H : (if 0 ≤ (ji33) then (if (ji33) < (x6_2.length : Int) then (nat_Mul.l0 k2 t585 (x6_2.set ((ji33) : Int).toNat ((x9_2) % 4294967296)) t582 (t582.length : Int) (wrap64 (x29_1 + 1))) else (none)) else (none)) = some (r1, r2) := by first | (rw [hji33] at H; exact H) | (simp only [hji33] at H ⊢; exact H)
                        have hji33w : (IntKind.i64.wrap (x29_1 + (t585.length : Int))) = ji33 := (i64_w _).trans hji33
                        by_cases c34 : 0 ≤ (ji33)
                        · rw [if_pos c34] at H
                          have c34b0 : decide (0 ≤ (ji33)) = true := decide_eq_true c34
                          clear c34
                          by_cases c35 : (ji33) < (x6_2.length : Int)
                          · rw [if_pos c35] at H
                            have c35b0 : decide ((ji33) < (x6_2.length : Int)) = true := decide_eq_true c35
                            clear c35
                            obtain ⟨y599, hy599⟩ : ∃ y_ : List Int, y_ = (x6_2.set ((ji33) : Int).toNat ((x9_2) % 4294967296)) := ⟨_, rfl⟩
                            replace H : (nat_Mul.l0 k2 t585 y599 t582 (t582.length : Int) (wrap64 (x29_1 + 1))) = some (r1, r2) := by first | (rw [hy599]; with_reducible exact H) | (have H2_ := (Option.bind_some _ _).symm.trans H; rw [hy599]; with_reducible exact H2_) | (have H2_ := (Option.bind_some _ _).symm.trans H; with_reducible exact H2_) | with_reducible exact H | (rw [hy599]; exact H) | exact H
                            have Ny599 := Aside0.mk hy599
                            clear hy599
                            have H' := Aside0.mk H
                            clear H
                            have p36 : 0 ≤ ((ji33) : Int) := of_decide_eq_true (by first | (with_reducible assumption) | assumption)
                            have q36 : ((ji33) : Int) < ((x6_2.length : Int) : Int) := of_decide_eq_true (by first | (with_reducible assumption) | assumption)
                            obtain ⟨go36, co36, eo36, gb36, gl36, cl36, HG36⟩ := Kd.R_form HO_6.out (by omega)
                            (first | cases eo36 | (injection eo36 with ea_ en_ ec_; (first | subst ea_ | (injection ea_ with ea_; subst ea_)); subst ec_; clear en_))
                            have GB36 := Aside0.mk gb36
                            have GG36 := Aside0.mk HG36
                            clear gb36 gl36 HG36
                            obtain ⟨hx36_0, hf36_0⟩ := Kd.R_celln 0 HO_6.out ((ji33) : Int) p36 q36
                            replace p36 := eq_true p36
                            replace q36 := eq_true q36
                            have HP37 := Kd.R_putg HO_6.out ((ji33) : Int) ((x9_2) % 4294967296)
                            go_wp2_with (first | ((with_reducible refine gate_store (t := 75) (p := 73) rfl ?_); refine store_event (t := 75) (p := 73) (v := ?vo_w38) (w1 := (wr.setCell ⟨go36, ((ji33) : Int).toNat, none⟩ (.int .u32 ((x9_2) % 4294967296)))) ?hg ?ho ?hn ?hr ?_; (case ho => rfl); (case hg => rfl); (case hn => rfl); (case hr => first | (go_simp; done) | (go_simp; rfl)); intro w38 hw; have hg : wr.grownBy w38 (some go36) := (by rw [hw]; exact HP37.2); have hp_ : Kd.R (Kd.int .u32) 75 w38 w.heap.size (fun k_ => (w.heap.size ≤ k_)) (.slice (some ⟨go36, 0, none⟩) x6_2.length co36) y599 := (by rw [hw, Ny599.out]; exact HP37.1); clear HP37; have n0_ := Aside0.mk (Kd.V_afterv (v := (.slice (some ⟨go36, 0, none⟩) x6_2.length co36)) (v1 := (.slice (some ⟨go36, 0, none⟩) x6_2.length co36)) (ok := (fun k_ => ((P0_ k_ ∨ P1_ k_) ∨ w.heap.size ≤ k_))) (by (with_reducible repeat (first | apply Kd.V_alloc | apply Kd.V_drewN | apply Kd.V_drew)); exact HO_1.out) hg (.inl rfl)); have n1_ := Aside0.mk (hp_); have n2_ := Aside0.mk (Kd.V_afterv (v := (.slice (some ⟨go36, 0, none⟩) x6_2.length co36)) (v1 := (.slice (some ⟨go36, 0, none⟩) x6_2.length co36)) (ok := (fun k_ => ((P0_ k_ ∨ P1_ k_) ∨ w.heap.size ≤ k_))) (by (with_reducible repeat (first | apply Kd.V_alloc | apply Kd.V_drewN | apply Kd.V_drew)); exact HO_27.out) hg (.inl rfl)); have n3_ := Aside0.mk (Kd.V_afterv (v := (.slice (some ⟨go36, 0, none⟩) x6_2.length co36)) (v1 := (.slice (some ⟨go36, 0, none⟩) x6_2.length co36)) (ok := (fun k_ => ((P0_ k_ ∨ P1_ k_) ∨ w.heap.size ≤ k_))) (by (with_reducible repeat (first | apply Kd.V_alloc | apply Kd.V_drewN | apply Kd.V_drew)); exact HO_34.out) hg (.inl rfl)); have n4_ := Aside0.mk ((by rw [hw]; exact below_set (HB.out) GB36.out : Below w.heap.size w w38)); clear HO_1; clear HO_6; clear HO_27; clear HO_34; clear HB; have HO_1 := n0_; have HO_6 := n1_; have HO_27 := n2_; have HO_34 := n3_; have HB := n4_; clear n0_ n1_ n2_ n3_ n4_; clear hg hw hp_))
                            go_roundg k2
                            case measure => have := HK1.out; have := HK2.out; omega
                            case rel => exact ⟨(y599), (wrap64 (x29_1 + 1)), (by first | rfl | (simp; done) | (simp [*]; done)), H', ⟨by have := HK1.out; have := HK2.out; omega⟩, ⟨by (with_reducible repeat (first | apply Kd.V_alloc | apply Kd.V_drewN | apply Kd.V_drew)); exact HO_1.out⟩, ⟨by (with_reducible repeat (first | apply Kd.R_alloc | apply Kd.R_drewN | apply Kd.R_drew)); exact HO_6.out⟩, ⟨by (with_reducible repeat (first | apply Kd.V_alloc | apply Kd.V_drewN | apply Kd.V_drew)); exact HO_27.out⟩, ⟨by repeat (first | (with_reducible first | exact HB.out | apply below_alloc | apply pw_below_drewN | apply below_drew1) | exact HB.out)⟩⟩
                          · rw [if_neg c35] at H
                            exact absurd H (by simp)
                        · rw [if_neg c34] at H
                          exact absurd H (by simp)
                · rw [if_neg c22] at H
                  exact absurd H (by simp)
              · rw [if_neg c21] at H
                exact absurd H (by simp)
            · rw [if_neg c20] at H
              have c20b0 : decide (x29_1 < (t582.length : Int)) = false := decide_eq_false c20
              clear c20
              replace H := Option.bind_eq_some_iff.mp H
              obtain ⟨⟨t591, t594⟩, A390, H⟩ := H
              replace H : (some (t591, t594)) = some (r1, r2) := H
              have A39 := Aside0.mk A390
              clear A390
              simp only [Option.some.injEq, Prod.mk.injEq] at H
              obtain ⟨rfl, rfl⟩ := H
              obtain ⟨Ao40, co40, eo40⟩ := Kd.R_slice HO_6.out
              subst eo40
              go_wp2_with (first | ((with_reducible refine gate_callee (f := 110) rfl ?_); refine goesL_ (some 76) rfl rfl Try.func110 (by kernel_rfl) rfl #[.slice Ao40 x6_1.length co40] rfl (by (try simp only [List.map_toArray, List.map_cons, List.map_nil]); first | done | rfl | (simp only [List.length_drop, List.length_take]; rfl)) ?_; (with_reducible refine (nat_checked.calls (fun k_ => some k_ = (.slice Ao40 x6_1.length co40 : Value).ownBlock) (.slice Ao40 x6_1.length co40) x6_1 t591 t594 w _ ?side1 ?side2 A39.out).mono ?_); (case side1 => repeat (first | (with_reducible first | exact HB.out | apply below_alloc | apply pw_below_drewN | apply below_drew1) | exact HB.out)); (case side2 => exact Kd.R_tight rfl HO_6.out); rintro e w41 ⟨v592, rfl, ho0, hb, hkp⟩; refine ⟨_, rfl, ?_⟩; have n0_ := Aside0.mk (Kd.V_mono (ok' := fun k_ => ((P0_ k_ ∨ P1_ k_) ∨ w.heap.size ≤ k_) ∧ some k_ ≠ (v592 : Value).ownBlock) (Kd.V_keptB (HO_1.out) hkp (fun k_ hk_ hs_ => (hk_.2) hs_)) (fun k_ hk_ => ⟨hk_.1.1, fun e_ => Or.elim (ho0.1 k_ e_.symm) (fun hs_ => hk_.2.1 hs_) (fun hn_ => Nat.not_le.2 hk_.2.2 hn_)⟩)); have n1_ := Aside0.mk (Kd.V_mono (ok' := fun k_ => ((P0_ k_ ∨ P1_ k_) ∨ w.heap.size ≤ k_) ∧ some k_ ≠ (v592 : Value).ownBlock) (Kd.V_keptB (HO_27.out) hkp (fun k_ hk_ hs_ => (hk_.2) hs_)) (fun k_ hk_ => ⟨hk_.1.1, fun e_ => Or.elim (ho0.1 k_ e_.symm) (fun hs_ => hk_.2.1 hs_) (fun hn_ => Nat.not_le.2 hk_.2.2 hn_)⟩)); have n2_ := Aside0.mk (Kd.R_mono (ok' := fun k_ => (w.heap.size ≤ k_)) ho0 (fun k_ hk_ => Or.elim hk_ (fun hs_ => (HO_6.out.1 k_ (hs_).symm)) (fun hn_ => (Nat.le_trans (below_size (by repeat (first | (with_reducible first | exact HB.out | apply below_alloc | apply pw_below_drewN | apply below_drew1) | exact HB.out))) hn_)))); have n3_ := Aside0.mk (hb); clear HO_1; clear HO_27; clear HB; clear HO_6; have HO_1 := n0_; have HO_27 := n1_; have HO593 := n2_; have HB := n3_; clear n0_ n1_ n2_ n3_; (try clear hb); (try clear hkp); (try clear ho0)))
              go_ret2
              exact ⟨_, by first | rfl | (simp [errW_none, errW_some] <;> rfl) | (simp only [← hji7]; first | rfl | (simp [errW_none, errW_some] <;> rfl)) | (simp [*, errW_none, errW_some] <;> rfl), by (with_reducible repeat (first | apply Kd.R_alloc | apply Kd.R_drewN | apply Kd.R_drew)); exact HO593.out, by repeat (first | (with_reducible first | exact HB.out | apply below_alloc | apply pw_below_drewN | apply below_drew1) | exact HB.out)⟩
      · rw [if_neg c9] at H
        exact absurd H (by simp)
    · rw [if_neg c8] at H
      exact absurd H (by simp)
  · replace c4 := Bool.eq_false_iff.mpr c4
    subst c4
    have H1 : (some (([] : List Int), 20)) = some (r1, r2) := by rw [if_neg (show ¬ (false = true) by decide)] at H; exact H
    clear H
    have H := H1
    clear H1
    simp only [Option.some.injEq, Prod.mk.injEq] at H
    obtain ⟨rfl, rfl⟩ := H
    go_enter Try.func67, Try.ntmps67
    go_wp2_with (first | ((with_reducible refine gate_dst (N := 14) rfl ?_); refine Kd.N_lit (Kd.slice 75 (Kd.int .u32)) _ 46 ?hg (N' := 14) ?hd (xs := ([l0, l1] : List (List Int))) (inner := [.slice A0 l0.length c0, .slice A1 l1.length c1]) (ok := (fun k_ => ((P0_ k_ ∨ P1_ k_) ∨ w.heap.size ≤ k_))) (okp := (fun k_ => ((P0_ k_ ∨ P1_ k_) ∨ w.heap.size ≤ k_))) ?hr ?hp (fun _ hk => hk) ((show ∀ k_, w.heap.size ≤ k_ → (fun k_ => ((P0_ k_ ∨ P1_ k_) ∨ w.heap.size ≤ k_)) k_ from fun k_ hk => (.inr (Nat.le_trans (below_size (by repeat (first | (with_reducible first | exact HB.out | apply below_alloc | apply pw_below_drewN | apply below_drew1) | exact HB.out))) hk))) _ (Nat.le_refl _)) (Below.refl _ _) (Nat.le_refl _) (by simp) ?_; (case hd => rfl); (case hg => rfl); (case hr => first | (go_simp; done) | (go_simp; rfl)); (case hp => exact (Reps.one (show Kd.FK (Kd.slice 75 (Kd.int .u32)) _ _ l0 [.slice A0 l0.length c0] from (Kd.FK_slice_mk (Kd.V_reads' (Kd.V_mono (ok' := (fun k_ => ((P0_ k_ ∨ P1_ k_) ∨ w.heap.size ≤ k_))) (HO0.out) (fun k_ hk => hk))).2.1 (Kd.V_F (Kd.V_mono (ok' := (fun k_ => ((P0_ k_ ∨ P1_ k_) ∨ w.heap.size ≤ k_))) (HO0.out) (fun k_ hk => hk))))) (Reps.one (show Kd.FK (Kd.slice 75 (Kd.int .u32)) _ _ l1 [.slice A1 l1.length c1] from (Kd.FK_slice_mk (Kd.V_reads' (Kd.V_mono (ok' := (fun k_ => ((P0_ k_ ∨ P1_ k_) ∨ w.heap.size ≤ k_))) (HO1.out) (fun k_ hk => hk))).2.1 (Kd.V_F (Kd.V_mono (ok' := (fun k_ => ((P0_ k_ ∨ P1_ k_) ∨ w.heap.size ≤ k_))) (HO1.out) (fun k_ hk => hk))))) (Reps.none _ _)))); intro v579 w42 ho43 hb hg_ hnew_; clear hg_ hnew_; (first | rw [← Ny578.out] at ho43 | (simp only [Int.reduceToNat] at ho43; rw [← Ny578.out] at ho43)); have n0_ := Aside0.mk (Kd.V_elder' (by (with_reducible repeat (first | apply Kd.V_alloc | apply Kd.V_drewN | apply Kd.V_drew)); exact HO0.out) (Kd.N_base ho43) hb); have n1_ := Aside0.mk (Kd.V_elder' (by (with_reducible repeat (first | apply Kd.V_alloc | apply Kd.V_drewN | apply Kd.V_drew)); exact HO1.out) (Kd.N_base ho43) hb); have n2_ := Aside0.mk (Kd.N_lower ho43 (below_size (by repeat (first | (with_reducible first | exact HB.out | apply below_alloc | apply pw_below_drewN | apply below_drew1) | exact HB.out)))); have n3_ := Aside0.mk (below_step (by repeat (first | (with_reducible first | exact HB.out | apply below_alloc | apply pw_below_drewN | apply below_drew1) | exact HB.out)) hb); clear HO0; clear HO1; clear HB; have HO0 := n0_; have HO1 := n1_; have HO580 := n2_; have HB := n3_; clear n0_ n1_ n2_ n3_; clear hb ho43; obtain ⟨Ao44, co44, eo44⟩ := Kd.N_slice HO580.out; subst eo44) | ((with_reducible refine gate_callee (f := 109) rfl ?_); refine goesL_ (some 15) rfl rfl Try.func109 (by kernel_rfl) rfl #[.slice Ao44 y578.length co44] rfl (by (try simp only [List.map_toArray, List.map_cons, List.map_nil]); first | done | rfl | (simp only [List.length_drop, List.length_take]; rfl)) ?_; (with_reducible refine (nat_may.calls _ _ y578 false _ ?side1 ?side2 A3.out).mono ?_); (case side1 => repeat (first | exact (Kd.N_reads' HO580.out).2.2 | (with_reducible refine Kd.C_alloc ?_ _) | (with_reducible refine Kd.C_drewN ?_ _) | (with_reducible refine Kd.C_drew ?_))); (case side2 => exact (Kd.N_reads' HO580.out).2.1); rintro e w45 ⟨rfl, hb⟩; refine ⟨_, rfl, ?_⟩; have n0_ := Aside0.mk (Kd.V_below (by (with_reducible repeat (first | apply Kd.V_alloc | apply Kd.V_drewN | apply Kd.V_drew)); exact HO0.out) hb); have n1_ := Aside0.mk (Kd.V_below (by (with_reducible repeat (first | apply Kd.V_alloc | apply Kd.V_drewN | apply Kd.V_drew)); exact HO1.out) hb); have n2_ := Aside0.mk (Kd.N_below (by (with_reducible repeat (first | apply Kd.N_alloc | apply Kd.N_drewN | apply Kd.N_drew)); exact HO580.out) hb); have n3_ := Aside0.mk (below_step (by repeat (first | (with_reducible first | exact HB.out | apply below_alloc | apply pw_below_drewN | apply below_drew1) | exact HB.out)) hb); clear HO0; clear HO1; clear HO580; clear HB; have HO0 := n0_; have HO1 := n1_; have HO580 := n2_; have HB := n3_; clear n0_ n1_ n2_ n3_; (try clear hb); (try clear hb2); (try clear hk); (try clear hi)))
    go_ret2
    exact ⟨_, by first | rfl | (simp [errW_none, errW_some] <;> rfl) | (simp [*, errW_none, errW_some] <;> rfl), by first | exact Kd.R_nil _ _ _ _ _ | exact Kd.N_nil _ _ _ _ _ | exact Kd.V_nil _ _ _ _ _ | exact Kd.Q_nil _ _ _ _ _ | exact Kd.S_nil _ _ _ _ _, by repeat (first | (with_reducible first | exact HB.out | apply below_alloc | apply pw_below_drewN | apply below_drew1) | exact HB.out)⟩
end Go.Proofs.Ytlifengbicpppaa.G
end
section
namespace Go.Proofs.Ytlifengbicpppaa.Num
open Go.Proofs.YtlifengbicpppaaW.PrintWords
theorem val_set2 {b : Nat} (l : List Int) (i : Nat) (x : Int) (hi : i < l.length) : val b (l.set i x) + b ^ i * (rd l (i : Int)).toNat = val b l + b ^ i * x.toNat := by
  have e1 : rd (l.set i x) (i : Int) = x := by simp [rd, List.getD_eq_getElem?_getD, hi]
  have e2 : (l.set i x).drop (i + 1) = l.drop (i + 1) := by
    apply List.ext_getElem?
    intro j
    rw [List.getElem?_drop, List.getElem?_drop, List.getElem?_set_ne (by omega)]
  have e3 : (l.set i x).take i = l.take i := by
    apply List.ext_getElem?
    intro j
    rw [List.getElem?_take, List.getElem?_take]
    split
    · rw [List.getElem?_set_ne (by omega)]
    · rfl
  rw [val_at (b := b) (l.set i x) i (by simp; exact hi), val_at (b := b) l i hi, e1, e2, e3, Nat.mul_add, Nat.mul_add]
  omega
theorem rd_set_other (l : List Int) (i j : Nat) (x : Int) (h : i ≠ j) : rd (l.set i x) (j : Int) = rd l (j : Int) := by
  simp [rd, List.getD_eq_getElem?_getD, List.getElem?_set_ne h]
end Go.Proofs.Ytlifengbicpppaa.Num
namespace Go.Proofs.Ytlifengbicpppaa.G
open Go.RowKit Go.Proofs.YtlifengbicpppaaW.PrintWords Go.Proofs.YtlifengbicpppaaW.PrintLast Go.Proofs.YtlifengbicpppaaW.PrintMore
open Go.Proofs.Ytlifengbicpppaa.Num
theorem mul_word {a y o c : Int} (a0 : 0 ≤ a) (a1 : a < 4294967296) (y0 : 0 ≤ y) (y1 : y < 4294967296) (o0 : 0 ≤ o) (o1 : o < 4294967296) (c0 : 0 ≤ c) (c1 : c < 4294967296) :
    IntKind.u64.wrap (c + IntKind.u64.wrap (IntKind.u64.wrap (IntKind.u64.wrap a * IntKind.u64.wrap y) + IntKind.u64.wrap o)) = c + (a * y + o) ∧ 0 ≤ a * y ∧ c + (a * y + o) < 4294967296 * 4294967296 := by
  have h1 : 0 ≤ a * y := Int.mul_nonneg a0 y0
  have h2 : a * y ≤ 4294967295 * 4294967295 := Int.mul_le_mul (by omega) (by omega) y0 (by omega)
  rw [IntWalk.u64_in a (by omega), IntWalk.u64_in y (by omega), IntWalk.u64_in o (by omega), IntWalk.u64_in (a * y) (by omega), IntWalk.u64_in (a * y + o) (by omega), IntWalk.u64_in _ (by omega)]
  omega
/-- The product of the first i limbs is there. -/
structure MI (x y out : List Int) (i : Nat) : Prop where
  len : out.length = x.length + y.length
  dg : Dg 4294967296 out
  sum : val 4294967296 out = val 4294967296 (x.take i) * val 4294967296 y
  zero : ∀ j, i + y.length ≤ j → rd out (j : Int) = 0
/-- .. and of the next one with the first j of the other's. -/
structure MJ (x y out : List Int) (i j : Nat) (a c : Int) : Prop where
  len : out.length = x.length + y.length
  dg : Dg 4294967296 out
  sum : val 4294967296 out + 4294967296 ^ (i + j) * c.toNat = val 4294967296 (x.take i) * val 4294967296 y + 4294967296 ^ i * (a.toNat * val 4294967296 (y.take j))
  zero : ∀ j, i + y.length ≤ j → rd out (j : Int) = 0
  c0 : 0 ≤ c
  c1 : c < 4294967296
theorem MI.start (x y : List Int) : MI x y (List.replicate (x.length + y.length) 0) 0 :=
  ⟨by simp, Dg.replicate (by decide) _, by rw [val_zeros]; simp [val_nil], fun j _ => by simp only [rd, List.getD_eq_getElem?_getD, List.getElem?_replicate]; split <;> rfl⟩
theorem MI.inner {x y out : List Int} {i : Nat} (h : MI x y out i) (a : Int) : MJ x y out i 0 a 0 :=
  ⟨h.len, h.dg, by rw [h.sum]; simp [val_nil], h.zero, by decide, by decide⟩
theorem MJ.step {x y out : List Int} {i j : Nat} {a c : Int} (h : MJ x y out i j a c) (hy : Dg 4294967296 y) (hi : i < x.length) (hj : j < y.length) (a0 : 0 ≤ a) (a1 : a < 4294967296) :
    MJ x y (out.set (i + j) ((c + (a * rd y (j : Int) + rd out ((i + j : Nat) : Int))) % 4294967296)) i (j + 1) a ((c + (a * rd y (j : Int) + rd out ((i + j : Nat) : Int))) / 4294967296) := by
  have hl := h.len
  have b1 := rdb hy (j : Int)
  have b2 := rdb h.dg ((i + j : Nat) : Int)
  have hw := mul_word a0 a1 b1.1 b1.2 b2.1 b2.2 h.c0 h.c1
  have c0 := h.c0
  obtain ⟨-, hw1, hw2⟩ := hw
  obtain ⟨S, hS⟩ : ∃ S, S = c + (a * rd y (j : Int) + rd out ((i + j : Nat) : Int)) := ⟨_, rfl⟩
  rw [← hS] at hw2 ⊢
  have hS0 : 0 ≤ S := by omega
  refine ⟨by simp [hl], h.dg.set _ (by omega) (by omega), ?_, fun t ht => ?_, by omega, by omega⟩
  · have hv := val_set2 (b := 4294967296) out (i + j) (S % 4294967296) (by omega)
    have hsum := h.sum
    rw [val_take_succ, show i + (j + 1) = i + j + 1 by omega, Nat.pow_succ]
    have hnat : c.toNat + a.toNat * (rd y (j : Int)).toNat + (rd out ((i + j : Nat) : Int)).toNat = (S % 4294967296).toNat + 4294967296 * (S / 4294967296).toNat := by
      have h1 : (a * rd y (j : Int)).toNat = a.toNat * (rd y (j : Int)).toNat := Int.toNat_mul a0 b1.1
      rw [← h1]
      omega
    have hp : 4294967296 ^ (i + j) * (c.toNat + a.toNat * (rd y (j : Int)).toNat + (rd out ((i + j : Nat) : Int)).toNat) = 4294967296 ^ (i + j) * ((S % 4294967296).toNat + 4294967296 * (S / 4294967296).toNat) := by rw [hnat]
    rw [Nat.mul_add, Nat.mul_add, Nat.mul_add] at hp
    have e1 : 4294967296 ^ i * (a.toNat * (val 4294967296 (y.take j) + 4294967296 ^ j * (rd y (j : Int)).toNat)) = 4294967296 ^ i * (a.toNat * val 4294967296 (y.take j)) + 4294967296 ^ (i + j) * (a.toNat * (rd y (j : Int)).toNat) := by
      rw [Nat.mul_add, Nat.mul_add, Nat.pow_add]
      congr 1
      rw [Nat.mul_left_comm a.toNat, Nat.mul_assoc]
    rw [e1, Nat.mul_assoc]
    generalize 4294967296 ^ (i + j) * (4294967296 * (S / 4294967296).toNat) = z1 at *
    generalize 4294967296 ^ (i + j) * (S % 4294967296).toNat = z2 at *
    generalize 4294967296 ^ (i + j) * (rd out ((i + j : Nat) : Int)).toNat = z3 at *
    generalize 4294967296 ^ (i + j) * (a.toNat * (rd y (j : Int)).toNat) = z4 at *
    generalize 4294967296 ^ (i + j) * c.toNat = z5 at *
    generalize 4294967296 ^ i * (a.toNat * val 4294967296 (y.take j)) = z6 at *
    generalize val 4294967296 (x.take i) * val 4294967296 y = z7 at *
    omega
  · rw [rd_set_other _ _ _ _ (by omega)]
    exact h.zero t ht
theorem MJ.done {x y out : List Int} {i : Nat} {c : Int} (h : MJ x y out i y.length (rd x (i : Int)) c) (hi : i < x.length) : MI x y (out.set (i + y.length) c) (i + 1) := by
  have hl := h.len
  have hv := val_set2 (b := 4294967296) out (i + y.length) c (by omega)
  rw [h.zero _ (Nat.le_refl _)] at hv
  refine ⟨by simp [hl], h.dg.set _ h.c0 h.c1, ?_, fun t ht => ?_⟩
  · rw [val_take_succ, Nat.add_mul, Nat.mul_assoc]
    have hs := h.sum
    rw [List.take_length] at hs
    simp only [Int.toNat_zero, Nat.mul_zero, Nat.add_zero] at hv
    rw [hv]
    exact hs
  · rw [rd_set_other _ _ _ _ (by omega)]
    exact h.zero t (by omega)
theorem mul_l1 (x y : List Int) (hx : Dg 4294967296 x) (hy : Dg 4294967296 y) (hlx : x.length < 1000000) (hly : y.length < 1000000) (i : Nat) (hi : i < x.length) (r : List Int × Int)
    (hk : ∀ out, MI x y out (i + 1) → Ev (fun k => nat_Mul.l0 k y out x (x.length : Int) ((i + 1 : Nat) : Int)) r) :
    ∀ (d j : Nat) (out : List Int) (c : Int), d = y.length - j → j ≤ y.length → MJ x y out i j (rd x (i : Int)) c → Ev (fun k => nat_Mul.l1 k y out (i : Int) (rd x (i : Int)) c x (x.length : Int) (i : Int) y (y.length : Int) (j : Int)) r
  | 0, j, out, c, hd, hj, h => by
    obtain rfl : j = y.length := by omega
    have hl := h.len
    have c1 : ¬ ((y.length : Nat) : Int) < (y.length : Int) := by omega
    have c2 : (0 : Int) ≤ ((i + y.length : Nat) : Int) := by omega
    have c3 : ((i + y.length : Nat) : Int) < (out.length : Int) := by omega
    have hcm : c % 4294967296 = c := by have := h.c0; have := h.c1; omega
    have e1 : wrap64 ((i : Int) + (y.length : Int)) = ((i + y.length : Nat) : Int) := (w64 (by omega) (by omega)).trans (by omega)
    have e2 : wrap64 ((i : Int) + 1) = ((i + 1 : Nat) : Int) := by clear e1; exact (w64 (by omega) (by omega)).trans (by omega)
    refine Ev.step (f := fun k => nat_Mul.l0 k y (out.set (i + y.length) c) x (x.length : Int) ((i + 1 : Nat) : Int)) (fun k => ?_) (hk _ (h.done hi))
    simp only [nat_Mul.l1]
    rw [if_neg c1, e1, e2, if_pos c2, if_pos c3, hcm, Int.toNat_natCast]
  | d + 1, j, out, c, hd, hj, h => by
    have hl := h.len
    have b0 := rdb hx (i : Int)
    have b1 := rdb hy (j : Int)
    have b2 := rdb h.dg ((i + j : Nat) : Int)
    have hw := (mul_word b0.1 b0.2 b1.1 b1.2 b2.1 b2.2 h.c0 h.c1).1
    have c1 : (j : Int) < (y.length : Int) := by clear hw; omega
    have c2 : (0 : Int) ≤ (j : Int) := by clear hw; omega
    have c3 : (0 : Int) ≤ ((i + j : Nat) : Int) := by clear hw; omega
    have c4 : ((i + j : Nat) : Int) < (out.length : Int) := by clear hw; omega
    have e1 : wrap64 ((i : Int) + (j : Int)) = ((i + j : Nat) : Int) := by clear hw; exact (w64 (by omega) (by omega)).trans (by omega)
    have e2 : wrap64 ((j : Int) + 1) = ((j + 1 : Nat) : Int) := by clear hw e1; exact (w64 (by omega) (by omega)).trans (by omega)
    refine Ev.step (fun k => ?_) (mul_l1 x y hx hy hlx hly i hi r hk d (j + 1) _ _ (by clear hw e1 e2; omega) (by clear hw e1 e2; omega) (h.step hy hi (by clear hw e1 e2; omega) b0.1 b0.2))
    simp only [nat_Mul.l1]
    rw [e1, hw, e2, if_pos c1, if_pos c2, if_pos c1, if_pos c3, if_pos c4, Int.toNat_natCast]
theorem mul_l0 (x y : List Int) (hx : Dg 4294967296 x) (hy : Dg 4294967296 y) (hlx : x.length < 1000000) (hly : y.length < 1000000) : ∀ (d i : Nat) (out : List Int), d = x.length - i → i ≤ x.length → MI x y out i →
    Ev (fun k => nat_Mul.l0 k y out x (x.length : Int) (i : Int)) (CUT (val 4294967296 x * val 4294967296 y))
  | 0, i, out, hd, hi, h => by
    obtain rfl : i = x.length := by omega
    have hs := h.sum
    rw [List.take_length] at hs
    rw [← hs]
    refine Ev.step (f := fun _ => some (CUT (val 4294967296 out))) (fun k => ?_) (Ev.now _)
    simp only [nat_Mul.l0]
    rw [if_neg (by omega), checked_cut h.dg]
    rfl
  | d + 1, i, out, hd, hi, h => by
    have c1 : (i : Int) < (x.length : Int) := by omega
    have c2 : (0 : Int) ≤ (i : Int) := by omega
    refine Ev.step (f := fun k => nat_Mul.l1 k y out (i : Int) (rd x (i : Int)) 0 x (x.length : Int) (i : Int) y (y.length : Int) ((0 : Nat) : Int)) (fun k => ?_)
      (mul_l1 x y hx hy hlx hly i (by omega) _ (fun out' h' => mul_l0 x y hx hy hlx hly d (i + 1) out' (by omega) (by omega) h') y.length 0 out 0 (by omega) (by omega) (h.inner _))
    simp only [nat_Mul.l0]
    rw [if_pos c1, if_pos c2, if_pos c1]
    rfl
theorem mul_ev (x y : List Int) (hx : Lb x) (hy : Lb y) : Ev (fun k => nat_Mul.f k x y) (MUL x y) := by
  unfold nat_Mul.f MUL nat_may.f
  rw [anyfits]
  simp only [Bool.not_not, Option.bind_some]
  by_cases hf : (fits x && fits y) = true
  · simp only [hf, if_true]
    have h1 := strip_length x
    have h2 := strip_length y
    have hlx := hx.len
    have hly := hy.len
    refine (bare_ev x (by omega)).bind ?_
    refine (bare_ev y (by omega)).bind ?_
    rw [← val_strip x, ← val_strip y]
    have dx := strip_Dg hx.dg
    have dy := strip_Dg hy.dg
    generalize strip x = u at *
    generalize strip y = v at *
    have e1 : wrap64 ((u.length : Int) + (v.length : Int)) = ((u.length + v.length : Nat) : Int) := (w64 (by omega) (by omega)).trans (by omega)
    have c1 : (0 : Int) ≤ ((u.length + v.length : Nat) : Int) := by clear e1; omega
    have c2 : u.length + v.length ≤ 70368744177664 := by clear e1; omega
    have h := mul_l0 u v dx dy (by clear e1; omega) (by clear e1; omega) u.length 0 _ (by clear e1; omega) (by clear e1; omega) (MI.start u v)
    simp only [e1, if_pos c1, Int.toNat_natCast, if_pos c2]
    exact h
  · simp only [hf]
    exact Ev.now _
end Go.Proofs.Ytlifengbicpppaa.G
end
section
namespace Go.Proofs.Ytlifengbicpppaa.G
open Go.RowKit Go.Proofs.YtlifengbicpppaaW.PrintWords Go.Proofs.YtlifengbicpppaaW.PrintLast Go.Proofs.YtlifengbicpppaaW.PrintMore
attribute [local go_sem] max2_int min2_int max_two min_two max_three min_three max_four min_four   -- for this text's walks alone
set_option linter.unusedVariables false
set_option linter.unusedSimpArgs false
def postmarkref02_Cut.f (k : Nat) (l0 : List Int) : Option (List Int × Int) := (postmarkref02_Short.f k l0).bind fun t304 => (if (t304.length : Int) > 1024 then (some (([] : List Int), 20)) else ((postmarkref02_Limbs.f k t304).bind fun t307 => (some (t307, 0))))
set_option maxHeartbeats 8000000 in
set_option maxRecDepth 100000 in
theorem postmarkref02_Cut.calls (k : Nat) (P0_ : Nat → Prop) (u9000_ : Value) (l0 : List Int) (r1 : List Int) (r2 : Int) (w0 w : World) (hB : Below w0.heap.size w0 w) (ho0 : Kd.R (Kd.int .i64) 3 w w0.heap.size P0_ u9000_ l0) (h : postmarkref02_Cut.f k l0 = some (r1, r2)) :
    Calls Try.prog 126 #[u9000_] w fun e w' => ∃ v0_ : Value, e = .returned (.tuple #[v0_, .int .i64 r2]) ∧ Kd.R (Kd.int .u32) 75 w' w0.heap.size (fun k_ => (P0_ k_ ∨ w.heap.size ≤ k_)) v0_ r1 ∧ Below w0.heap.size w0 w' ∧ Kept w w' (fun k_ => P0_ k_) := by
  have HO0 := Aside0.mk (show Kd.R (Kd.int .i64) 3 w w0.heap.size (fun k_ => (P0_ k_ ∨ w.heap.size ≤ k_)) u9000_ l0 from Kd.R_mono ho0 (fun k_ hk => (.inl hk)))
  have HK := Aside0.mk (Kept.refl w (fun k_ => P0_ k_))
  have HW0 := Aside0.mk hB.size
  have HB := Aside0.mk hB
  clear hB
  have H : ((postmarkref02_Short.f k l0).bind fun t304 => (if (t304.length : Int) > 1024 then (some (([] : List Int), 20)) else ((postmarkref02_Limbs.f k t304).bind fun t307 => (some (t307, 0))))) = some (r1, r2) := h
  clear h
  replace H := Option.bind_eq_some_iff.mp H
  obtain ⟨t304, A20, H⟩ := H
  replace H : (if (t304.length : Int) > 1024 then (some (([] : List Int), 20)) else ((postmarkref02_Limbs.f k t304).bind fun t307 => (some (t307, 0)))) = some (r1, r2) := H
  have A2 := Aside0.mk A20
  clear A20
  by_cases c3 : (t304.length : Int) > 1024
  · rw [if_pos c3] at H
    have c3b0 : decide (1024 < (t304.length : Int)) = true := decide_eq_true c3
    have c3b1 : decide (1024 < t304.length) = true := decide_eq_true (by omega)
    clear c3
    simp only [Option.some.injEq, Prod.mk.injEq] at H
    obtain ⟨rfl, rfl⟩ := H
    obtain ⟨Ao4, co4, eo4⟩ := Kd.R_slice HO0.out
    subst eo4
    go_enter Try.func126, Try.ntmps126
    go_wp2_with (first | ((with_reducible refine gate_callee (f := 115) rfl ?_); refine goesL_ (some 5) rfl rfl Try.func115 (by kernel_rfl) rfl #[.slice Ao4 l0.length co4] rfl (by (try simp only [List.map_toArray, List.map_cons, List.map_nil]); first | done | rfl | (simp only [List.length_drop, List.length_take]; rfl)) ?_; (with_reducible refine (postmarkref02_Short.calls k (fun k_ => some k_ = (.slice Ao4 l0.length co4 : Value).ownBlock) (.slice Ao4 l0.length co4) l0 t304 w0 _ ?side1 ?side2 A2.out).mono ?_); (case side1 => repeat (first | (with_reducible first | exact HB.out | apply below_alloc | apply pw_below_drewN | apply below_drew1) | exact HB.out)); (case side2 => exact Kd.R_tight rfl HO0.out); rintro e w5 ⟨v305, rfl, ho0, hb, hkp⟩; refine ⟨_, rfl, ?_⟩; have n0_ := Aside0.mk (Kd.R_mono (ok' := fun k_ => (P0_ k_ ∨ w.heap.size ≤ k_)) ho0 (fun k_ hk_ => Or.elim hk_ (fun hs_ => (HO0.out.1 k_ (hs_).symm)) (fun hn_ => (.inr (Nat.le_trans (by first | exact HK.out.1 | exact (show Kept w _ (fun k_ => P0_ k_) from by repeat (first | (with_reducible first | exact HK.out | apply Kept.alloc | apply Kept.drewN | apply Kept.drew) | exact HK.out)).1) hn_))))); have n1_ := Aside0.mk (Kept.then_ (S := (fun k_ => P0_ k_)) (by repeat (first | (with_reducible first | exact HK.out | apply Kept.alloc | apply Kept.drewN | apply Kept.drew) | exact HK.out)) hkp (fun k_ hs_ => (fun e_ => (HO0.out.1 k_ e_.symm)) hs_)); have n2_ := Aside0.mk (hb); clear HK; clear HB; clear HO0; have HO306 := n0_; have HK := n1_; have HB := n2_; clear n0_ n1_ n2_; (try clear hb); (try clear hkp); (try clear ho0); obtain ⟨Ao6, co6, eo6⟩ := Kd.R_slice HO306.out; subst eo6))
    go_ret2
    exact ⟨_, by first | rfl | (simp [errW_none, errW_some] <;> rfl) | (simp [*, errW_none, errW_some] <;> rfl), by first | exact Kd.R_nil _ _ _ _ _ | exact Kd.N_nil _ _ _ _ _ | exact Kd.V_nil _ _ _ _ _ | exact Kd.Q_nil _ _ _ _ _ | exact Kd.S_nil _ _ _ _ _, by repeat (first | (with_reducible first | exact HB.out | apply below_alloc | apply pw_below_drewN | apply below_drew1) | exact HB.out), by repeat (first | (with_reducible first | exact HK.out | apply Kept.alloc | apply Kept.drewN | apply Kept.drew) | exact HK.out)⟩
  · rw [if_neg c3] at H
    have c3b0 : decide (1024 < (t304.length : Int)) = false := decide_eq_false c3
    have c3b1 : decide (1024 < t304.length) = false := decide_eq_false (by omega)
    clear c3
    replace H := Option.bind_eq_some_iff.mp H
    obtain ⟨t307, A70, H⟩ := H
    replace H : (some (t307, 0)) = some (r1, r2) := H
    have A7 := Aside0.mk A70
    clear A70
    simp only [Option.some.injEq, Prod.mk.injEq] at H
    obtain ⟨rfl, rfl⟩ := H
    obtain ⟨Ao8, co8, eo8⟩ := Kd.R_slice HO0.out
    subst eo8
    go_enter Try.func126, Try.ntmps126
    go_wp2_with (first | ((with_reducible refine gate_callee (f := 115) rfl ?_); refine goesL_ (some 5) rfl rfl Try.func115 (by kernel_rfl) rfl #[.slice Ao8 l0.length co8] rfl (by (try simp only [List.map_toArray, List.map_cons, List.map_nil]); first | done | rfl | (simp only [List.length_drop, List.length_take]; rfl)) ?_; (with_reducible refine (postmarkref02_Short.calls k (fun k_ => some k_ = (.slice Ao8 l0.length co8 : Value).ownBlock) (.slice Ao8 l0.length co8) l0 t304 w0 _ ?side1 ?side2 A2.out).mono ?_); (case side1 => repeat (first | (with_reducible first | exact HB.out | apply below_alloc | apply pw_below_drewN | apply below_drew1) | exact HB.out)); (case side2 => exact Kd.R_tight rfl HO0.out); rintro e w9 ⟨v305, rfl, ho0, hb, hkp⟩; refine ⟨_, rfl, ?_⟩; have n0_ := Aside0.mk (Kd.R_mono (ok' := fun k_ => (P0_ k_ ∨ w.heap.size ≤ k_)) ho0 (fun k_ hk_ => Or.elim hk_ (fun hs_ => (HO0.out.1 k_ (hs_).symm)) (fun hn_ => (.inr (Nat.le_trans (by first | exact HK.out.1 | exact (show Kept w _ (fun k_ => P0_ k_) from by repeat (first | (with_reducible first | exact HK.out | apply Kept.alloc | apply Kept.drewN | apply Kept.drew) | exact HK.out)).1) hn_))))); have n1_ := Aside0.mk (Kept.then_ (S := (fun k_ => P0_ k_)) (by repeat (first | (with_reducible first | exact HK.out | apply Kept.alloc | apply Kept.drewN | apply Kept.drew) | exact HK.out)) hkp (fun k_ hs_ => (fun e_ => (HO0.out.1 k_ e_.symm)) hs_)); have n2_ := Aside0.mk (hb); clear HK; clear HB; clear HO0; have HO306 := n0_; have HK := n1_; have HB := n2_; clear n0_ n1_ n2_; (try clear hb); (try clear hkp); (try clear ho0); obtain ⟨Ao10, co10, eo10⟩ := Kd.R_slice HO306.out; subst eo10) | ((with_reducible refine gate_callee (f := 80) rfl ?_); refine goesL_ (some 10) rfl rfl Try.func80 (by kernel_rfl) rfl #[.slice Ao10 t304.length co10] rfl (by (try simp only [List.map_toArray, List.map_cons, List.map_nil]); first | done | rfl | (simp only [List.length_drop, List.length_take]; rfl)) ?_; (with_reducible refine (postmarkref02_Limbs.calls k (fun k_ => some k_ = (.slice Ao10 t304.length co10 : Value).ownBlock) (.slice Ao10 t304.length co10) t304 t307 w0 _ ?side1 ?side2 A7.out).mono ?_); (case side1 => repeat (first | (with_reducible first | exact HB.out | apply below_alloc | apply pw_below_drewN | apply below_drew1) | exact HB.out)); (case side2 => exact Kd.R_tight rfl HO306.out); rintro e w11 ⟨v308, rfl, ho0, hb, hkp⟩; refine ⟨_, rfl, ?_⟩; have n0_ := Aside0.mk (Kd.R_mono (ok' := fun k_ => (P0_ k_ ∨ w.heap.size ≤ k_)) ho0 (fun k_ hk_ => Or.elim hk_ (fun hs_ => (HO306.out.1 k_ (hs_).symm)) (fun hn_ => (.inr (Nat.le_trans (by first | exact HK.out.1 | exact (show Kept w _ (fun k_ => P0_ k_) from by repeat (first | (with_reducible first | exact HK.out | apply Kept.alloc | apply Kept.drewN | apply Kept.drew) | exact HK.out)).1) hn_))))); have n1_ := Aside0.mk (Kept.then_ (S := (fun k_ => P0_ k_)) (by repeat (first | (with_reducible first | exact HK.out | apply Kept.alloc | apply Kept.drewN | apply Kept.drew) | exact HK.out)) hkp (fun k_ hs_ => (fun e_ => (HO306.out.1 k_ e_.symm)) hs_)); have n2_ := Aside0.mk (hb); clear HK; clear HB; clear HO306; have HO309 := n0_; have HK := n1_; have HB := n2_; clear n0_ n1_ n2_; (try clear hb); (try clear hkp); (try clear ho0)))
    go_ret2
    exact ⟨_, by first | rfl | (simp [errW_none, errW_some] <;> rfl) | (simp [*, errW_none, errW_some] <;> rfl), by (with_reducible repeat (first | apply Kd.R_alloc | apply Kd.R_drewN | apply Kd.R_drew)); exact HO309.out, by repeat (first | (with_reducible first | exact HB.out | apply below_alloc | apply pw_below_drewN | apply below_drew1) | exact HB.out), by repeat (first | (with_reducible first | exact HK.out | apply Kept.alloc | apply Kept.drewN | apply Kept.drew) | exact HK.out)⟩
end Go.Proofs.Ytlifengbicpppaa.G
end
section
namespace Go.Proofs.Ytlifengbicpppaa.G
open Go.RowKit Go.Proofs.YtlifengbicpppaaW.PrintWords Go.Proofs.YtlifengbicpppaaW.PrintLast Go.Proofs.YtlifengbicpppaaW.PrintMore
attribute [local go_sem] max2_int min2_int max_two min_two max_three min_three max_four min_four   -- for this text's walks alone
set_option linter.unusedVariables false
set_option linter.unusedSimpArgs false
mutual
def postmarkref02_Add.l0 : Nat → List Int → List Int → List Int → Int → Int → Option (List Int × Int)
  | 0, _, _, _, _, _ => none
  | k + 1, x7, x8, x9, x10, x11 => if x11 < (x7.length : Int) then (postmarkref02_Add.j1 k x7 x8 x9 x10 x11 true) else (if x11 < (x8.length : Int) then (postmarkref02_Add.j1 k x7 x8 x9 x10 x11 true) else (postmarkref02_Add.j1 k x7 x8 x9 x10 x11 (decide (x10 > 0))))
def postmarkref02_Add.j1 : Nat → List Int → List Int → List Int → Int → Int → Bool → Option (List Int × Int)
  | 0, _, _, _, _, _, _ => none
  | k + 1, x7, x8, x9, x10, x11, x34 => if x34 = true then (if x11 < (x7.length : Int) then (if 0 ≤ x11 then (if x11 < (x8.length : Int) then (if x9.length < 17592186044416 then (postmarkref02_Add.l0 k x7 x8 (x9 ++ [Int.tmod (wrap64 ((wrap64 (x10 + (rd x7 x11))) + (rd x8 x11))) 256]) (wrap64 (Int.tdiv (wrap64 ((wrap64 (x10 + (rd x7 x11))) + (rd x8 x11))) 256)) (wrap64 (x11 + 1))) else (none)) else (if x9.length < 17592186044416 then (postmarkref02_Add.l0 k x7 x8 (x9 ++ [Int.tmod (wrap64 (x10 + (rd x7 x11))) 256]) (wrap64 (Int.tdiv (wrap64 (x10 + (rd x7 x11))) 256)) (wrap64 (x11 + 1))) else (none))) else (none)) else (if x11 < (x8.length : Int) then (if 0 ≤ x11 then (if x9.length < 17592186044416 then (postmarkref02_Add.l0 k x7 x8 (x9 ++ [Int.tmod (wrap64 (x10 + (rd x8 x11))) 256]) (wrap64 (Int.tdiv (wrap64 (x10 + (rd x8 x11))) 256)) (wrap64 (x11 + 1))) else (none)) else (none)) else (if x9.length < 17592186044416 then (postmarkref02_Add.l0 k x7 x8 (x9 ++ [Int.tmod x10 256]) (wrap64 (Int.tdiv x10 256)) (wrap64 (x11 + 1))) else (none)))) else ((postmarkref02_Cut.f k x9).bind fun bt367 => (some (bt367.1, bt367.2)))
end
def postmarkref02_Add.f (k : Nat) (l0 : List Int) (l1 : List Int) : Option (List Int × Int) := (postmarkref02_May.f k l0 l1).bind fun t360 => (if t360 = true then ((postmarkref02_Digits.f k l0).bind fun t361 => ((postmarkref02_Digits.f k l1).bind fun t364 => (postmarkref02_Add.l0 k t361 t364 ([] : List Int) 0 0))) else (some (([] : List Int), 20)))
set_option maxHeartbeats 8000000 in
set_option maxRecDepth 100000 in
theorem postmarkref02_Add.calls (k : Nat) (A0 : Option Addr) (c0 : Nat) (l0 : List Int) (A1 : Option Addr) (c1 : Nat) (l1 : List Int) (r1 : List Int) (r2 : Int) (w : World) (hr0 : Kd.C (Kd.int .u32) w A0 l0.length l0) (hc0 : l0.length ≤ c0) (hr1 : Kd.C (Kd.int .u32) w A1 l1.length l1) (hc1 : l1.length ≤ c1) (h : postmarkref02_Add.f k l0 l1 = some (r1, r2)) :
    Calls Try.prog 90 #[.slice A0 l0.length c0, .slice A1 l1.length c1] w fun e w' => ∃ v0_ : Value, e = .returned (.tuple #[v0_, .int .i64 r2]) ∧ Kd.R (Kd.int .u32) 75 w' w.heap.size (fun _ => True) v0_ r1 ∧ Below w.heap.size w w' := by
  have HR0 := Aside0.mk hr0
  have HC0 := Aside0.mk hc0
  clear hr0 hc0
  have HR1 := Aside0.mk hr1
  have HC1 := Aside0.mk hc1
  clear hr1 hc1
  have HB := Aside0.mk (Below.refl w.heap.size w)
  have H : ((postmarkref02_May.f k l0 l1).bind fun t360 => (if t360 = true then ((postmarkref02_Digits.f k l0).bind fun t361 => ((postmarkref02_Digits.f k l1).bind fun t364 => (postmarkref02_Add.l0 k t361 t364 ([] : List Int) 0 0))) else (some (([] : List Int), 20)))) = some (r1, r2) := h
  clear h
  replace H := Option.bind_eq_some_iff.mp H
  obtain ⟨t360, A30, H⟩ := H
  replace H : (if t360 = true then ((postmarkref02_Digits.f k l0).bind fun t361 => ((postmarkref02_Digits.f k l1).bind fun t364 => (postmarkref02_Add.l0 k t361 t364 ([] : List Int) 0 0))) else (some (([] : List Int), 20))) = some (r1, r2) := H
  have A3 := Aside0.mk A30
  clear A30
  by_cases c4 : t360 = true
  · subst c4
    have H1 : ((postmarkref02_Digits.f k l0).bind fun t361 => ((postmarkref02_Digits.f k l1).bind fun t364 => (postmarkref02_Add.l0 k t361 t364 ([] : List Int) 0 0))) = some (r1, r2) := by rw [if_pos rfl] at H; exact H
    clear H
    have H := H1
    clear H1
    replace H := Option.bind_eq_some_iff.mp H
    obtain ⟨t361, A50, H⟩ := H
    replace H : ((postmarkref02_Digits.f k l1).bind fun t364 => (postmarkref02_Add.l0 k t361 t364 ([] : List Int) 0 0)) = some (r1, r2) := H
    have A5 := Aside0.mk A50
    clear A50
    replace H := Option.bind_eq_some_iff.mp H
    obtain ⟨t364, A60, H⟩ := H
    replace H : (postmarkref02_Add.l0 k t361 t364 ([] : List Int) 0 0) = some (r1, r2) := H
    have A6 := Aside0.mk A60
    clear A60
    have H' := Aside0.mk H
    clear H
    go_enter Try.func90, Try.ntmps90
    go_wp2_with (first | ((with_reducible refine gate_callee (f := 30) rfl ?_); refine goesL_ (some 14) rfl rfl Try.func30 (by kernel_rfl) rfl #[.slice A0 l0.length c0, .slice A1 l1.length c1] rfl (by (try simp only [List.map_toArray, List.map_cons, List.map_nil]); first | done | rfl | (simp only [List.length_drop, List.length_take]; rfl)) ?_; (with_reducible refine (postmarkref02_May.calls k _ _ l0 _ _ l1 true _ ?side1 ?side2 ?side3 ?side4 A3.out).mono ?_); (case side1 => repeat (first | exact HR0.out | (with_reducible refine Kd.C_alloc ?_ _) | (with_reducible refine Kd.C_drewN ?_ _) | (with_reducible refine Kd.C_drew ?_))); (case side2 => exact HC0.out); (case side3 => repeat (first | exact HR1.out | (with_reducible refine Kd.C_alloc ?_ _) | (with_reducible refine Kd.C_drewN ?_ _) | (with_reducible refine Kd.C_drew ?_))); (case side4 => exact HC1.out); rintro e w7 ⟨rfl, hb⟩; refine ⟨_, rfl, ?_⟩; have n0_ := Aside0.mk (below_step (by repeat (first | (with_reducible first | exact HB.out | apply below_alloc | apply pw_below_drewN | apply below_drew1) | exact HB.out)) hb); clear HB; have HB := n0_; clear n0_; (try clear hb); (try clear hb2); (try clear hk); (try clear hi)) | ((with_reducible refine gate_callee (f := 76) rfl ?_); refine goesL_ (some 18) rfl rfl Try.func76 (by kernel_rfl) rfl #[.slice A0 l0.length c0] rfl (by (try simp only [List.map_toArray, List.map_cons, List.map_nil]); first | done | rfl | (simp only [List.length_drop, List.length_take]; rfl)) ?_; (with_reducible refine (postmarkref02_Digits.calls k _ _ l0 t361 _ ?side1 ?side2 A5.out).mono ?_); (case side1 => repeat (first | exact (Kd.C_below HR0.out HB.out) | (with_reducible refine Kd.C_alloc ?_ _) | (with_reducible refine Kd.C_drewN ?_ _) | (with_reducible refine Kd.C_drew ?_))); (case side2 => exact HC0.out); rintro e w8 ⟨v362, rfl, ho0, hb⟩; refine ⟨_, rfl, ?_⟩; have n0_ := Aside0.mk (Kd.R_lower ho0 (below_size (by repeat (first | (with_reducible first | exact HB.out | apply below_alloc | apply pw_below_drewN | apply below_drew1) | exact HB.out)))); have n1_ := Aside0.mk (below_step (by repeat (first | (with_reducible first | exact HB.out | apply below_alloc | apply pw_below_drewN | apply below_drew1) | exact HB.out)) hb); clear HB; have HO363 := n0_; have HB := n1_; clear n0_ n1_; (try clear hb); (try clear hb2); (try clear hk); (try clear hi); (try clear ho0)) | ((with_reducible refine gate_callee (f := 76) rfl ?_); refine goesL_ (some 20) rfl rfl Try.func76 (by kernel_rfl) rfl #[.slice A1 l1.length c1] rfl (by (try simp only [List.map_toArray, List.map_cons, List.map_nil]); first | done | rfl | (simp only [List.length_drop, List.length_take]; rfl)) ?_; (with_reducible refine (postmarkref02_Digits.calls k _ _ l1 t364 _ ?side1 ?side2 A6.out).mono ?_); (case side1 => repeat (first | exact (Kd.C_below HR1.out HB.out) | (with_reducible refine Kd.C_alloc ?_ _) | (with_reducible refine Kd.C_drewN ?_ _) | (with_reducible refine Kd.C_drew ?_))); (case side2 => exact HC1.out); rintro e w9 ⟨v365, rfl, ho0, hb⟩; refine ⟨_, rfl, ?_⟩; have n0_ := Aside0.mk (Kd.R_elder' (by (with_reducible repeat (first | apply Kd.R_alloc | apply Kd.R_drewN | apply Kd.R_drew)); exact HO363.out) (Kd.R_base ho0) hb); have n1_ := Aside0.mk (Kd.R_lower (Kd.R_new' ho0 (Kd.R_lt (by (with_reducible repeat (first | apply Kd.R_alloc | apply Kd.R_drewN | apply Kd.R_drew)); exact HO363.out))) (below_size (by repeat (first | (with_reducible first | exact HB.out | apply below_alloc | apply pw_below_drewN | apply below_drew1) | exact HB.out)))); have n2_ := Aside0.mk (below_step (by repeat (first | (with_reducible first | exact HB.out | apply below_alloc | apply pw_below_drewN | apply below_drew1) | exact HB.out)) hb); clear HO363; clear HB; have HO363 := n0_; have HO366 := n1_; have HB := n2_; clear n0_ n1_ n2_; (try clear hb); (try clear hb2); (try clear hk); (try clear hi); (try clear ho0)))
    go_loopg [9, 10, 11] k (fun kq v9 v10 v11 w' => ∃ (x9_1 : List Int) (x10_1 : Int) (x11_1 : Int), v10 = .int .i64 x10_1 ∧ v11 = .int .i64 x11_1 ∧ Aside0 (postmarkref02_Add.l0 kq t361 t364 x9_1 x10_1 x11_1 = some (r1, r2)) ∧ Aside0 (kq ≤ k) ∧ Aside0 (Kd.R (Kd.int .i64) 3 w' w.heap.size (fun k_ => some k_ ≠ (v365 : Value).ownBlock ∧ some k_ ≠ (v9 : Value).ownBlock) v362 t361) ∧ Aside0 (Kd.R (Kd.int .i64) 3 w' w.heap.size (fun k_ => some k_ ≠ (v362 : Value).ownBlock ∧ some k_ ≠ (v9 : Value).ownBlock) v365 t364) ∧ Aside0 (Kd.R (Kd.int .i64) 3 w' w.heap.size (fun k_ => some k_ ≠ (v362 : Value).ownBlock ∧ some k_ ≠ (v365 : Value).ownBlock) v9 x9_1) ∧ Aside0 (Below w.heap.size w w'))
    case atStart => exact ⟨(([] : List Int)), (0), (0), (by first | rfl | (simp; done) | (simp [*]; done)), (by first | rfl | (simp; done) | (simp [*]; done)), H', ⟨Nat.le_refl _⟩, ⟨by (with_reducible repeat (first | apply Kd.R_alloc | apply Kd.R_drewN | apply Kd.R_drew)); exact Kd.R_mono HO363.out (fun _ hk => ⟨hk.2, (by simp [Value.ownBlock])⟩)⟩, ⟨by (with_reducible repeat (first | apply Kd.R_alloc | apply Kd.R_drewN | apply Kd.R_drew)); exact Kd.R_mono HO366.out (fun _ hk => ⟨hk.2, (by simp [Value.ownBlock])⟩)⟩, ⟨by first | exact Kd.R_nil _ _ _ _ _ | exact Kd.N_nil _ _ _ _ _ | exact Kd.V_nil _ _ _ _ _ | exact Kd.Q_nil _ _ _ _ _ | exact Kd.S_nil _ _ _ _ _⟩, ⟨by repeat (first | (with_reducible first | exact HB.out | apply below_alloc | apply pw_below_drewN | apply below_drew1) | exact HB.out)⟩⟩
    case round =>
      clear H'
      try clear c1
      try clear p2
      try clear c3
      try clear c4
      try clear c7
      try clear c9
      obtain ⟨x9_1, x10_1, x11_1, rfl, rfl, HA, HK1, HO_7, HO_8, HO_9, HB⟩ := hrel
      cases gk with
      | zero => exact absurd HA.out (by simp [postmarkref02_Add.l0])
      | succ k1 =>
        have H := HA.out
        clear HA
        simp only [postmarkref02_Add.l0] at H
        have HC10 := Aside0.mk H
        clear H
        go_upto_region 9 with (fail)
        go_cut [34] (fun v34 wc => ∃ (kq : Nat) (x34_9 : Bool), v34 = .bool x34_9 ∧ Aside0 (postmarkref02_Add.j1 kq t361 t364 x9_1 x10_1 x11_1 x34_9 = some (r1, r2)) ∧ Aside0 (kq ≤ k1) ∧ Aside0 (Kd.R (Kd.int .i64) 3 wc w.heap.size (fun k_ => some k_ ≠ (v365 : Value).ownBlock ∧ some k_ ≠ (u9 : Value).ownBlock) v362 t361) ∧ Aside0 (Kd.R (Kd.int .i64) 3 wc w.heap.size (fun k_ => some k_ ≠ (v362 : Value).ownBlock ∧ some k_ ≠ (u9 : Value).ownBlock) v365 t364) ∧ Aside0 (Kd.R (Kd.int .i64) 3 wc w.heap.size (fun k_ => some k_ ≠ (v362 : Value).ownBlock ∧ some k_ ≠ (v365 : Value).ownBlock) u9 x9_1) ∧ Aside0 (Below w.heap.size w wc))
        case first =>
          have H := HC10.out
          clear HC10
          by_cases c11 : x11_1 < (t361.length : Int)
          · rw [if_pos c11] at H
            have c11b0 : decide (x11_1 < (t361.length : Int)) = true := decide_eq_true c11
            clear c11
            (first | rw [c11b0] | (simp only [i64_w, i32_w]; rw [c11b0]) | skip)
            have H' := Aside0.mk H
            clear H
            obtain ⟨Ao12, co12, eo12⟩ := Kd.R_slice HO_7.out
            subst eo12
            go_wp2
            go_meet
            case rel => exact ⟨_, (true), (by first | rfl | (simp; done) | (simp [*]; done)), H', ⟨by have := HK1.out; first | omega | exact Nat.le_refl _⟩, ⟨by (with_reducible repeat (first | apply Kd.R_alloc | apply Kd.R_drewN | apply Kd.R_drew)); exact HO_7.out⟩, ⟨by (with_reducible repeat (first | apply Kd.R_alloc | apply Kd.R_drewN | apply Kd.R_drew)); exact HO_8.out⟩, ⟨by (with_reducible repeat (first | apply Kd.R_alloc | apply Kd.R_drewN | apply Kd.R_drew)); exact HO_9.out⟩, ⟨by repeat (first | (with_reducible first | exact HB.out | apply below_alloc | apply pw_below_drewN | apply below_drew1) | exact HB.out)⟩⟩
          · rw [if_neg c11] at H
            have c11b0 : decide (x11_1 < (t361.length : Int)) = false := decide_eq_false c11
            clear c11
            (first | rw [c11b0] | (simp only [i64_w, i32_w]; rw [c11b0]) | skip)
            by_cases c13 : x11_1 < (t364.length : Int)
            · rw [if_pos c13] at H
              have c13b0 : decide (x11_1 < (t364.length : Int)) = true := decide_eq_true c13
              clear c13
              have H' := Aside0.mk H
              clear H
              obtain ⟨Ao14, co14, eo14⟩ := Kd.R_slice HO_7.out
              subst eo14
              obtain ⟨Ao15, co15, eo15⟩ := Kd.R_slice HO_8.out
              subst eo15
              go_wp2
              go_meet
              case rel => exact ⟨_, (true), (by first | rfl | (simp; done) | (simp [*]; done)), H', ⟨by have := HK1.out; first | omega | exact Nat.le_refl _⟩, ⟨by (with_reducible repeat (first | apply Kd.R_alloc | apply Kd.R_drewN | apply Kd.R_drew)); exact HO_7.out⟩, ⟨by (with_reducible repeat (first | apply Kd.R_alloc | apply Kd.R_drewN | apply Kd.R_drew)); exact HO_8.out⟩, ⟨by (with_reducible repeat (first | apply Kd.R_alloc | apply Kd.R_drewN | apply Kd.R_drew)); exact HO_9.out⟩, ⟨by repeat (first | (with_reducible first | exact HB.out | apply below_alloc | apply pw_below_drewN | apply below_drew1) | exact HB.out)⟩⟩
            · rw [if_neg c13] at H
              have c13b0 : decide (x11_1 < (t364.length : Int)) = false := decide_eq_false c13
              clear c13
              have H' := Aside0.mk H
              clear H
              obtain ⟨Ao16, co16, eo16⟩ := Kd.R_slice HO_7.out
              subst eo16
              obtain ⟨Ao17, co17, eo17⟩ := Kd.R_slice HO_8.out
              subst eo17
              go_wp2
              go_meet
              case rel => exact ⟨_, (decide (x10_1 > 0)), (by first | rfl | (simp; done) | (simp [*]; done)), H', ⟨by have := HK1.out; first | omega | exact Nat.le_refl _⟩, ⟨by (with_reducible repeat (first | apply Kd.R_alloc | apply Kd.R_drewN | apply Kd.R_drew)); exact HO_7.out⟩, ⟨by (with_reducible repeat (first | apply Kd.R_alloc | apply Kd.R_drewN | apply Kd.R_drew)); exact HO_8.out⟩, ⟨by (with_reducible repeat (first | apply Kd.R_alloc | apply Kd.R_drewN | apply Kd.R_drew)); exact HO_9.out⟩, ⟨by repeat (first | (with_reducible first | exact HB.out | apply below_alloc | apply pw_below_drewN | apply below_drew1) | exact HB.out)⟩⟩
        case rest =>
          clear HC10
          try clear c1
          try clear p2
          try clear c3
          try clear c4
          try clear c7
          try clear c9
          try clear c11
          try clear c11b0
          try clear c13
          try clear c13b0
          try clear p2
          obtain ⟨kq, x34_9, rfl, HA, HJ9, HO_7, HO_8, HO_9, HB⟩ := hcut
          cases kq with
          | zero => exact absurd HA.out (by simp [postmarkref02_Add.j1])
          | succ kj9 =>
            have H := HA.out
            clear HA
            simp only [postmarkref02_Add.j1] at H
            by_cases c18 : x34_9 = true
            · subst c18
              have H1 : (if x11_1 < (t361.length : Int) then (if 0 ≤ x11_1 then (if x11_1 < (t364.length : Int) then (if x9_1.length < 17592186044416 then (postmarkref02_Add.l0 kj9 t361 t364 (x9_1 ++ [Int.tmod (wrap64 ((wrap64 (x10_1 + (rd t361 x11_1))) + (rd t364 x11_1))) 256]) (wrap64 (Int.tdiv (wrap64 ((wrap64 (x10_1 + (rd t361 x11_1))) + (rd t364 x11_1))) 256)) (wrap64 (x11_1 + 1))) else (none)) else (if x9_1.length < 17592186044416 then (postmarkref02_Add.l0 kj9 t361 t364 (x9_1 ++ [Int.tmod (wrap64 (x10_1 + (rd t361 x11_1))) 256]) (wrap64 (Int.tdiv (wrap64 (x10_1 + (rd t361 x11_1))) 256)) (wrap64 (x11_1 + 1))) else (none))) else (none)) else (if x11_1 < (t364.length : Int) then (if 0 ≤ x11_1 then (if x9_1.length < 17592186044416 then (postmarkref02_Add.l0 kj9 t361 t364 (x9_1 ++ [Int.tmod (wrap64 (x10_1 + (rd t364 x11_1))) 256]) (wrap64 (Int.tdiv (wrap64 (x10_1 + (rd t364 x11_1))) 256)) (wrap64 (x11_1 + 1))) else (none)) else (none)) else (if x9_1.length < 17592186044416 then (postmarkref02_Add.l0 kj9 t361 t364 (x9_1 ++ [Int.tmod x10_1 256]) (wrap64 (Int.tdiv x10_1 256)) (wrap64 (x11_1 + 1))) else (none)))) = some (r1, r2) := by rw [if_pos rfl] at H; exact H
              clear H
              have H := H1
              clear H1
              by_cases c19 : x11_1 < (t361.length : Int)
              · rw [if_pos c19] at H
                have c19b0 : decide (x11_1 < (t361.length : Int)) = true := decide_eq_true c19
                clear c19
                by_cases c20 : 0 ≤ x11_1
                · rw [if_pos c20] at H
                  have c20b0 : decide (0 ≤ x11_1) = true := decide_eq_true c20
                  clear c20
                  by_cases c21 : x11_1 < (t364.length : Int)
                  · rw [if_pos c21] at H
                    have c21b0 : decide (x11_1 < (t364.length : Int)) = true := decide_eq_true c21
                    clear c21
                    by_cases c22 : x9_1.length < 17592186044416
                    · rw [if_pos c22] at H
                      have LMc22 := Aside0.mk c22
                      clear c22
                      obtain ⟨y373, hy373⟩ : ∃ y_ : List Int, y_ = (x9_1 ++ [Int.tmod (wrap64 ((wrap64 (x10_1 + (rd t361 x11_1))) + (rd t364 x11_1))) 256]) := ⟨_, rfl⟩
                      replace H : (postmarkref02_Add.l0 kj9 t361 t364 y373 (wrap64 (Int.tdiv (wrap64 ((wrap64 (x10_1 + (rd t361 x11_1))) + (rd t364 x11_1))) 256)) (wrap64 (x11_1 + 1))) = some (r1, r2) := by first | (rw [hy373]; with_reducible exact H) | (have H2_ := (Option.bind_some _ _).symm.trans H; rw [hy373]; with_reducible exact H2_) | (have H2_ := (Option.bind_some _ _).symm.trans H; with_reducible exact H2_) | with_reducible exact H | (rw [hy373]; exact H) | exact H
                      have Ny373 := Aside0.mk hy373
                      clear hy373
                      have H' := Aside0.mk H
                      clear H
                      obtain ⟨Ao23, co23, eo23⟩ := Kd.R_slice HO_7.out
                      subst eo23
                      have p371 : 0 ≤ (x11_1 : Int) := of_decide_eq_true (by first | (with_reducible assumption) | assumption)
                      have q371 : x11_1 < (t361.length : Int) := of_decide_eq_true (by first | (with_reducible assumption) | assumption)
                      obtain ⟨ad371, e371, hx371_0⟩ := Kd.at_int (Kd.R_reads' HO_7.out).2.2 x11_1 p371 q371
                      cases e371
                      replace p371 := eq_true p371
                      replace q371 := eq_true q371
                      obtain ⟨Ao24, co24, eo24⟩ := Kd.R_slice HO_8.out
                      subst eo24
                      have p372 : 0 ≤ (x11_1 : Int) := of_decide_eq_true (by first | (with_reducible assumption) | assumption)
                      have q372 : x11_1 < (t364.length : Int) := of_decide_eq_true (by first | (with_reducible assumption) | assumption)
                      obtain ⟨ad372, e372, hx372_0⟩ := Kd.at_int (Kd.R_reads' HO_8.out).2.2 x11_1 p372 q372
                      cases e372
                      replace p372 := eq_true p372
                      replace q372 := eq_true q372
                      go_wp2_with (first | ((with_reducible refine gate_builtin (b := .append) (xs := #[.tmp 57, .tmp 60]) rfl ?_); (try (refine gate_guard (by rfl) ?_; dsimp only)); at_builtin; refine Kd.R_append (Kd.int .i64) (w0 := w) w.heap.size rfl (.tmp 57) (.tmp 60) 100 3 (.int .i64 0) 8 rfl Try.underlying100 info3 rfl (by decide) (by omega) u9 x9_1 (Int.tmod (wrap64 ((wrap64 (x10_1 + (rd t361 x11_1))) + (rd t364 x11_1))) 256) [.int .i64 (Int.tmod (wrap64 ((wrap64 (x10_1 + (rd t361 x11_1))) + (rd t364 x11_1))) 256)] (fun k_ => some k_ ≠ (.slice (some ad371) t361.length co23 : Value).ownBlock ∧ some k_ ≠ (.slice (some ad372) t364.length co24 : Value).ownBlock) (fun _ => False) rfl rfl ?aP (fun _ hk => hk.elim) ?aF ?aO ?aB ?aS ?aL ?_; (case aP => exact rfl); (case aB => exact (by repeat (first | (with_reducible first | exact HB.out | apply below_alloc | apply pw_below_drewN | apply below_drew1) | exact HB.out))); (case aF => exact (fun k_ hk => ⟨Kd.fresh' (Kd.R_lt (by (with_reducible repeat (first | apply Kd.R_alloc | apply Kd.R_drewN | apply Kd.R_drew)); exact HO_7.out)) k_ hk, Kd.fresh' (Kd.R_lt (by (with_reducible repeat (first | apply Kd.R_alloc | apply Kd.R_drewN | apply Kd.R_drew)); exact HO_8.out)) k_ hk⟩)); (case aO => exact (by (with_reducible repeat (first | apply Kd.R_alloc | apply Kd.R_drewN | apply Kd.R_drew)); exact HO_9.out)); (case aS => exact (below_size (by repeat (first | (with_reducible first | exact HB.out | apply below_alloc | apply pw_below_drewN | apply below_drew1) | exact HB.out)))); (case aL => have := LMc22.out; omega); intro v374 w25 ho hb hg hat; rw [← Ny373.out] at ho; have n0_ := Aside0.mk (Kd.R_after (ok := (fun k_ => some k_ ≠ (.slice (some ad372) t364.length co24 : Value).ownBlock)) (by (with_reducible repeat (first | apply Kd.R_alloc | apply Kd.R_drewN | apply Kd.R_drew)); exact HO_7.out) hg hat); have n1_ := Aside0.mk (Kd.R_after (ok := (fun k_ => some k_ ≠ (.slice (some ad371) t361.length co23 : Value).ownBlock)) (by (with_reducible repeat (first | apply Kd.R_alloc | apply Kd.R_drewN | apply Kd.R_drew)); exact HO_8.out) hg hat); have n2_ := Aside0.mk (hb); have n3_ := Aside0.mk (ho); clear HO_7; clear HO_8; clear HB; clear HO_9; have HO_7 := n0_; have HO_8 := n1_; have HB := n2_; have HO375 := n3_; clear n0_ n1_ n2_ n3_; clear ho hb hg hat))
                      go_roundg kj9
                      case measure => have := HK1.out; have := HJ9.out; omega
                      case rel => exact ⟨(y373), (wrap64 (Int.tdiv (wrap64 ((wrap64 (x10_1 + (rd t361 x11_1))) + (rd t364 x11_1))) 256)), (wrap64 (x11_1 + 1)), (by first | rfl | (simp; done) | (simp [*]; done)), (by first | rfl | (simp; done) | (simp [*]; done)), H', ⟨by have := HK1.out; have := HJ9.out; omega⟩, ⟨by (with_reducible repeat (first | apply Kd.R_alloc | apply Kd.R_drewN | apply Kd.R_drew)); exact HO_7.out⟩, ⟨by (with_reducible repeat (first | apply Kd.R_alloc | apply Kd.R_drewN | apply Kd.R_drew)); exact HO_8.out⟩, ⟨by (with_reducible repeat (first | apply Kd.R_alloc | apply Kd.R_drewN | apply Kd.R_drew)); exact HO375.out⟩, ⟨by repeat (first | (with_reducible first | exact HB.out | apply below_alloc | apply pw_below_drewN | apply below_drew1) | exact HB.out)⟩⟩
                    · rw [if_neg c22] at H
                      exact absurd H (by simp)
                  · rw [if_neg c21] at H
                    have c21b0 : decide (x11_1 < (t364.length : Int)) = false := decide_eq_false c21
                    clear c21
                    by_cases c26 : x9_1.length < 17592186044416
                    · rw [if_pos c26] at H
                      have LMc26 := Aside0.mk c26
                      clear c26
                      obtain ⟨y376, hy376⟩ : ∃ y_ : List Int, y_ = (x9_1 ++ [Int.tmod (wrap64 (x10_1 + (rd t361 x11_1))) 256]) := ⟨_, rfl⟩
                      replace H : (postmarkref02_Add.l0 kj9 t361 t364 y376 (wrap64 (Int.tdiv (wrap64 (x10_1 + (rd t361 x11_1))) 256)) (wrap64 (x11_1 + 1))) = some (r1, r2) := by first | (rw [hy376]; with_reducible exact H) | (have H2_ := (Option.bind_some _ _).symm.trans H; rw [hy376]; with_reducible exact H2_) | (have H2_ := (Option.bind_some _ _).symm.trans H; with_reducible exact H2_) | with_reducible exact H | (rw [hy376]; exact H) | exact H
                      have Ny376 := Aside0.mk hy376
                      clear hy376
                      have H' := Aside0.mk H
                      clear H
                      obtain ⟨Ao27, co27, eo27⟩ := Kd.R_slice HO_7.out
                      subst eo27
                      have p371 : 0 ≤ (x11_1 : Int) := of_decide_eq_true (by first | (with_reducible assumption) | assumption)
                      have q371 : x11_1 < (t361.length : Int) := of_decide_eq_true (by first | (with_reducible assumption) | assumption)
                      obtain ⟨ad371, e371, hx371_0⟩ := Kd.at_int (Kd.R_reads' HO_7.out).2.2 x11_1 p371 q371
                      cases e371
                      replace p371 := eq_true p371
                      replace q371 := eq_true q371
                      obtain ⟨Ao28, co28, eo28⟩ := Kd.R_slice HO_8.out
                      subst eo28
                      go_wp2_with (first | ((with_reducible refine gate_builtin (b := .append) (xs := #[.tmp 57, .tmp 60]) rfl ?_); (try (refine gate_guard (by rfl) ?_; dsimp only)); at_builtin; refine Kd.R_append (Kd.int .i64) (w0 := w) w.heap.size rfl (.tmp 57) (.tmp 60) 100 3 (.int .i64 0) 8 rfl Try.underlying100 info3 rfl (by decide) (by omega) u9 x9_1 (Int.tmod (wrap64 (x10_1 + (rd t361 x11_1))) 256) [.int .i64 (Int.tmod (wrap64 (x10_1 + (rd t361 x11_1))) 256)] (fun k_ => some k_ ≠ (.slice (some ad371) t361.length co27 : Value).ownBlock ∧ some k_ ≠ (.slice Ao28 t364.length co28 : Value).ownBlock) (fun _ => False) rfl rfl ?aP (fun _ hk => hk.elim) ?aF ?aO ?aB ?aS ?aL ?_; (case aP => exact rfl); (case aB => exact (by repeat (first | (with_reducible first | exact HB.out | apply below_alloc | apply pw_below_drewN | apply below_drew1) | exact HB.out))); (case aF => exact (fun k_ hk => ⟨Kd.fresh' (Kd.R_lt (by (with_reducible repeat (first | apply Kd.R_alloc | apply Kd.R_drewN | apply Kd.R_drew)); exact HO_7.out)) k_ hk, Kd.fresh' (Kd.R_lt (by (with_reducible repeat (first | apply Kd.R_alloc | apply Kd.R_drewN | apply Kd.R_drew)); exact HO_8.out)) k_ hk⟩)); (case aO => exact (by (with_reducible repeat (first | apply Kd.R_alloc | apply Kd.R_drewN | apply Kd.R_drew)); exact HO_9.out)); (case aS => exact (below_size (by repeat (first | (with_reducible first | exact HB.out | apply below_alloc | apply pw_below_drewN | apply below_drew1) | exact HB.out)))); (case aL => have := LMc26.out; omega); intro v377 w29 ho hb hg hat; rw [← Ny376.out] at ho; have n0_ := Aside0.mk (Kd.R_after (ok := (fun k_ => some k_ ≠ (.slice Ao28 t364.length co28 : Value).ownBlock)) (by (with_reducible repeat (first | apply Kd.R_alloc | apply Kd.R_drewN | apply Kd.R_drew)); exact HO_7.out) hg hat); have n1_ := Aside0.mk (Kd.R_after (ok := (fun k_ => some k_ ≠ (.slice (some ad371) t361.length co27 : Value).ownBlock)) (by (with_reducible repeat (first | apply Kd.R_alloc | apply Kd.R_drewN | apply Kd.R_drew)); exact HO_8.out) hg hat); have n2_ := Aside0.mk (hb); have n3_ := Aside0.mk (ho); clear HO_7; clear HO_8; clear HB; clear HO_9; have HO_7 := n0_; have HO_8 := n1_; have HB := n2_; have HO378 := n3_; clear n0_ n1_ n2_ n3_; clear ho hb hg hat))
                      go_roundg kj9
                      case measure => have := HK1.out; have := HJ9.out; omega
                      case rel => exact ⟨(y376), (wrap64 (Int.tdiv (wrap64 (x10_1 + (rd t361 x11_1))) 256)), (wrap64 (x11_1 + 1)), (by first | rfl | (simp; done) | (simp [*]; done)), (by first | rfl | (simp; done) | (simp [*]; done)), H', ⟨by have := HK1.out; have := HJ9.out; omega⟩, ⟨by (with_reducible repeat (first | apply Kd.R_alloc | apply Kd.R_drewN | apply Kd.R_drew)); exact HO_7.out⟩, ⟨by (with_reducible repeat (first | apply Kd.R_alloc | apply Kd.R_drewN | apply Kd.R_drew)); exact HO_8.out⟩, ⟨by (with_reducible repeat (first | apply Kd.R_alloc | apply Kd.R_drewN | apply Kd.R_drew)); exact HO378.out⟩, ⟨by repeat (first | (with_reducible first | exact HB.out | apply below_alloc | apply pw_below_drewN | apply below_drew1) | exact HB.out)⟩⟩
                    · rw [if_neg c26] at H
                      exact absurd H (by simp)
                · rw [if_neg c20] at H
                  exact absurd H (by simp)
              · rw [if_neg c19] at H
                have c19b0 : decide (x11_1 < (t361.length : Int)) = false := decide_eq_false c19
                clear c19
                by_cases c30 : x11_1 < (t364.length : Int)
                · rw [if_pos c30] at H
                  have c30b0 : decide (x11_1 < (t364.length : Int)) = true := decide_eq_true c30
                  clear c30
                  by_cases c31 : 0 ≤ x11_1
                  · rw [if_pos c31] at H
                    have c31b0 : decide (0 ≤ x11_1) = true := decide_eq_true c31
                    clear c31
                    by_cases c32 : x9_1.length < 17592186044416
                    · rw [if_pos c32] at H
                      have LMc32 := Aside0.mk c32
                      clear c32
                      obtain ⟨y380, hy380⟩ : ∃ y_ : List Int, y_ = (x9_1 ++ [Int.tmod (wrap64 (x10_1 + (rd t364 x11_1))) 256]) := ⟨_, rfl⟩
                      replace H : (postmarkref02_Add.l0 kj9 t361 t364 y380 (wrap64 (Int.tdiv (wrap64 (x10_1 + (rd t364 x11_1))) 256)) (wrap64 (x11_1 + 1))) = some (r1, r2) := by first | (rw [hy380]; with_reducible exact H) | (have H2_ := (Option.bind_some _ _).symm.trans H; rw [hy380]; with_reducible exact H2_) | (have H2_ := (Option.bind_some _ _).symm.trans H; with_reducible exact H2_) | with_reducible exact H | (rw [hy380]; exact H) | exact H
                      have Ny380 := Aside0.mk hy380
                      clear hy380
                      have H' := Aside0.mk H
                      clear H
                      obtain ⟨Ao33, co33, eo33⟩ := Kd.R_slice HO_7.out
                      subst eo33
                      obtain ⟨Ao34, co34, eo34⟩ := Kd.R_slice HO_8.out
                      subst eo34
                      have p379 : 0 ≤ (x11_1 : Int) := of_decide_eq_true (by first | (with_reducible assumption) | assumption)
                      have q379 : x11_1 < (t364.length : Int) := of_decide_eq_true (by first | (with_reducible assumption) | assumption)
                      obtain ⟨ad379, e379, hx379_0⟩ := Kd.at_int (Kd.R_reads' HO_8.out).2.2 x11_1 p379 q379
                      cases e379
                      replace p379 := eq_true p379
                      replace q379 := eq_true q379
                      go_wp2_with (first | ((with_reducible refine gate_builtin (b := .append) (xs := #[.tmp 57, .tmp 60]) rfl ?_); (try (refine gate_guard (by rfl) ?_; dsimp only)); at_builtin; refine Kd.R_append (Kd.int .i64) (w0 := w) w.heap.size rfl (.tmp 57) (.tmp 60) 100 3 (.int .i64 0) 8 rfl Try.underlying100 info3 rfl (by decide) (by omega) u9 x9_1 (Int.tmod (wrap64 (x10_1 + (rd t364 x11_1))) 256) [.int .i64 (Int.tmod (wrap64 (x10_1 + (rd t364 x11_1))) 256)] (fun k_ => some k_ ≠ (.slice Ao33 t361.length co33 : Value).ownBlock ∧ some k_ ≠ (.slice (some ad379) t364.length co34 : Value).ownBlock) (fun _ => False) rfl rfl ?aP (fun _ hk => hk.elim) ?aF ?aO ?aB ?aS ?aL ?_; (case aP => exact rfl); (case aB => exact (by repeat (first | (with_reducible first | exact HB.out | apply below_alloc | apply pw_below_drewN | apply below_drew1) | exact HB.out))); (case aF => exact (fun k_ hk => ⟨Kd.fresh' (Kd.R_lt (by (with_reducible repeat (first | apply Kd.R_alloc | apply Kd.R_drewN | apply Kd.R_drew)); exact HO_7.out)) k_ hk, Kd.fresh' (Kd.R_lt (by (with_reducible repeat (first | apply Kd.R_alloc | apply Kd.R_drewN | apply Kd.R_drew)); exact HO_8.out)) k_ hk⟩)); (case aO => exact (by (with_reducible repeat (first | apply Kd.R_alloc | apply Kd.R_drewN | apply Kd.R_drew)); exact HO_9.out)); (case aS => exact (below_size (by repeat (first | (with_reducible first | exact HB.out | apply below_alloc | apply pw_below_drewN | apply below_drew1) | exact HB.out)))); (case aL => have := LMc32.out; omega); intro v381 w35 ho hb hg hat; rw [← Ny380.out] at ho; have n0_ := Aside0.mk (Kd.R_after (ok := (fun k_ => some k_ ≠ (.slice (some ad379) t364.length co34 : Value).ownBlock)) (by (with_reducible repeat (first | apply Kd.R_alloc | apply Kd.R_drewN | apply Kd.R_drew)); exact HO_7.out) hg hat); have n1_ := Aside0.mk (Kd.R_after (ok := (fun k_ => some k_ ≠ (.slice Ao33 t361.length co33 : Value).ownBlock)) (by (with_reducible repeat (first | apply Kd.R_alloc | apply Kd.R_drewN | apply Kd.R_drew)); exact HO_8.out) hg hat); have n2_ := Aside0.mk (hb); have n3_ := Aside0.mk (ho); clear HO_7; clear HO_8; clear HB; clear HO_9; have HO_7 := n0_; have HO_8 := n1_; have HB := n2_; have HO382 := n3_; clear n0_ n1_ n2_ n3_; clear ho hb hg hat))
                      go_roundg kj9
                      case measure => have := HK1.out; have := HJ9.out; omega
                      case rel => exact ⟨(y380), (wrap64 (Int.tdiv (wrap64 (x10_1 + (rd t364 x11_1))) 256)), (wrap64 (x11_1 + 1)), (by first | rfl | (simp; done) | (simp [*]; done)), (by first | rfl | (simp; done) | (simp [*]; done)), H', ⟨by have := HK1.out; have := HJ9.out; omega⟩, ⟨by (with_reducible repeat (first | apply Kd.R_alloc | apply Kd.R_drewN | apply Kd.R_drew)); exact HO_7.out⟩, ⟨by (with_reducible repeat (first | apply Kd.R_alloc | apply Kd.R_drewN | apply Kd.R_drew)); exact HO_8.out⟩, ⟨by (with_reducible repeat (first | apply Kd.R_alloc | apply Kd.R_drewN | apply Kd.R_drew)); exact HO382.out⟩, ⟨by repeat (first | (with_reducible first | exact HB.out | apply below_alloc | apply pw_below_drewN | apply below_drew1) | exact HB.out)⟩⟩
                    · rw [if_neg c32] at H
                      exact absurd H (by simp)
                  · rw [if_neg c31] at H
                    exact absurd H (by simp)
                · rw [if_neg c30] at H
                  have c30b0 : decide (x11_1 < (t364.length : Int)) = false := decide_eq_false c30
                  clear c30
                  by_cases c36 : x9_1.length < 17592186044416
                  · rw [if_pos c36] at H
                    have LMc36 := Aside0.mk c36
                    clear c36
                    obtain ⟨y383, hy383⟩ : ∃ y_ : List Int, y_ = (x9_1 ++ [Int.tmod x10_1 256]) := ⟨_, rfl⟩
                    replace H : (postmarkref02_Add.l0 kj9 t361 t364 y383 (wrap64 (Int.tdiv x10_1 256)) (wrap64 (x11_1 + 1))) = some (r1, r2) := by first | (rw [hy383]; with_reducible exact H) | (have H2_ := (Option.bind_some _ _).symm.trans H; rw [hy383]; with_reducible exact H2_) | (have H2_ := (Option.bind_some _ _).symm.trans H; with_reducible exact H2_) | with_reducible exact H | (rw [hy383]; exact H) | exact H
                    have Ny383 := Aside0.mk hy383
                    clear hy383
                    have H' := Aside0.mk H
                    clear H
                    obtain ⟨Ao37, co37, eo37⟩ := Kd.R_slice HO_7.out
                    subst eo37
                    obtain ⟨Ao38, co38, eo38⟩ := Kd.R_slice HO_8.out
                    subst eo38
                    go_wp2_with (first | ((with_reducible refine gate_builtin (b := .append) (xs := #[.tmp 57, .tmp 60]) rfl ?_); (try (refine gate_guard (by rfl) ?_; dsimp only)); at_builtin; refine Kd.R_append (Kd.int .i64) (w0 := w) w.heap.size rfl (.tmp 57) (.tmp 60) 100 3 (.int .i64 0) 8 rfl Try.underlying100 info3 rfl (by decide) (by omega) u9 x9_1 (Int.tmod x10_1 256) [.int .i64 (Int.tmod x10_1 256)] (fun k_ => some k_ ≠ (.slice Ao37 t361.length co37 : Value).ownBlock ∧ some k_ ≠ (.slice Ao38 t364.length co38 : Value).ownBlock) (fun _ => False) rfl rfl ?aP (fun _ hk => hk.elim) ?aF ?aO ?aB ?aS ?aL ?_; (case aP => exact rfl); (case aB => exact (by repeat (first | (with_reducible first | exact HB.out | apply below_alloc | apply pw_below_drewN | apply below_drew1) | exact HB.out))); (case aF => exact (fun k_ hk => ⟨Kd.fresh' (Kd.R_lt (by (with_reducible repeat (first | apply Kd.R_alloc | apply Kd.R_drewN | apply Kd.R_drew)); exact HO_7.out)) k_ hk, Kd.fresh' (Kd.R_lt (by (with_reducible repeat (first | apply Kd.R_alloc | apply Kd.R_drewN | apply Kd.R_drew)); exact HO_8.out)) k_ hk⟩)); (case aO => exact (by (with_reducible repeat (first | apply Kd.R_alloc | apply Kd.R_drewN | apply Kd.R_drew)); exact HO_9.out)); (case aS => exact (below_size (by repeat (first | (with_reducible first | exact HB.out | apply below_alloc | apply pw_below_drewN | apply below_drew1) | exact HB.out)))); (case aL => have := LMc36.out; omega); intro v384 w39 ho hb hg hat; rw [← Ny383.out] at ho; have n0_ := Aside0.mk (Kd.R_after (ok := (fun k_ => some k_ ≠ (.slice Ao38 t364.length co38 : Value).ownBlock)) (by (with_reducible repeat (first | apply Kd.R_alloc | apply Kd.R_drewN | apply Kd.R_drew)); exact HO_7.out) hg hat); have n1_ := Aside0.mk (Kd.R_after (ok := (fun k_ => some k_ ≠ (.slice Ao37 t361.length co37 : Value).ownBlock)) (by (with_reducible repeat (first | apply Kd.R_alloc | apply Kd.R_drewN | apply Kd.R_drew)); exact HO_8.out) hg hat); have n2_ := Aside0.mk (hb); have n3_ := Aside0.mk (ho); clear HO_7; clear HO_8; clear HB; clear HO_9; have HO_7 := n0_; have HO_8 := n1_; have HB := n2_; have HO385 := n3_; clear n0_ n1_ n2_ n3_; clear ho hb hg hat))
                    go_roundg kj9
                    case measure => have := HK1.out; have := HJ9.out; omega
                    case rel => exact ⟨(y383), (wrap64 (Int.tdiv x10_1 256)), (wrap64 (x11_1 + 1)), (by first | rfl | (simp; done) | (simp [*]; done)), (by first | rfl | (simp; done) | (simp [*]; done)), H', ⟨by have := HK1.out; have := HJ9.out; omega⟩, ⟨by (with_reducible repeat (first | apply Kd.R_alloc | apply Kd.R_drewN | apply Kd.R_drew)); exact HO_7.out⟩, ⟨by (with_reducible repeat (first | apply Kd.R_alloc | apply Kd.R_drewN | apply Kd.R_drew)); exact HO_8.out⟩, ⟨by (with_reducible repeat (first | apply Kd.R_alloc | apply Kd.R_drewN | apply Kd.R_drew)); exact HO385.out⟩, ⟨by repeat (first | (with_reducible first | exact HB.out | apply below_alloc | apply pw_below_drewN | apply below_drew1) | exact HB.out)⟩⟩
                  · rw [if_neg c36] at H
                    exact absurd H (by simp)
            · replace c18 := Bool.eq_false_iff.mpr c18
              subst c18
              have H1 : ((postmarkref02_Cut.f kj9 x9_1).bind fun bt367 => (some (bt367.1, bt367.2))) = some (r1, r2) := by rw [if_neg (show ¬ (false = true) by decide)] at H; exact H
              clear H
              have H := H1
              clear H1
              replace H := Option.bind_eq_some_iff.mp H
              obtain ⟨⟨t367, t370⟩, A400, H⟩ := H
              replace H : (some (t367, t370)) = some (r1, r2) := H
              have A40 := Aside0.mk A400
              clear A400
              simp only [Option.some.injEq, Prod.mk.injEq] at H
              obtain ⟨rfl, rfl⟩ := H
              obtain ⟨Ao41, co41, eo41⟩ := Kd.R_slice HO_9.out
              subst eo41
              go_wp2_with (first | ((with_reducible refine gate_callee (f := 126) rfl ?_); refine goesL_ (some 65) rfl rfl Try.func126 (by kernel_rfl) rfl #[.slice Ao41 x9_1.length co41] rfl (by (try simp only [List.map_toArray, List.map_cons, List.map_nil]); first | done | rfl | (simp only [List.length_drop, List.length_take]; rfl)) ?_; (with_reducible refine (postmarkref02_Cut.calls kj9 (fun k_ => some k_ = (.slice Ao41 x9_1.length co41 : Value).ownBlock) (.slice Ao41 x9_1.length co41) x9_1 t367 t370 w _ ?side1 ?side2 A40.out).mono ?_); (case side1 => repeat (first | (with_reducible first | exact HB.out | apply below_alloc | apply pw_below_drewN | apply below_drew1) | exact HB.out)); (case side2 => exact Kd.R_tight rfl HO_9.out); rintro e w42 ⟨v368, rfl, ho0, hb, hkp⟩; refine ⟨_, rfl, ?_⟩; have n0_ := Aside0.mk (Kd.R_mono (ok' := fun k_ => some k_ ≠ (v365 : Value).ownBlock) (Kd.R_keptB (HO_7.out) hkp (fun k_ hk_ hs_ => (hk_.2) hs_)) (fun k_ hk_ => hk_.1.1)); have n1_ := Aside0.mk (Kd.R_mono (ok' := fun k_ => some k_ ≠ (v362 : Value).ownBlock) (Kd.R_keptB (HO_8.out) hkp (fun k_ hk_ hs_ => (hk_.2) hs_)) (fun k_ hk_ => hk_.1.1)); have n2_ := Aside0.mk (Kd.R_mono (ok' := fun k_ => True) ho0 (fun k_ hk_ => trivial)); have n3_ := Aside0.mk (hb); clear HO_7; clear HO_8; clear HB; clear HO_9; have HO_7 := n0_; have HO_8 := n1_; have HO369 := n2_; have HB := n3_; clear n0_ n1_ n2_ n3_; (try clear hb); (try clear hkp); (try clear ho0)))
              go_ret2
              exact ⟨_, by first | rfl | (simp [errW_none, errW_some] <;> rfl) | (simp [*, errW_none, errW_some] <;> rfl), by (with_reducible repeat (first | apply Kd.R_alloc | apply Kd.R_drewN | apply Kd.R_drew)); exact HO369.out, by repeat (first | (with_reducible first | exact HB.out | apply below_alloc | apply pw_below_drewN | apply below_drew1) | exact HB.out)⟩
  · replace c4 := Bool.eq_false_iff.mpr c4
    subst c4
    have H1 : (some (([] : List Int), 20)) = some (r1, r2) := by rw [if_neg (show ¬ (false = true) by decide)] at H; exact H
    clear H
    have H := H1
    clear H1
    simp only [Option.some.injEq, Prod.mk.injEq] at H
    obtain ⟨rfl, rfl⟩ := H
    go_enter Try.func90, Try.ntmps90
    go_wp2_with (first | ((with_reducible refine gate_callee (f := 30) rfl ?_); refine goesL_ (some 14) rfl rfl Try.func30 (by kernel_rfl) rfl #[.slice A0 l0.length c0, .slice A1 l1.length c1] rfl (by (try simp only [List.map_toArray, List.map_cons, List.map_nil]); first | done | rfl | (simp only [List.length_drop, List.length_take]; rfl)) ?_; (with_reducible refine (postmarkref02_May.calls k _ _ l0 _ _ l1 false _ ?side1 ?side2 ?side3 ?side4 A3.out).mono ?_); (case side1 => repeat (first | exact HR0.out | (with_reducible refine Kd.C_alloc ?_ _) | (with_reducible refine Kd.C_drewN ?_ _) | (with_reducible refine Kd.C_drew ?_))); (case side2 => exact HC0.out); (case side3 => repeat (first | exact HR1.out | (with_reducible refine Kd.C_alloc ?_ _) | (with_reducible refine Kd.C_drewN ?_ _) | (with_reducible refine Kd.C_drew ?_))); (case side4 => exact HC1.out); rintro e w43 ⟨rfl, hb⟩; refine ⟨_, rfl, ?_⟩; have n0_ := Aside0.mk (below_step (by repeat (first | (with_reducible first | exact HB.out | apply below_alloc | apply pw_below_drewN | apply below_drew1) | exact HB.out)) hb); clear HB; have HB := n0_; clear n0_; (try clear hb); (try clear hb2); (try clear hk); (try clear hi)))
    go_ret2
    exact ⟨_, by first | rfl | (simp [errW_none, errW_some] <;> rfl) | (simp [*, errW_none, errW_some] <;> rfl), by first | exact Kd.R_nil _ _ _ _ _ | exact Kd.N_nil _ _ _ _ _ | exact Kd.V_nil _ _ _ _ _ | exact Kd.Q_nil _ _ _ _ _ | exact Kd.S_nil _ _ _ _ _, by repeat (first | (with_reducible first | exact HB.out | apply below_alloc | apply pw_below_drewN | apply below_drew1) | exact HB.out)⟩
end Go.Proofs.Ytlifengbicpppaa.G
end
section
namespace Go.Proofs.Ytlifengbicpppaa.G
open Go.RowKit Go.Proofs.YtlifengbicpppaaW.PrintWords Go.Proofs.YtlifengbicpppaaW.PrintLast Go.Proofs.YtlifengbicpppaaW.PrintMore
attribute [local go_sem] max2_int min2_int max_two min_two max_three min_three max_four min_four   -- for this text's walks alone
set_option linter.unusedVariables false
set_option linter.unusedSimpArgs false
def postmarkref02_Bytes.l0 : Nat → List Int → List Int → Int → Option (List Int)
  | 0, _, _, _ => none
  | k + 1, x3, x4, x5 => if x5 ≥ 0 then (if 0 ≤ x5 then (if x5 < (x3.length : Int) then (if x4.length < 140737488355328 then (postmarkref02_Bytes.l0 k x3 (x4 ++ [(rd x3 x5) % 256]) (wrap64 (x5 - 1))) else (none)) else (none)) else (none)) else (some x4)
def postmarkref02_Bytes.f (k : Nat) (l0 : List Int) : Option (List Int) := (postmarkref02_Digits.f k l0).bind fun t193 => (postmarkref02_Bytes.l0 k t193 ([] : List Int) (wrap64 ((t193.length : Int) - 1)))
set_option maxHeartbeats 8000000 in
set_option maxRecDepth 100000 in
theorem postmarkref02_Bytes.calls (k : Nat) (A0 : Option Addr) (c0 : Nat) (l0 : List Int) (r : List Int) (w : World) (hr0 : Kd.C (Kd.int .u32) w A0 l0.length l0) (hc0 : l0.length ≤ c0) (h : postmarkref02_Bytes.f k l0 = some r) :
    Calls Try.prog 104 #[.slice A0 l0.length c0] w fun e w' => ∃ v0_ : Value, e = .returned (v0_) ∧ Kd.R (Kd.int .u8) 5 w' w.heap.size (fun _ => True) v0_ r ∧ Below w.heap.size w w' := by
  have HR0 := Aside0.mk hr0
  have HC0 := Aside0.mk hc0
  clear hr0 hc0
  have HB := Aside0.mk (Below.refl w.heap.size w)
  have H : ((postmarkref02_Digits.f k l0).bind fun t193 => (postmarkref02_Bytes.l0 k t193 ([] : List Int) (wrap64 ((t193.length : Int) - 1)))) = some r := h
  clear h
  replace H := Option.bind_eq_some_iff.mp H
  obtain ⟨t193, A20, H⟩ := H
  replace H : (postmarkref02_Bytes.l0 k t193 ([] : List Int) (wrap64 ((t193.length : Int) - 1))) = some r := H
  have A2 := Aside0.mk A20
  clear A20
  have H' := Aside0.mk H
  clear H
  go_enter Try.func104, Try.ntmps104
  go_wp2_with (first | ((with_reducible refine gate_callee (f := 76) rfl ?_); refine goesL_ (some 7) rfl rfl Try.func76 (by kernel_rfl) rfl #[.slice A0 l0.length c0] rfl (by (try simp only [List.map_toArray, List.map_cons, List.map_nil]); first | done | rfl | (simp only [List.length_drop, List.length_take]; rfl)) ?_; (with_reducible refine (postmarkref02_Digits.calls k _ _ l0 t193 _ ?side1 ?side2 A2.out).mono ?_); (case side1 => repeat (first | exact HR0.out | (with_reducible refine Kd.C_alloc ?_ _) | (with_reducible refine Kd.C_drewN ?_ _) | (with_reducible refine Kd.C_drew ?_))); (case side2 => exact HC0.out); rintro e w3 ⟨v194, rfl, ho0, hb⟩; refine ⟨_, rfl, ?_⟩; have n0_ := Aside0.mk (Kd.R_lower ho0 (below_size (by repeat (first | (with_reducible first | exact HB.out | apply below_alloc | apply pw_below_drewN | apply below_drew1) | exact HB.out)))); have n1_ := Aside0.mk (below_step (by repeat (first | (with_reducible first | exact HB.out | apply below_alloc | apply pw_below_drewN | apply below_drew1) | exact HB.out)) hb); clear HB; have HO195 := n0_; have HB := n1_; clear n0_ n1_; (try clear hb); (try clear hb2); (try clear hk); (try clear hi); (try clear ho0); obtain ⟨Ao4, co4, eo4⟩ := Kd.R_slice HO195.out; subst eo4))
  go_loopg [4, 5] k (fun kq v4 v5 w' => ∃ (x4_1 : List Int) (x5_1 : Int), v5 = .int .i64 x5_1 ∧ Aside0 (postmarkref02_Bytes.l0 kq t193 x4_1 x5_1 = some r) ∧ Aside0 (kq ≤ k) ∧ Aside0 (Kd.R (Kd.int .i64) 3 w' w.heap.size (fun _ => True) (.slice Ao4 t193.length co4) t193) ∧ Aside0 (Kd.R (Kd.int .u8) 5 w' w.heap.size (fun _ => True) v4 x4_1) ∧ Aside0 (Below w.heap.size w w'))
  case atStart => exact ⟨(([] : List Int)), (wrap64 ((t193.length : Int) - 1)), (by first | rfl | (simp; done) | (simp [*]; done)), H', ⟨Nat.le_refl _⟩, ⟨by (with_reducible repeat (first | apply Kd.R_alloc | apply Kd.R_drewN | apply Kd.R_drew)); exact HO195.out⟩, ⟨by first | exact Kd.R_nil _ _ _ _ _ | exact Kd.N_nil _ _ _ _ _ | exact Kd.V_nil _ _ _ _ _ | exact Kd.Q_nil _ _ _ _ _ | exact Kd.S_nil _ _ _ _ _⟩, ⟨by repeat (first | (with_reducible first | exact HB.out | apply below_alloc | apply pw_below_drewN | apply below_drew1) | exact HB.out)⟩⟩
  case round =>
    clear H'
    try clear c1
    try clear p2
    obtain ⟨x4_1, x5_1, rfl, HA, HK1, HO_3, HO_4, HB⟩ := hrel
    cases gk with
    | zero => exact absurd HA.out (by simp [postmarkref02_Bytes.l0])
    | succ k1 =>
      have H := HA.out
      clear HA
      simp only [postmarkref02_Bytes.l0] at H
      by_cases c5 : x5_1 ≥ 0
      · rw [if_pos c5] at H
        have c5b0 : decide (0 ≤ x5_1) = true := decide_eq_true c5
        clear c5
        by_cases c6 : 0 ≤ x5_1
        · rw [if_pos c6] at H
          have c6b0 : decide (0 ≤ x5_1) = true := decide_eq_true c6
          clear c6
          by_cases c7 : x5_1 < (t193.length : Int)
          · rw [if_pos c7] at H
            have c7b0 : decide (x5_1 < (t193.length : Int)) = true := decide_eq_true c7
            clear c7
            by_cases c8 : x4_1.length < 140737488355328
            · rw [if_pos c8] at H
              have LMc8 := Aside0.mk c8
              clear c8
              obtain ⟨y197, hy197⟩ : ∃ y_ : List Int, y_ = (x4_1 ++ [(rd t193 x5_1) % 256]) := ⟨_, rfl⟩
              replace H : (postmarkref02_Bytes.l0 k1 t193 y197 (wrap64 (x5_1 - 1))) = some r := by first | (rw [hy197]; with_reducible exact H) | (have H2_ := (Option.bind_some _ _).symm.trans H; rw [hy197]; with_reducible exact H2_) | (have H2_ := (Option.bind_some _ _).symm.trans H; with_reducible exact H2_) | with_reducible exact H | (rw [hy197]; exact H) | exact H
              have Ny197 := Aside0.mk hy197
              clear hy197
              have H' := Aside0.mk H
              clear H
              have p196 : 0 ≤ (x5_1 : Int) := of_decide_eq_true (by first | (with_reducible assumption) | assumption)
              have q196 : x5_1 < (t193.length : Int) := of_decide_eq_true (by first | (with_reducible assumption) | assumption)
              obtain ⟨ad196, e196, hx196_0⟩ := Kd.at_int (Kd.R_reads' HO_3.out).2.2 x5_1 p196 q196
              cases e196
              replace p196 := eq_true p196
              replace q196 := eq_true q196
              go_wp2_with (first | ((with_reducible refine gate_builtin (b := .append) (xs := #[.tmp 15, .tmp 21]) rfl ?_); at_builtin; refine Kd.R_append (Kd.int .u8) (w0 := w) w.heap.size rfl (.tmp 15) (.tmp 21) 23 5 (.int .u8 0) 1 rfl Try.underlying23 info5 rfl (by decide) (by omega) u4 x4_1 ((rd t193 x5_1) % 256) [.int .u8 ((rd t193 x5_1) % 256)] (fun _ => True) (fun _ => False) rfl rfl ?aP (fun _ hk => hk.elim) ?aF ?aO ?aB ?aS ?aL ?_; (case aP => exact rfl); (case aB => exact (by repeat (first | (with_reducible first | exact HB.out | apply below_alloc | apply pw_below_drewN | apply below_drew1) | exact HB.out))); (case aF => exact (fun _ _ => trivial)); (case aO => exact (by (with_reducible repeat (first | apply Kd.R_alloc | apply Kd.R_drewN | apply Kd.R_drew)); exact HO_4.out)); (case aS => exact (below_size (by repeat (first | (with_reducible first | exact HB.out | apply below_alloc | apply pw_below_drewN | apply below_drew1) | exact HB.out)))); (case aL => have := LMc8.out; omega); intro v198 w9 ho hb hg hat; rw [← Ny197.out] at ho; have n0_ := Aside0.mk (Kd.R_over' (by (with_reducible repeat (first | apply Kd.R_alloc | apply Kd.R_drewN | apply Kd.R_drew)); exact HO_3.out) (Kd.R_typed (by (with_reducible repeat (first | apply Kd.R_alloc | apply Kd.R_drewN | apply Kd.R_drew)); exact HO_4.out)) (by decide) hg); have n1_ := Aside0.mk (hb); have n2_ := Aside0.mk (ho); clear HO_3; clear HB; clear HO_4; have HO_3 := n0_; have HB := n1_; have HO199 := n2_; clear n0_ n1_ n2_; clear ho hb hg hat))
              go_roundg k1
              case measure => have := HK1.out; omega
              case rel => exact ⟨(y197), (wrap64 (x5_1 - 1)), (by first | rfl | (simp; done) | (simp [*]; done)), H', ⟨by have := HK1.out; omega⟩, ⟨by (with_reducible repeat (first | apply Kd.R_alloc | apply Kd.R_drewN | apply Kd.R_drew)); exact HO_3.out⟩, ⟨by (with_reducible repeat (first | apply Kd.R_alloc | apply Kd.R_drewN | apply Kd.R_drew)); exact HO199.out⟩, ⟨by repeat (first | (with_reducible first | exact HB.out | apply below_alloc | apply pw_below_drewN | apply below_drew1) | exact HB.out)⟩⟩
            · rw [if_neg c8] at H
              exact absurd H (by simp)
          · rw [if_neg c7] at H
            exact absurd H (by simp)
        · rw [if_neg c6] at H
          exact absurd H (by simp)
      · rw [if_neg c5] at H
        have c5b0 : decide (0 ≤ x5_1) = false := decide_eq_false c5
        clear c5
        obtain rfl := Option.some.inj H
        go_wp2
        go_ret
        exact ⟨_, by first | rfl | (simp [errW_none, errW_some] <;> rfl) | (simp [*, errW_none, errW_some] <;> rfl), by (with_reducible repeat (first | apply Kd.R_alloc | apply Kd.R_drewN | apply Kd.R_drew)); exact HO_4.out, by repeat (first | (with_reducible first | exact HB.out | apply below_alloc | apply pw_below_drewN | apply below_drew1) | exact HB.out)⟩
end Go.Proofs.Ytlifengbicpppaa.G
end
section
namespace Go.Proofs.Ytlifengbicpppaa.G
open Go.RowKit Go.Proofs.YtlifengbicpppaaW.PrintWords Go.Proofs.YtlifengbicpppaaW.PrintLast Go.Proofs.YtlifengbicpppaaW.PrintMore
attribute [local go_sem] max2_int min2_int max_two min_two max_three min_three max_four min_four   -- for this text's walks alone
set_option linter.unusedVariables false
set_option linter.unusedSimpArgs false
def postmarkref02_Cmp.l0 : Nat → List Int → List Int → Int → Option (Int)
  | 0, _, _, _ => none
  | k + 1, x5, x6, x7 => if x7 < (x5.length : Int) then (if 0 ≤ x7 then (if x7 < (x6.length : Int) then (if (rd x5 x7) < (rd x6 x7) then (some (-1)) else (if (rd x5 x7) > (rd x6 x7) then (some 1) else (postmarkref02_Cmp.l0 k x5 x6 (wrap64 (x7 + 1))))) else (none)) else (none)) else (some 0)
def postmarkref02_Cmp.f (k : Nat) (l0 : List Int) (l1 : List Int) : Option (Int) := (postmarkref02_Bytes.f k l0).bind fun t200 => ((postmarkref02_Bytes.f k l1).bind fun t203 => (if (t200.length : Int) = (t203.length : Int) then (postmarkref02_Cmp.l0 k t200 t203 0) else (if (t200.length : Int) < (t203.length : Int) then (some (-1)) else (some 1))))
set_option maxHeartbeats 8000000 in
set_option maxRecDepth 100000 in
theorem postmarkref02_Cmp.calls (k : Nat) (A0 : Option Addr) (c0 : Nat) (l0 : List Int) (A1 : Option Addr) (c1 : Nat) (l1 : List Int) (r : Int) (w : World) (hr0 : Kd.C (Kd.int .u32) w A0 l0.length l0) (hc0 : l0.length ≤ c0) (hr1 : Kd.C (Kd.int .u32) w A1 l1.length l1) (hc1 : l1.length ≤ c1) (h : postmarkref02_Cmp.f k l0 l1 = some r) :
    Calls Try.prog 62 #[.slice A0 l0.length c0, .slice A1 l1.length c1] w fun e w' => e = .returned (.int .i64 r) ∧ Below w.heap.size w w' := by
  have HR0 := Aside0.mk hr0
  have HC0 := Aside0.mk hc0
  clear hr0 hc0
  have HR1 := Aside0.mk hr1
  have HC1 := Aside0.mk hc1
  clear hr1 hc1
  have HB := Aside0.mk (Below.refl w.heap.size w)
  have H : ((postmarkref02_Bytes.f k l0).bind fun t200 => ((postmarkref02_Bytes.f k l1).bind fun t203 => (if (t200.length : Int) = (t203.length : Int) then (postmarkref02_Cmp.l0 k t200 t203 0) else (if (t200.length : Int) < (t203.length : Int) then (some (-1)) else (some 1))))) = some r := h
  clear h
  replace H := Option.bind_eq_some_iff.mp H
  obtain ⟨t200, A30, H⟩ := H
  replace H : ((postmarkref02_Bytes.f k l1).bind fun t203 => (if (t200.length : Int) = (t203.length : Int) then (postmarkref02_Cmp.l0 k t200 t203 0) else (if (t200.length : Int) < (t203.length : Int) then (some (-1)) else (some 1)))) = some r := H
  have A3 := Aside0.mk A30
  clear A30
  replace H := Option.bind_eq_some_iff.mp H
  obtain ⟨t203, A40, H⟩ := H
  replace H : (if (t200.length : Int) = (t203.length : Int) then (postmarkref02_Cmp.l0 k t200 t203 0) else (if (t200.length : Int) < (t203.length : Int) then (some (-1)) else (some 1))) = some r := H
  have A4 := Aside0.mk A40
  clear A40
  by_cases c5 : (t200.length : Int) = (t203.length : Int)
  · rw [if_pos c5] at H
    have c5b0 : ((t200.length : Int) == (t203.length : Int)) = true := beq_iff_eq.mpr c5
    have c5b1 : ((t200.length : Int) != (t203.length : Int)) = false := bne_eq_false_iff_eq.mpr c5
    have c5b2 : (t200.length == t203.length) = true := by first | simpa using c5 | (simp at c5 ⊢; omega)
    clear c5
    have H' := Aside0.mk H
    clear H
    go_enter Try.func62, Try.ntmps62
    go_wp2_with (first | (go_at_call 104; (with_reducible refine (postmarkref02_Bytes.calls k _ _ l0 t200 _ ?side1 ?side2 A3.out).mono ?_); (case side1 => repeat (first | exact HR0.out | (with_reducible refine Kd.C_alloc ?_ _) | (with_reducible refine Kd.C_drewN ?_ _) | (with_reducible refine Kd.C_drew ?_))); (case side2 => exact HC0.out); rintro e w6 ⟨v201, rfl, ho0, hb⟩; have n0_ := Aside0.mk (Kd.R_lower ho0 (below_size (by repeat (first | (with_reducible first | exact HB.out | apply below_alloc | apply pw_below_drewN | apply below_drew1) | exact HB.out)))); have n1_ := Aside0.mk (below_step (by repeat (first | (with_reducible first | exact HB.out | apply below_alloc | apply pw_below_drewN | apply below_drew1) | exact HB.out)) hb); clear HB; have HO202 := n0_; have HB := n1_; clear n0_ n1_; (try clear hb); (try clear hb2); (try clear hk); (try clear hi); (try clear ho0)) | (go_at_call 104; (with_reducible refine (postmarkref02_Bytes.calls k _ _ l1 t203 _ ?side1 ?side2 A4.out).mono ?_); (case side1 => repeat (first | exact (Kd.C_below HR1.out HB.out) | (with_reducible refine Kd.C_alloc ?_ _) | (with_reducible refine Kd.C_drewN ?_ _) | (with_reducible refine Kd.C_drew ?_))); (case side2 => exact HC1.out); rintro e w7 ⟨v204, rfl, ho0, hb⟩; have n0_ := Aside0.mk (Kd.R_elder' (by (with_reducible repeat (first | apply Kd.R_alloc | apply Kd.R_drewN | apply Kd.R_drew)); exact HO202.out) (Kd.R_base ho0) hb); have n1_ := Aside0.mk (Kd.R_lower (Kd.R_new' ho0 (Kd.R_lt (by (with_reducible repeat (first | apply Kd.R_alloc | apply Kd.R_drewN | apply Kd.R_drew)); exact HO202.out))) (below_size (by repeat (first | (with_reducible first | exact HB.out | apply below_alloc | apply pw_below_drewN | apply below_drew1) | exact HB.out)))); have n2_ := Aside0.mk (below_step (by repeat (first | (with_reducible first | exact HB.out | apply below_alloc | apply pw_below_drewN | apply below_drew1) | exact HB.out)) hb); clear HO202; clear HB; have HO202 := n0_; have HO205 := n1_; have HB := n2_; clear n0_ n1_ n2_; (try clear hb); (try clear hb2); (try clear hk); (try clear hi); (try clear ho0); obtain ⟨Ao8, co8, eo8⟩ := Kd.R_slice HO202.out; subst eo8; obtain ⟨Ao9, co9, eo9⟩ := Kd.R_slice HO205.out; subst eo9))
    repeat (go_quiet (first | (go_at_call 104; (with_reducible refine (postmarkref02_Bytes.calls k _ _ l0 t200 _ ?side1 ?side2 A3.out).mono ?_); (case side1 => repeat (first | exact HR0.out | (with_reducible refine Kd.C_alloc ?_ _) | (with_reducible refine Kd.C_drewN ?_ _) | (with_reducible refine Kd.C_drew ?_))); (case side2 => exact HC0.out); rintro e w6 ⟨v201, rfl, ho0, hb⟩; have n0_ := Aside0.mk (Kd.R_lower ho0 (below_size (by repeat (first | (with_reducible first | exact HB.out | apply below_alloc | apply pw_below_drewN | apply below_drew1) | exact HB.out)))); have n1_ := Aside0.mk (below_step (by repeat (first | (with_reducible first | exact HB.out | apply below_alloc | apply pw_below_drewN | apply below_drew1) | exact HB.out)) hb); clear HB; have HO202 := n0_; have HB := n1_; clear n0_ n1_; (try clear hb); (try clear hb2); (try clear hk); (try clear hi); (try clear ho0)) | (go_at_call 104; (with_reducible refine (postmarkref02_Bytes.calls k _ _ l1 t203 _ ?side1 ?side2 A4.out).mono ?_); (case side1 => repeat (first | exact (Kd.C_below HR1.out HB.out) | (with_reducible refine Kd.C_alloc ?_ _) | (with_reducible refine Kd.C_drewN ?_ _) | (with_reducible refine Kd.C_drew ?_))); (case side2 => exact HC1.out); rintro e w7 ⟨v204, rfl, ho0, hb⟩; have n0_ := Aside0.mk (Kd.R_elder' (by (with_reducible repeat (first | apply Kd.R_alloc | apply Kd.R_drewN | apply Kd.R_drew)); exact HO202.out) (Kd.R_base ho0) hb); have n1_ := Aside0.mk (Kd.R_lower (Kd.R_new' ho0 (Kd.R_lt (by (with_reducible repeat (first | apply Kd.R_alloc | apply Kd.R_drewN | apply Kd.R_drew)); exact HO202.out))) (below_size (by repeat (first | (with_reducible first | exact HB.out | apply below_alloc | apply pw_below_drewN | apply below_drew1) | exact HB.out)))); have n2_ := Aside0.mk (below_step (by repeat (first | (with_reducible first | exact HB.out | apply below_alloc | apply pw_below_drewN | apply below_drew1) | exact HB.out)) hb); clear HO202; clear HB; have HO202 := n0_; have HO205 := n1_; have HB := n2_; clear n0_ n1_ n2_; (try clear hb); (try clear hb2); (try clear hk); (try clear hi); (try clear ho0); obtain ⟨Ao8, co8, eo8⟩ := Kd.R_slice HO202.out; subst eo8; obtain ⟨Ao9, co9, eo9⟩ := Kd.R_slice HO205.out; subst eo9)); try go_wp2_with (first | (go_at_call 104; (with_reducible refine (postmarkref02_Bytes.calls k _ _ l0 t200 _ ?side1 ?side2 A3.out).mono ?_); (case side1 => repeat (first | exact HR0.out | (with_reducible refine Kd.C_alloc ?_ _) | (with_reducible refine Kd.C_drewN ?_ _) | (with_reducible refine Kd.C_drew ?_))); (case side2 => exact HC0.out); rintro e w6 ⟨v201, rfl, ho0, hb⟩; have n0_ := Aside0.mk (Kd.R_lower ho0 (below_size (by repeat (first | (with_reducible first | exact HB.out | apply below_alloc | apply pw_below_drewN | apply below_drew1) | exact HB.out)))); have n1_ := Aside0.mk (below_step (by repeat (first | (with_reducible first | exact HB.out | apply below_alloc | apply pw_below_drewN | apply below_drew1) | exact HB.out)) hb); clear HB; have HO202 := n0_; have HB := n1_; clear n0_ n1_; (try clear hb); (try clear hb2); (try clear hk); (try clear hi); (try clear ho0)) | (go_at_call 104; (with_reducible refine (postmarkref02_Bytes.calls k _ _ l1 t203 _ ?side1 ?side2 A4.out).mono ?_); (case side1 => repeat (first | exact (Kd.C_below HR1.out HB.out) | (with_reducible refine Kd.C_alloc ?_ _) | (with_reducible refine Kd.C_drewN ?_ _) | (with_reducible refine Kd.C_drew ?_))); (case side2 => exact HC1.out); rintro e w7 ⟨v204, rfl, ho0, hb⟩; have n0_ := Aside0.mk (Kd.R_elder' (by (with_reducible repeat (first | apply Kd.R_alloc | apply Kd.R_drewN | apply Kd.R_drew)); exact HO202.out) (Kd.R_base ho0) hb); have n1_ := Aside0.mk (Kd.R_lower (Kd.R_new' ho0 (Kd.R_lt (by (with_reducible repeat (first | apply Kd.R_alloc | apply Kd.R_drewN | apply Kd.R_drew)); exact HO202.out))) (below_size (by repeat (first | (with_reducible first | exact HB.out | apply below_alloc | apply pw_below_drewN | apply below_drew1) | exact HB.out)))); have n2_ := Aside0.mk (below_step (by repeat (first | (with_reducible first | exact HB.out | apply below_alloc | apply pw_below_drewN | apply below_drew1) | exact HB.out)) hb); clear HO202; clear HB; have HO202 := n0_; have HO205 := n1_; have HB := n2_; clear n0_ n1_ n2_; (try clear hb); (try clear hb2); (try clear hk); (try clear hi); (try clear ho0); obtain ⟨Ao8, co8, eo8⟩ := Kd.R_slice HO202.out; subst eo8; obtain ⟨Ao9, co9, eo9⟩ := Kd.R_slice HO205.out; subst eo9)))
    go_loopg [7] k (fun kq v7 w' => ∃ (x7_1 : Int), v7 = .int .i64 x7_1 ∧ Aside0 (postmarkref02_Cmp.l0 kq t200 t203 x7_1 = some r) ∧ Aside0 (kq ≤ k) ∧ Aside0 (Kd.R (Kd.int .u8) 5 w' w.heap.size (fun k_ => some k_ ≠ ((.slice Ao9 t203.length co9) : Value).ownBlock) (.slice Ao8 t200.length co8) t200) ∧ Aside0 (Kd.R (Kd.int .u8) 5 w' w.heap.size (fun k_ => some k_ ≠ ((.slice Ao8 t200.length co8) : Value).ownBlock) (.slice Ao9 t203.length co9) t203) ∧ Aside0 (Below w.heap.size w w'))
    case atStart => exact ⟨(0), (by first | rfl | (simp; done) | (simp [*]; done)), H', ⟨Nat.le_refl _⟩, ⟨by (with_reducible repeat (first | apply Kd.R_alloc | apply Kd.R_drewN | apply Kd.R_drew)); exact Kd.R_mono HO202.out (fun _ hk => hk.2)⟩, ⟨by (with_reducible repeat (first | apply Kd.R_alloc | apply Kd.R_drewN | apply Kd.R_drew)); exact Kd.R_mono HO205.out (fun _ hk => hk.2)⟩, ⟨by repeat (first | (with_reducible first | exact HB.out | apply below_alloc | apply pw_below_drewN | apply below_drew1) | exact HB.out)⟩⟩
    case round =>
      clear H'
      try clear c1
      try clear p2
      try clear c5
      try clear c5b0
      try clear c5b1
      try clear c5b2
      try clear c6
      obtain ⟨x7_1, rfl, HA, HK1, HO_5, HO_6, HB⟩ := hrel
      cases gk with
      | zero => exact absurd HA.out (by simp [postmarkref02_Cmp.l0])
      | succ k1 =>
        have H := HA.out
        clear HA
        simp only [postmarkref02_Cmp.l0] at H
        by_cases c10 : x7_1 < (t200.length : Int)
        · rw [if_pos c10] at H
          have c10b0 : decide (x7_1 < (t200.length : Int)) = true := decide_eq_true c10
          clear c10
          by_cases c11 : 0 ≤ x7_1
          · rw [if_pos c11] at H
            have c11b0 : decide (0 ≤ x7_1) = true := decide_eq_true c11
            clear c11
            by_cases c12 : x7_1 < (t203.length : Int)
            · rw [if_pos c12] at H
              have c12b0 : decide (x7_1 < (t203.length : Int)) = true := decide_eq_true c12
              clear c12
              by_cases c13 : (rd t200 x7_1) < (rd t203 x7_1)
              · rw [if_pos c13] at H
                have c13b0 : decide ((rd t200 x7_1) < (rd t203 x7_1)) = true := decide_eq_true c13
                clear c13
                obtain rfl := Option.some.inj H
                have p206 : 0 ≤ (x7_1 : Int) := of_decide_eq_true (by first | (with_reducible assumption) | assumption)
                have q206 : x7_1 < (t200.length : Int) := of_decide_eq_true (by first | (with_reducible assumption) | assumption)
                obtain ⟨ad206, e206, hx206_0⟩ := Kd.at_int (Kd.R_reads' HO_5.out).2.2 x7_1 p206 q206
                cases e206
                replace p206 := eq_true p206
                replace q206 := eq_true q206
                have p207 : 0 ≤ (x7_1 : Int) := of_decide_eq_true (by first | (with_reducible assumption) | assumption)
                have q207 : x7_1 < (t203.length : Int) := of_decide_eq_true (by first | (with_reducible assumption) | assumption)
                obtain ⟨ad207, e207, hx207_0⟩ := Kd.at_int (Kd.R_reads' HO_6.out).2.2 x7_1 p207 q207
                cases e207
                replace p207 := eq_true p207
                replace q207 := eq_true q207
                go_wp2
                repeat (go_quiet (fail); try go_wp2)
                go_ret
                exact ⟨by first | rfl | (simp [errW_none, errW_some] <;> rfl) | (simp [*, errW_none, errW_some] <;> rfl), by repeat (first | (with_reducible first | exact HB.out | apply below_alloc | apply pw_below_drewN | apply below_drew1) | exact HB.out)⟩
              · rw [if_neg c13] at H
                have c13b0 : decide ((rd t200 x7_1) < (rd t203 x7_1)) = false := decide_eq_false c13
                clear c13
                by_cases c14 : (rd t200 x7_1) > (rd t203 x7_1)
                · rw [if_pos c14] at H
                  have c14b0 : decide ((rd t203 x7_1) < (rd t200 x7_1)) = true := decide_eq_true c14
                  clear c14
                  obtain rfl := Option.some.inj H
                  have p206 : 0 ≤ (x7_1 : Int) := of_decide_eq_true (by first | (with_reducible assumption) | assumption)
                  have q206 : x7_1 < (t200.length : Int) := of_decide_eq_true (by first | (with_reducible assumption) | assumption)
                  obtain ⟨ad206, e206, hx206_0⟩ := Kd.at_int (Kd.R_reads' HO_5.out).2.2 x7_1 p206 q206
                  cases e206
                  replace p206 := eq_true p206
                  replace q206 := eq_true q206
                  have p207 : 0 ≤ (x7_1 : Int) := of_decide_eq_true (by first | (with_reducible assumption) | assumption)
                  have q207 : x7_1 < (t203.length : Int) := of_decide_eq_true (by first | (with_reducible assumption) | assumption)
                  obtain ⟨ad207, e207, hx207_0⟩ := Kd.at_int (Kd.R_reads' HO_6.out).2.2 x7_1 p207 q207
                  cases e207
                  replace p207 := eq_true p207
                  replace q207 := eq_true q207
                  have p208 : 0 ≤ (x7_1 : Int) := of_decide_eq_true (by first | (with_reducible assumption) | assumption)
                  have q208 : x7_1 < (t200.length : Int) := of_decide_eq_true (by first | (with_reducible assumption) | assumption)
                  obtain ⟨ad208, e208, hx208_0⟩ := Kd.at_int (Kd.R_reads' HO_5.out).2.2 x7_1 p208 q208
                  obtain rfl : ad206 = ad208 := (by injection e208)
                  replace p208 := eq_true p208
                  replace q208 := eq_true q208
                  have p209 : 0 ≤ (x7_1 : Int) := of_decide_eq_true (by first | (with_reducible assumption) | assumption)
                  have q209 : x7_1 < (t203.length : Int) := of_decide_eq_true (by first | (with_reducible assumption) | assumption)
                  obtain ⟨ad209, e209, hx209_0⟩ := Kd.at_int (Kd.R_reads' HO_6.out).2.2 x7_1 p209 q209
                  obtain rfl : ad207 = ad209 := (by injection e209)
                  replace p209 := eq_true p209
                  replace q209 := eq_true q209
                  go_wp2
                  repeat (go_quiet (fail); try go_wp2)
                  go_ret
                  exact ⟨by first | rfl | (simp [errW_none, errW_some] <;> rfl) | (simp [*, errW_none, errW_some] <;> rfl), by repeat (first | (with_reducible first | exact HB.out | apply below_alloc | apply pw_below_drewN | apply below_drew1) | exact HB.out)⟩
                · rw [if_neg c14] at H
                  have c14b0 : decide ((rd t203 x7_1) < (rd t200 x7_1)) = false := decide_eq_false c14
                  clear c14
                  have H' := Aside0.mk H
                  clear H
                  have p206 : 0 ≤ (x7_1 : Int) := of_decide_eq_true (by first | (with_reducible assumption) | assumption)
                  have q206 : x7_1 < (t200.length : Int) := of_decide_eq_true (by first | (with_reducible assumption) | assumption)
                  obtain ⟨ad206, e206, hx206_0⟩ := Kd.at_int (Kd.R_reads' HO_5.out).2.2 x7_1 p206 q206
                  cases e206
                  replace p206 := eq_true p206
                  replace q206 := eq_true q206
                  have p207 : 0 ≤ (x7_1 : Int) := of_decide_eq_true (by first | (with_reducible assumption) | assumption)
                  have q207 : x7_1 < (t203.length : Int) := of_decide_eq_true (by first | (with_reducible assumption) | assumption)
                  obtain ⟨ad207, e207, hx207_0⟩ := Kd.at_int (Kd.R_reads' HO_6.out).2.2 x7_1 p207 q207
                  cases e207
                  replace p207 := eq_true p207
                  replace q207 := eq_true q207
                  have p208 : 0 ≤ (x7_1 : Int) := of_decide_eq_true (by first | (with_reducible assumption) | assumption)
                  have q208 : x7_1 < (t200.length : Int) := of_decide_eq_true (by first | (with_reducible assumption) | assumption)
                  obtain ⟨ad208, e208, hx208_0⟩ := Kd.at_int (Kd.R_reads' HO_5.out).2.2 x7_1 p208 q208
                  obtain rfl : ad206 = ad208 := (by injection e208)
                  replace p208 := eq_true p208
                  replace q208 := eq_true q208
                  have p209 : 0 ≤ (x7_1 : Int) := of_decide_eq_true (by first | (with_reducible assumption) | assumption)
                  have q209 : x7_1 < (t203.length : Int) := of_decide_eq_true (by first | (with_reducible assumption) | assumption)
                  obtain ⟨ad209, e209, hx209_0⟩ := Kd.at_int (Kd.R_reads' HO_6.out).2.2 x7_1 p209 q209
                  obtain rfl : ad207 = ad209 := (by injection e209)
                  replace p209 := eq_true p209
                  replace q209 := eq_true q209
                  go_wp2
                  repeat (go_quiet (fail); try go_wp2)
                  go_roundg k1
                  case measure => have := HK1.out; omega
                  case rel => exact ⟨(wrap64 (x7_1 + 1)), (by first | rfl | (simp; done) | (simp [*]; done)), H', ⟨by have := HK1.out; omega⟩, ⟨by (with_reducible repeat (first | apply Kd.R_alloc | apply Kd.R_drewN | apply Kd.R_drew)); exact HO_5.out⟩, ⟨by (with_reducible repeat (first | apply Kd.R_alloc | apply Kd.R_drewN | apply Kd.R_drew)); exact HO_6.out⟩, ⟨by repeat (first | (with_reducible first | exact HB.out | apply below_alloc | apply pw_below_drewN | apply below_drew1) | exact HB.out)⟩⟩
            · rw [if_neg c12] at H
              exact absurd H (by simp)
          · rw [if_neg c11] at H
            exact absurd H (by simp)
        · rw [if_neg c10] at H
          have c10b0 : decide (x7_1 < (t200.length : Int)) = false := decide_eq_false c10
          clear c10
          obtain rfl := Option.some.inj H
          go_wp2
          repeat (go_quiet (fail); try go_wp2)
          go_ret
          exact ⟨by first | rfl | (simp [errW_none, errW_some] <;> rfl) | (simp [*, errW_none, errW_some] <;> rfl), by repeat (first | (with_reducible first | exact HB.out | apply below_alloc | apply pw_below_drewN | apply below_drew1) | exact HB.out)⟩
  · rw [if_neg c5] at H
    have c5b0 : ((t200.length : Int) == (t203.length : Int)) = false := beq_eq_false_iff_ne.mpr c5
    have c5b1 : ((t200.length : Int) != (t203.length : Int)) = true := bne_iff_ne.mpr c5
    have c5b2 : (t200.length == t203.length) = false := by first | simpa using c5 | (simp at c5 ⊢; omega)
    by_cases c15 : (t200.length : Int) < (t203.length : Int)
    · rw [if_pos c15] at H
      have c15b0 : decide ((t200.length : Int) < (t203.length : Int)) = true := decide_eq_true c15
      have c15b1 : decide (t200.length < t203.length) = true := decide_eq_true (Int.ofNat_lt.mp c15)
      clear c15
      obtain rfl := Option.some.inj H
      go_enter Try.func62, Try.ntmps62
      go_wp2_with (first | (go_at_call 104; (with_reducible refine (postmarkref02_Bytes.calls k _ _ l0 t200 _ ?side1 ?side2 A3.out).mono ?_); (case side1 => repeat (first | exact HR0.out | (with_reducible refine Kd.C_alloc ?_ _) | (with_reducible refine Kd.C_drewN ?_ _) | (with_reducible refine Kd.C_drew ?_))); (case side2 => exact HC0.out); rintro e w16 ⟨v201, rfl, ho0, hb⟩; have n0_ := Aside0.mk (Kd.R_lower ho0 (below_size (by repeat (first | (with_reducible first | exact HB.out | apply below_alloc | apply pw_below_drewN | apply below_drew1) | exact HB.out)))); have n1_ := Aside0.mk (below_step (by repeat (first | (with_reducible first | exact HB.out | apply below_alloc | apply pw_below_drewN | apply below_drew1) | exact HB.out)) hb); clear HB; have HO202 := n0_; have HB := n1_; clear n0_ n1_; (try clear hb); (try clear hb2); (try clear hk); (try clear hi); (try clear ho0)) | (go_at_call 104; (with_reducible refine (postmarkref02_Bytes.calls k _ _ l1 t203 _ ?side1 ?side2 A4.out).mono ?_); (case side1 => repeat (first | exact (Kd.C_below HR1.out HB.out) | (with_reducible refine Kd.C_alloc ?_ _) | (with_reducible refine Kd.C_drewN ?_ _) | (with_reducible refine Kd.C_drew ?_))); (case side2 => exact HC1.out); rintro e w17 ⟨v204, rfl, ho0, hb⟩; have n0_ := Aside0.mk (Kd.R_elder' (by (with_reducible repeat (first | apply Kd.R_alloc | apply Kd.R_drewN | apply Kd.R_drew)); exact HO202.out) (Kd.R_base ho0) hb); have n1_ := Aside0.mk (Kd.R_lower (Kd.R_new' ho0 (Kd.R_lt (by (with_reducible repeat (first | apply Kd.R_alloc | apply Kd.R_drewN | apply Kd.R_drew)); exact HO202.out))) (below_size (by repeat (first | (with_reducible first | exact HB.out | apply below_alloc | apply pw_below_drewN | apply below_drew1) | exact HB.out)))); have n2_ := Aside0.mk (below_step (by repeat (first | (with_reducible first | exact HB.out | apply below_alloc | apply pw_below_drewN | apply below_drew1) | exact HB.out)) hb); clear HO202; clear HB; have HO202 := n0_; have HO205 := n1_; have HB := n2_; clear n0_ n1_ n2_; (try clear hb); (try clear hb2); (try clear hk); (try clear hi); (try clear ho0); obtain ⟨Ao18, co18, eo18⟩ := Kd.R_slice HO202.out; subst eo18; obtain ⟨Ao19, co19, eo19⟩ := Kd.R_slice HO205.out; subst eo19))
      repeat (go_quiet (first | (go_at_call 104; (with_reducible refine (postmarkref02_Bytes.calls k _ _ l0 t200 _ ?side1 ?side2 A3.out).mono ?_); (case side1 => repeat (first | exact HR0.out | (with_reducible refine Kd.C_alloc ?_ _) | (with_reducible refine Kd.C_drewN ?_ _) | (with_reducible refine Kd.C_drew ?_))); (case side2 => exact HC0.out); rintro e w16 ⟨v201, rfl, ho0, hb⟩; have n0_ := Aside0.mk (Kd.R_lower ho0 (below_size (by repeat (first | (with_reducible first | exact HB.out | apply below_alloc | apply pw_below_drewN | apply below_drew1) | exact HB.out)))); have n1_ := Aside0.mk (below_step (by repeat (first | (with_reducible first | exact HB.out | apply below_alloc | apply pw_below_drewN | apply below_drew1) | exact HB.out)) hb); clear HB; have HO202 := n0_; have HB := n1_; clear n0_ n1_; (try clear hb); (try clear hb2); (try clear hk); (try clear hi); (try clear ho0)) | (go_at_call 104; (with_reducible refine (postmarkref02_Bytes.calls k _ _ l1 t203 _ ?side1 ?side2 A4.out).mono ?_); (case side1 => repeat (first | exact (Kd.C_below HR1.out HB.out) | (with_reducible refine Kd.C_alloc ?_ _) | (with_reducible refine Kd.C_drewN ?_ _) | (with_reducible refine Kd.C_drew ?_))); (case side2 => exact HC1.out); rintro e w17 ⟨v204, rfl, ho0, hb⟩; have n0_ := Aside0.mk (Kd.R_elder' (by (with_reducible repeat (first | apply Kd.R_alloc | apply Kd.R_drewN | apply Kd.R_drew)); exact HO202.out) (Kd.R_base ho0) hb); have n1_ := Aside0.mk (Kd.R_lower (Kd.R_new' ho0 (Kd.R_lt (by (with_reducible repeat (first | apply Kd.R_alloc | apply Kd.R_drewN | apply Kd.R_drew)); exact HO202.out))) (below_size (by repeat (first | (with_reducible first | exact HB.out | apply below_alloc | apply pw_below_drewN | apply below_drew1) | exact HB.out)))); have n2_ := Aside0.mk (below_step (by repeat (first | (with_reducible first | exact HB.out | apply below_alloc | apply pw_below_drewN | apply below_drew1) | exact HB.out)) hb); clear HO202; clear HB; have HO202 := n0_; have HO205 := n1_; have HB := n2_; clear n0_ n1_ n2_; (try clear hb); (try clear hb2); (try clear hk); (try clear hi); (try clear ho0); obtain ⟨Ao18, co18, eo18⟩ := Kd.R_slice HO202.out; subst eo18; obtain ⟨Ao19, co19, eo19⟩ := Kd.R_slice HO205.out; subst eo19)); try go_wp2_with (first | (go_at_call 104; (with_reducible refine (postmarkref02_Bytes.calls k _ _ l0 t200 _ ?side1 ?side2 A3.out).mono ?_); (case side1 => repeat (first | exact HR0.out | (with_reducible refine Kd.C_alloc ?_ _) | (with_reducible refine Kd.C_drewN ?_ _) | (with_reducible refine Kd.C_drew ?_))); (case side2 => exact HC0.out); rintro e w16 ⟨v201, rfl, ho0, hb⟩; have n0_ := Aside0.mk (Kd.R_lower ho0 (below_size (by repeat (first | (with_reducible first | exact HB.out | apply below_alloc | apply pw_below_drewN | apply below_drew1) | exact HB.out)))); have n1_ := Aside0.mk (below_step (by repeat (first | (with_reducible first | exact HB.out | apply below_alloc | apply pw_below_drewN | apply below_drew1) | exact HB.out)) hb); clear HB; have HO202 := n0_; have HB := n1_; clear n0_ n1_; (try clear hb); (try clear hb2); (try clear hk); (try clear hi); (try clear ho0)) | (go_at_call 104; (with_reducible refine (postmarkref02_Bytes.calls k _ _ l1 t203 _ ?side1 ?side2 A4.out).mono ?_); (case side1 => repeat (first | exact (Kd.C_below HR1.out HB.out) | (with_reducible refine Kd.C_alloc ?_ _) | (with_reducible refine Kd.C_drewN ?_ _) | (with_reducible refine Kd.C_drew ?_))); (case side2 => exact HC1.out); rintro e w17 ⟨v204, rfl, ho0, hb⟩; have n0_ := Aside0.mk (Kd.R_elder' (by (with_reducible repeat (first | apply Kd.R_alloc | apply Kd.R_drewN | apply Kd.R_drew)); exact HO202.out) (Kd.R_base ho0) hb); have n1_ := Aside0.mk (Kd.R_lower (Kd.R_new' ho0 (Kd.R_lt (by (with_reducible repeat (first | apply Kd.R_alloc | apply Kd.R_drewN | apply Kd.R_drew)); exact HO202.out))) (below_size (by repeat (first | (with_reducible first | exact HB.out | apply below_alloc | apply pw_below_drewN | apply below_drew1) | exact HB.out)))); have n2_ := Aside0.mk (below_step (by repeat (first | (with_reducible first | exact HB.out | apply below_alloc | apply pw_below_drewN | apply below_drew1) | exact HB.out)) hb); clear HO202; clear HB; have HO202 := n0_; have HO205 := n1_; have HB := n2_; clear n0_ n1_ n2_; (try clear hb); (try clear hb2); (try clear hk); (try clear hi); (try clear ho0); obtain ⟨Ao18, co18, eo18⟩ := Kd.R_slice HO202.out; subst eo18; obtain ⟨Ao19, co19, eo19⟩ := Kd.R_slice HO205.out; subst eo19)))
      go_ret
      exact ⟨by first | rfl | (simp [errW_none, errW_some] <;> rfl) | (simp [*, errW_none, errW_some] <;> rfl), by repeat (first | (with_reducible first | exact HB.out | apply below_alloc | apply pw_below_drewN | apply below_drew1) | exact HB.out)⟩
    · rw [if_neg c15] at H
      have c15b0 : decide ((t200.length : Int) < (t203.length : Int)) = false := decide_eq_false c15
      have c15b1 : decide (t200.length < t203.length) = false := decide_eq_false (fun h => c15 (Int.ofNat_lt.mpr h))
      clear c15
      obtain rfl := Option.some.inj H
      go_enter Try.func62, Try.ntmps62
      go_wp2_with (first | (go_at_call 104; (with_reducible refine (postmarkref02_Bytes.calls k _ _ l0 t200 _ ?side1 ?side2 A3.out).mono ?_); (case side1 => repeat (first | exact HR0.out | (with_reducible refine Kd.C_alloc ?_ _) | (with_reducible refine Kd.C_drewN ?_ _) | (with_reducible refine Kd.C_drew ?_))); (case side2 => exact HC0.out); rintro e w20 ⟨v201, rfl, ho0, hb⟩; have n0_ := Aside0.mk (Kd.R_lower ho0 (below_size (by repeat (first | (with_reducible first | exact HB.out | apply below_alloc | apply pw_below_drewN | apply below_drew1) | exact HB.out)))); have n1_ := Aside0.mk (below_step (by repeat (first | (with_reducible first | exact HB.out | apply below_alloc | apply pw_below_drewN | apply below_drew1) | exact HB.out)) hb); clear HB; have HO202 := n0_; have HB := n1_; clear n0_ n1_; (try clear hb); (try clear hb2); (try clear hk); (try clear hi); (try clear ho0)) | (go_at_call 104; (with_reducible refine (postmarkref02_Bytes.calls k _ _ l1 t203 _ ?side1 ?side2 A4.out).mono ?_); (case side1 => repeat (first | exact (Kd.C_below HR1.out HB.out) | (with_reducible refine Kd.C_alloc ?_ _) | (with_reducible refine Kd.C_drewN ?_ _) | (with_reducible refine Kd.C_drew ?_))); (case side2 => exact HC1.out); rintro e w21 ⟨v204, rfl, ho0, hb⟩; have n0_ := Aside0.mk (Kd.R_elder' (by (with_reducible repeat (first | apply Kd.R_alloc | apply Kd.R_drewN | apply Kd.R_drew)); exact HO202.out) (Kd.R_base ho0) hb); have n1_ := Aside0.mk (Kd.R_lower (Kd.R_new' ho0 (Kd.R_lt (by (with_reducible repeat (first | apply Kd.R_alloc | apply Kd.R_drewN | apply Kd.R_drew)); exact HO202.out))) (below_size (by repeat (first | (with_reducible first | exact HB.out | apply below_alloc | apply pw_below_drewN | apply below_drew1) | exact HB.out)))); have n2_ := Aside0.mk (below_step (by repeat (first | (with_reducible first | exact HB.out | apply below_alloc | apply pw_below_drewN | apply below_drew1) | exact HB.out)) hb); clear HO202; clear HB; have HO202 := n0_; have HO205 := n1_; have HB := n2_; clear n0_ n1_ n2_; (try clear hb); (try clear hb2); (try clear hk); (try clear hi); (try clear ho0); obtain ⟨Ao22, co22, eo22⟩ := Kd.R_slice HO202.out; subst eo22; obtain ⟨Ao23, co23, eo23⟩ := Kd.R_slice HO205.out; subst eo23))
      repeat (go_quiet (first | (go_at_call 104; (with_reducible refine (postmarkref02_Bytes.calls k _ _ l0 t200 _ ?side1 ?side2 A3.out).mono ?_); (case side1 => repeat (first | exact HR0.out | (with_reducible refine Kd.C_alloc ?_ _) | (with_reducible refine Kd.C_drewN ?_ _) | (with_reducible refine Kd.C_drew ?_))); (case side2 => exact HC0.out); rintro e w20 ⟨v201, rfl, ho0, hb⟩; have n0_ := Aside0.mk (Kd.R_lower ho0 (below_size (by repeat (first | (with_reducible first | exact HB.out | apply below_alloc | apply pw_below_drewN | apply below_drew1) | exact HB.out)))); have n1_ := Aside0.mk (below_step (by repeat (first | (with_reducible first | exact HB.out | apply below_alloc | apply pw_below_drewN | apply below_drew1) | exact HB.out)) hb); clear HB; have HO202 := n0_; have HB := n1_; clear n0_ n1_; (try clear hb); (try clear hb2); (try clear hk); (try clear hi); (try clear ho0)) | (go_at_call 104; (with_reducible refine (postmarkref02_Bytes.calls k _ _ l1 t203 _ ?side1 ?side2 A4.out).mono ?_); (case side1 => repeat (first | exact (Kd.C_below HR1.out HB.out) | (with_reducible refine Kd.C_alloc ?_ _) | (with_reducible refine Kd.C_drewN ?_ _) | (with_reducible refine Kd.C_drew ?_))); (case side2 => exact HC1.out); rintro e w21 ⟨v204, rfl, ho0, hb⟩; have n0_ := Aside0.mk (Kd.R_elder' (by (with_reducible repeat (first | apply Kd.R_alloc | apply Kd.R_drewN | apply Kd.R_drew)); exact HO202.out) (Kd.R_base ho0) hb); have n1_ := Aside0.mk (Kd.R_lower (Kd.R_new' ho0 (Kd.R_lt (by (with_reducible repeat (first | apply Kd.R_alloc | apply Kd.R_drewN | apply Kd.R_drew)); exact HO202.out))) (below_size (by repeat (first | (with_reducible first | exact HB.out | apply below_alloc | apply pw_below_drewN | apply below_drew1) | exact HB.out)))); have n2_ := Aside0.mk (below_step (by repeat (first | (with_reducible first | exact HB.out | apply below_alloc | apply pw_below_drewN | apply below_drew1) | exact HB.out)) hb); clear HO202; clear HB; have HO202 := n0_; have HO205 := n1_; have HB := n2_; clear n0_ n1_ n2_; (try clear hb); (try clear hb2); (try clear hk); (try clear hi); (try clear ho0); obtain ⟨Ao22, co22, eo22⟩ := Kd.R_slice HO202.out; subst eo22; obtain ⟨Ao23, co23, eo23⟩ := Kd.R_slice HO205.out; subst eo23)); try go_wp2_with (first | (go_at_call 104; (with_reducible refine (postmarkref02_Bytes.calls k _ _ l0 t200 _ ?side1 ?side2 A3.out).mono ?_); (case side1 => repeat (first | exact HR0.out | (with_reducible refine Kd.C_alloc ?_ _) | (with_reducible refine Kd.C_drewN ?_ _) | (with_reducible refine Kd.C_drew ?_))); (case side2 => exact HC0.out); rintro e w20 ⟨v201, rfl, ho0, hb⟩; have n0_ := Aside0.mk (Kd.R_lower ho0 (below_size (by repeat (first | (with_reducible first | exact HB.out | apply below_alloc | apply pw_below_drewN | apply below_drew1) | exact HB.out)))); have n1_ := Aside0.mk (below_step (by repeat (first | (with_reducible first | exact HB.out | apply below_alloc | apply pw_below_drewN | apply below_drew1) | exact HB.out)) hb); clear HB; have HO202 := n0_; have HB := n1_; clear n0_ n1_; (try clear hb); (try clear hb2); (try clear hk); (try clear hi); (try clear ho0)) | (go_at_call 104; (with_reducible refine (postmarkref02_Bytes.calls k _ _ l1 t203 _ ?side1 ?side2 A4.out).mono ?_); (case side1 => repeat (first | exact (Kd.C_below HR1.out HB.out) | (with_reducible refine Kd.C_alloc ?_ _) | (with_reducible refine Kd.C_drewN ?_ _) | (with_reducible refine Kd.C_drew ?_))); (case side2 => exact HC1.out); rintro e w21 ⟨v204, rfl, ho0, hb⟩; have n0_ := Aside0.mk (Kd.R_elder' (by (with_reducible repeat (first | apply Kd.R_alloc | apply Kd.R_drewN | apply Kd.R_drew)); exact HO202.out) (Kd.R_base ho0) hb); have n1_ := Aside0.mk (Kd.R_lower (Kd.R_new' ho0 (Kd.R_lt (by (with_reducible repeat (first | apply Kd.R_alloc | apply Kd.R_drewN | apply Kd.R_drew)); exact HO202.out))) (below_size (by repeat (first | (with_reducible first | exact HB.out | apply below_alloc | apply pw_below_drewN | apply below_drew1) | exact HB.out)))); have n2_ := Aside0.mk (below_step (by repeat (first | (with_reducible first | exact HB.out | apply below_alloc | apply pw_below_drewN | apply below_drew1) | exact HB.out)) hb); clear HO202; clear HB; have HO202 := n0_; have HO205 := n1_; have HB := n2_; clear n0_ n1_ n2_; (try clear hb); (try clear hb2); (try clear hk); (try clear hi); (try clear ho0); obtain ⟨Ao22, co22, eo22⟩ := Kd.R_slice HO202.out; subst eo22; obtain ⟨Ao23, co23, eo23⟩ := Kd.R_slice HO205.out; subst eo23)))
      go_ret
      exact ⟨by first | rfl | (simp [errW_none, errW_some] <;> rfl) | (simp [*, errW_none, errW_some] <;> rfl), by repeat (first | (with_reducible first | exact HB.out | apply below_alloc | apply pw_below_drewN | apply below_drew1) | exact HB.out)⟩
end Go.Proofs.Ytlifengbicpppaa.G
end
