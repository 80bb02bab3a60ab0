/- Part 3 of the texts for the claim RatioRests: Go functions of the program and of the document's answers, each with a proof that its calls come to a Lean function's answers, and plain laws about these. Joined by wip/merge.py of the claimant's repo out of its texts and of what the kit's print wrote for this claim. -/
import Derived.Test.YtlifengbicpppaaRest2
import Derived.Laws.Bits64
import Derived.Laws.BitsLemmas
import Derived.BigQuiet
import Derived.OrdersHeld
import Derived.RegionTactic
import Derived.KernelRfl
import Derived.BigRegion
import Derived.Deep.RegionLaw
import Derived.OrdersIn
import Derived.OwnWalkIn
import Derived.RangeFuncCalls
set_option linter.unusedVariables false
set_option linter.unusedSimpArgs false
section
namespace Go.Proofs.Ytlifengbicpppaa.G
open Go.RowKit Go.Shelf Go.Proofs.YtlifengbicpppaaW.PrintWords Go.Proofs.YtlifengbicpppaaW.PrintLast Go.Proofs.YtlifengbicpppaaW.PrintMore
open Go.Proofs.Ytlifengbicpppaa.Num
attribute [local go_sem] Oper.semAt_some
/-- A limb of a sum, and what is carried. -/
def ad32 (a0 a1 a2 : Int) : Int × Int := ((IntKind.u64.wrap ((IntKind.u64.wrap ((IntKind.u64.wrap (a0)) + (IntKind.u64.wrap (a1)))) + (IntKind.u64.wrap (a2)))) % 4294967296, ((IntKind.u64.wrap ((IntKind.u64.wrap ((IntKind.u64.wrap (a0)) + (IntKind.u64.wrap (a1)))) + (IntKind.u64.wrap (a2)))) / 4294967296) % 4294967296)
theorem ad32_eval (a b c : Int) : bits_Add32.f a b c = some (ad32 a b c) := rfl
def addS (zs : List (Nat × Int × Int)) : List Int × Int := zs.foldl (fun s z => (s.1 ++ [(ad32 z.2.1 z.2.2 s.2).1], (ad32 z.2.1 z.2.2 s.2).2)) ([], 0)
theorem addS_snoc (zs : List (Nat × Int × Int)) (z : Nat × Int × Int) : addS (zs ++ [z]) = ((addS zs).1 ++ [(ad32 z.2.1 z.2.2 (addS zs).2).1], (ad32 z.2.1 z.2.2 (addS zs).2).2) := by simp [addS]
theorem addS_length (zs : List (Nat × Int × Int)) : (addS zs).1.length = zs.length := by
  suffices ∀ (zs : List (Nat × Int × Int)) (s : List Int × Int), (zs.foldl (fun s z => (s.1 ++ [(ad32 z.2.1 z.2.2 s.2).1], (ad32 z.2.1 z.2.2 s.2).2)) s).1.length = s.1.length + zs.length by simpa [addS] using this zs ([], 0)
  intro zs
  induction zs with
  | nil => simp
  | cons z zs ih => intro s; rw [List.foldl_cons, ih]; simp; omega
def addL (xs ys : List Int) : List Int := (addS (bes xs ys (max xs.length ys.length))).1 ++ [(addS (bes xs ys (max xs.length ys.length))).2]
def nat_Add.f (l0 l1 : List Int) : Option (List Int × Int) := if AnyFits [l0, l1] = true then some ([], 20) else nat_checked.f (addL (strip l0) (strip l1))
set_option maxHeartbeats 4000000 in
set_option maxRecDepth 100000 in
theorem nat_Add.calls (A0 : Option Addr) (c0 : Nat) (l0 : List Int) (A1 : Option Addr) (c1 : Nat) (l1 : List Int) (r1 : List Int) (r2 : Int) (w : World) (hr0 : Kd.C (Kd.int .u32) w A0 l0.length l0) (hc0 : l0.length ≤ c0) (hr1 : Kd.C (Kd.int .u32) w A1 l1.length l1) (hc1 : l1.length ≤ c1) (h : nat_Add.f l0 l1 = some (r1, r2)) :
    Calls Try.prog 89 #[.slice A0 l0.length c0, .slice A1 l1.length c1] w fun e w' => ∃ v0_ : Value, e = .returned (.tuple #[v0_, .int .i64 r2]) ∧ Kd.R (Kd.int .u32) 75 w' w.heap.size (fun _ => True) v0_ r1 ∧ Below w.heap.size w w' := by
  have HM := Aside0.mk (nat_may.calls _ 2 [l0, l1] _ _ (C_two w hr0 hc0 hr1 hc1) (by simp) rfl)
  unfold nat_Add.f at h
  refine calls_marks Try.func89 rfl ?_
  simp only [Try.ntmps89, List.size_toArray, List.length_cons, List.length_nil, Nat.reduceAdd, Nat.reduceSub, Array.replicate_succ, Array.replicate_zero, List.push_toArray, List.append_toArray, List.nil_append, List.cons_append]
  cases hm : AnyFits [l0, l1] with
  | true =>
    rw [hm] at HM
    rw [if_pos hm] at h
    cases h
    clear hm hr0 hr1 hc0 hc1
    go_wp2_with (go_at_call 109; refine HM.out.mono ?_; rintro e w1 ⟨rfl, hb⟩; have HB1 := Aside0.mk (((Below.refl _ w).alloc (Nat.le_refl _) _).trans (hb.mono (by simp))); clear hb HM)
    exact post_plain (results_tmp2 rfl _ _ _) ⟨_, rfl, Kd.R_nil _ _ _ _ _, HB1.out⟩
  | false =>
    rw [hm] at HM
    rw [if_neg (by simp [hm])] at h
    have HX := Aside0.mk (fun W (h : Below w.heap.size w W) => And.intro (bare_exact A0 c0 l0 W (Kd.C_below hr0 h) hc0) (Kd.C_below hr0 h))
    have HY := Aside0.mk (fun W (h : Below w.heap.size w W) => And.intro (bare_exact A1 c1 l1 W (Kd.C_below hr1 h) hc1) (Kd.C_below hr1 h))
    have hlx : (strip l0).length ≤ 256 := by simp [AnyFits, fits256] at hm; omega
    have hly : (strip l1).length ≤ 256 := by simp [AnyFits, fits256] at hm; omega
    have HLX := Aside0.mk hlx
    have HLY := Aside0.mk hly
    have HH := Aside0.mk h
    clear hm hr0 hr1 hlx hly h
    go_wp2_with (first
      | (go_at_call 109; refine HM.out.mono ?_; rintro e w1 ⟨rfl, hb⟩; have HB1 := Aside0.mk (((Below.refl _ w).alloc (Nat.le_refl _) _).trans (hb.mono (by simp))); clear hb HM)
      | fail)
    have hs1 : w.heap.size ≤ w1.heap.size := HB1.out.size
    have hb2 : Below w.heap.size w ((w1.alloc (.cells #[.slice none 0 0] 46)).alloc (.cells #[.int .u32 0] 75)) := (HB1.out.alloc hs1 _).alloc (by simp; omega) _
    refine ((HX.out _ hb2).1).mono ?_
    rintro e w2 ⟨rfl, rfl⟩
    go_wp2_with fail
    refine ((HY.out _ hb2).1).mono ?_
    rintro e w2 ⟨rfl, rfl⟩
    have HC0 := Aside0.mk (C_strip (HX.out _ HB1.out).2)
    have HC1 := Aside0.mk (C_strip (HY.out _ HB1.out).2)
    clear hb2 HX HY hc0 hc1
    generalize strip l0 = xs at *
    generalize strip l1 = ys at *
    go_wp2_with (go_at_call 112; refine (beside_any _ _ _ _ _ _ _).mono ?_; rintro e w3 ⟨rfl, rfl⟩)
    have h4 : (((((w1.alloc (.cells #[.slice none 0 0] 46)).alloc (.cells #[.int .u32 0] 75)).alloc (.cells #[.slice A0 xs.length c0] 46)).alloc (.cells #[.slice A1 ys.length c1] 46))).heap.size = w1.heap.size + 4 := by simp
    have hBa : Below w1.heap.size w1 ((((w1.alloc (.cells #[.slice none 0 0] 46)).alloc (.cells #[.int .u32 0] 75)).alloc (.cells #[.slice A0 xs.length c0] 46)).alloc (.cells #[.slice A1 ys.length c1] 46)) := ((((Below.refl _ w1).alloc (Nat.le_refl _) _).alloc (by simp) _).alloc (by simp; omega) _).alloc (by simp; omega) _
    have b0 : Boxed ((((w1.alloc (.cells #[.slice none 0 0] 46)).alloc (.cells #[.int .u32 0] 75)).alloc (.cells #[.slice A0 xs.length c0] 46)).alloc (.cells #[.slice A1 ys.length c1] 46)) w1.heap.size 46 (.slice none 0 0) := (((Boxed.new w1 46 (.slice none 0 0)).alloc _).alloc _).alloc _
    have b1 : Boxed ((((w1.alloc (.cells #[.slice none 0 0] 46)).alloc (.cells #[.int .u32 0] 75)).alloc (.cells #[.slice A0 xs.length c0] 46)).alloc (.cells #[.slice A1 ys.length c1] 46)) (w1.heap.size + 1) 75 (.int .u32 0) := by
      have := ((Boxed.new (w1.alloc (.cells #[.slice none 0 0] 46)) 75 (.int .u32 0)).alloc (.cells #[.slice A0 xs.length c0] 46)).alloc (.cells #[.slice A1 ys.length c1] 46)
      simpa using this
    have b2 : Boxed ((((w1.alloc (.cells #[.slice none 0 0] 46)).alloc (.cells #[.int .u32 0] 75)).alloc (.cells #[.slice A0 xs.length c0] 46)).alloc (.cells #[.slice A1 ys.length c1] 46)) (w1.heap.size + 1 + 1) 46 (.slice A0 xs.length c0) := by
      have := (Boxed.new ((w1.alloc (.cells #[.slice none 0 0] 46)).alloc (.cells #[.int .u32 0] 75)) 46 (.slice A0 xs.length c0)).alloc (.cells #[.slice A1 ys.length c1] 46)
      simpa using this
    have b3 : Boxed ((((w1.alloc (.cells #[.slice none 0 0] 46)).alloc (.cells #[.int .u32 0] 75)).alloc (.cells #[.slice A0 xs.length c0] 46)).alloc (.cells #[.slice A1 ys.length c1] 46)) (w1.heap.size + 1 + 1 + 1) 46 (.slice A1 ys.length c1) := by
      have := Boxed.new (((w1.alloc (.cells #[.slice none 0 0] 46)).alloc (.cells #[.int .u32 0] 75)).alloc (.cells #[.slice A0 xs.length c0] 46)) 46 (.slice A1 ys.length c1)
      simpa using this
    refine wp_rangeFunc_box (gf := 135) (lb := #[.pointer (some ⟨w1.heap.size + 1 + 1, 0, none⟩), .pointer (some ⟨w1.heap.size + 1 + 1 + 1, 0, none⟩)]) rfl (enters_of Try.func135 (by kernel_rfl) rfl)
      (beside_stops Fence.wide 2 trivial rfl (by decide) (w1.heap.size + 1 + 1) w1.heap.size A0 A1 c0 c1 xs ys (C_lt HC0.out) (C_lt HC1.out) _ (by simp) (by simp; omega) b2 b3 (Kd.C_below HC0.out hBa) (Kd.C_below HC1.out hBa))
      KpB.trans (KpB_b (by simp; omega) (by simp)) (Below.refl _ _) (fun _ => rfl)
      (fun pre V => (∃ v, Boxed V w1.heap.size 46 v ∧ V.ownsRow (w1.heap.size + 4) 75 1 v (addS pre).1.length (nums .u32 (addS pre).1) ∧ True) ∧ Boxed V (w1.heap.size + 1) 75 (.int .u32 (addS pre).2) ∧ Below w1.heap.size w1 V ∧ w1.heap.size + 4 ≤ V.heap.size)
      (fun cd pre V => False)
      ?hI ?hIx ?hIs ?hKa ⟨⟨_, b0, own_nil _ _ _ _, trivial⟩, b1, hBa, by rw [h4]; exact Nat.le_refl _⟩ (fun x => #[.int .u32 x.2.1, .int .u32 x.2.2]) 132
      (fun x Bp t => ((t.setIfInBounds 22 (.int .i64 (x.1 : Int))).setIfInBounds 23 (.agg #[.int .u32 x.2.1, .int .u32 x.2.2])).setIfInBounds 9 (.pointer (some ⟨Bp, 0, none⟩)))
      ?assign ?body ?done ?stop
    case hI => exact OwnFrom.and (Own.from (holdsRow_own _ _ _ _ _ _ _ _) _) (OwnFrom.and (Own.from (boxed_own _ _ _) _) (OwnFrom.and (ownFrom_below (Nat.le_refl _) (by simp; omega)) (fun _ _ _ _ hs hg _ => Nat.le_trans hs hg.size)))
    case hIx => exact fun cd _ _ _ _ hs _ _ => hs
    case hIs => intro pre V hV; rw [h4]; exact hV.2.2.2
    case hKa => intro V o hs; rw [h4] at hs; exact ⟨(Below.refl _ V).alloc (by omega) o, Below.heap_alloc V o _ (by omega), Below.heap_alloc V o _ (by omega)⟩
    case assign =>
      intro l x V K hK
      clear hBa b0 b1 b2 b3 h4
      unfold encB
      gi_wp2
      exact hK
    case body =>
      rintro l pre x Bp V hBp hbox ⟨⟨v, hO, hrow, _⟩, hC, hV, hz⟩ hlt
      rw [h4] at hBp
      clear hBa b0 b1 b2 b3 h4
      have f0 : V.cell? ⟨Bp, 0, none⟩ = some (.int .u32 x.2.1) := by simp [World.cell?, hbox]
      have f1 : V.cell? ⟨Bp, 1, none⟩ = some (.int .u32 x.2.2) := by simp [World.cell?, hbox]
      have f2 := hC.cell
      have f3 := hO.cell
      obtain ⟨i, a, b⟩ := x
      dsimp only at *
      have hlen : (addS pre).1.length ≤ 256 := by rw [addS_length]; have := HLX.out; have := HLY.out; omega
      obtain ⟨i0, hi, hz0, hz1, hz2⟩ := info_parts info75
      have HS := Aside0.mk (addS_snoc pre (i, a, b))
      generalize addS pre = s at *
      obtain ⟨so, sc⟩ := s
      dsimp only at *
      obtain ⟨p, q, he⟩ : ∃ p q, ad32 a b sc = (p, q) := ⟨_, _, rfl⟩
      have HA := Aside0.mk (fun W => bits_Add32.calls a b sc p q W (by rw [ad32_eval, he]))
      rw [he] at HS
      clear he
      clear hbox hlt
      gi_wp2_with (first
        | (refine ⟨trivial, ?_⟩; gi_at_call 128; refine (round_call l (HA.out _)).mono ?_; rintro e w3 ⟨rfl, n3, rfl⟩)
        | (gi_at_builtin; refine wpListIn_append_own _ rfl _ _ 46 rfl (w1.heap.size + 4) 75 i0 (.int .u32 0) 1 4 Try.underlying46 hi hz0 hz1 hz2 rfl (by decide) _ _ _ rfl (World.ownsRow.alloc (w := V.drewN n3) hrow _) ⟨V.heap.size, 0, none⟩ 1 1 [.int .u32 p] rfl rfl (cell_one_new (V.drewN n3) _ _) (by simp [Value.oneCell']) (by simp only [maxLen]; omega) (by omega) (by simp; omega) ?_; intro v' w4 hown' hgrow _; obtain ⟨g', cap', rfl⟩ := ownsRow_succ hown'; obtain ⟨k1, k2, k3, k4, k5, k6, k7, k8, k9⟩ := carry_appended (V := V.drewN n3) (n₀ := w1.heap.size) (.int .u32 q) hO hC (by omega) hrow (by omega) (by omega) hz (Nat.le_refl _) (by omega) hown' hgrow; have m1 := k1.cell; have m2 := k1.frozen; have m3 := k2.cell; have m4 := k2.frozen))
      refine ⟨((drewN_keeps V n3).trans k6).from _, ⟨(pw_below_drewN (Below.refl _ _) n3).trans k7, k8 _ (by omega) (by omega) (by omega), k8 _ (by omega) (by omega) (by omega)⟩, ⟨_, k3, ?_, trivial⟩, ?_, hV.trans ((pw_below_drewN (Below.refl _ _) n3).trans k7), Nat.le_trans hz k9⟩
      · rw [HS.out]
        simpa [nums] using k5
      · rw [HS.out]
        exact k4
    case done =>
      rintro D zs V hD rfl ⟨⟨v, hO, hrow, _⟩, hC, hV, hz⟩ hK
      rw [h4] at hD
      clear hBa b0 b1 b2 b3 h4
      have f2 := hC.cell
      have f3 := hO.cell
      have hlen : (addS (bes xs ys (max xs.length ys.length))).1.length ≤ 256 := by rw [addS_length, bes_length]; have := HLX.out; have := HLY.out; omega
      have HL := Aside0.mk (show addL xs ys = (addS (bes xs ys (max xs.length ys.length))).1 ++ [(addS (bes xs ys (max xs.length ys.length))).2] from rfl)
      generalize addS (bes xs ys (max xs.length ys.length)) = s at *
      obtain ⟨so, sc⟩ := s
      dsimp only at *
      obtain ⟨i0, hi, hz0, hz1, hz2⟩ := info_parts info75
      have hKlt := (Array.getElem?_eq_some_iff.1 hK).1
      have HK := Aside0.mk hK
      have HV := Aside0.mk hV
      have HR := Aside0.mk hrow
      have hvb : ∀ j, v.ownBlock = some j → j ≠ D := fun j hj e => by
        subst e
        obtain ⟨cs, hcs⟩ := own_typed hrow j hj
        rw [hK] at hcs
        cases hcs
      have HVB := Aside0.mk hvb
      clear hK hvb hV
      go_wp2_with (at_builtin; refine print_append_num (w0 := V) (w1.heap.size + 4) rfl _ _ 46 75 .u32 4 rfl Try.underlying46 info75 (by omega) v so sc rfl rfl hrow (Below.refl _ _) hz (by omega) ?_; intro v1 w5 hown hb5 hg hat)
      have hRR : Kd.R (Kd.int .u32) 75 w5 w.heap.size (fun _ => True) v1 (so ++ [sc]) := Kd.R_lower (Kd.R_of_own hown (fun _ _ => trivial)) (by omega)
      have hK5 : w5.heap[D]? = some (.deferred (some [])) := (hg.block D hKlt (fun e => HVB.out D e.symm rfl)).trans HK.out
      have hBB : Below w.heap.size w (w5.putObj D (.deferred none)) := below_mark ((HB1.out.trans (HV.out.mono hs1)).trans (hb5.mono (by omega))) (by omega) hK5
      have hD5 : D < w5.heap.size := (Array.getElem?_eq_some_iff.1 hK5).1
      obtain ⟨A, c, rfl⟩ := Kd.R_slice hRR
      have hrd := Kd.R_reads' hRR
      have HH := HH.out
      rw [HL.out] at HH
      unfold nat_checked.f at HH
      have HH := Option.some.inj HH
      by_cases hl : 256 < (strip (so ++ [sc])).length
      · rw [if_pos hl] at HH
        cases HH
        have HBB := Aside0.mk hBB
        have HK5 := Aside0.mk hK5
        have HC := Aside0.mk (checked_big A c _ w5 hrd.2.2 hrd.2.1 hl)
        clear hBB hK5 hrd hl hRR hown hb5 hg hat
        go_wp2_with (go_at_call 110; refine HC.out.mono ?_; rintro e w6 ⟨rfl, rfl⟩)
        exact post_mark HK5.out (results_tmp2 rfl _ _ _) ⟨_, rfl, Kd.R_nil _ _ _ _ _, HBB.out⟩
      · rw [if_neg hl] at HH
        cases HH
        have HBB := Aside0.mk hBB
        have HK5 := Aside0.mk hK5
        have HC := Aside0.mk (checked_fit A c _ w5 hrd.2.2 hrd.2.1 hl)
        have HRR := Aside0.mk (R_putObj (R_strip hRR) hK5)
        clear hBB hK5 hrd hl hRR hown hb5 hg hat
        go_wp2_with (go_at_call 110; refine HC.out.mono ?_; rintro e w6 ⟨rfl, rfl⟩)
        exact post_mark HK5.out (results_tmp2 rfl _ _ _) ⟨_, rfl, HRR.out, HBB.out⟩
    case stop =>
      rintro D cd pre V _ _ h _
      exact h.elim
end Go.Proofs.Ytlifengbicpppaa.G
end
section
namespace Go.Proofs.Ytlifengbicpppaa.G
open Go.RowKit Go.Proofs.YtlifengbicpppaaW.PrintWords Go.Proofs.YtlifengbicpppaaW.PrintLast Go.Proofs.YtlifengbicpppaaW.PrintMore
open Go.Proofs.Ytlifengbicpppaa.Num
theorem rdb {l : List Int} (h : Dg 4294967296 l) (i : Int) : 0 ≤ rd l i ∧ rd l i < 4294967296 := by
  have := h.getD (by decide) i.toNat
  simpa [rd, List.getD_eq_getElem?_getD] using this
def win (us : List Int) (j n : Nat) : Nat := val 4294967296 ((us.drop j).take n)
theorem win_zero (us : List Int) (j : Nat) : win us j 0 = 0 := by simp [win, val_nil]
theorem win_succ (us : List Int) (j n : Nat) (h : j + n < us.length) : win us j (n + 1) = win us j n + 4294967296 ^ n * (rd us ((j + n : Nat) : Int)).toNat := by
  unfold win
  have hl : ((us.drop j).take n).length = n := by rw [List.length_take, List.length_drop]; omega
  have e : (us.drop j).take (n + 1) = (us.drop j).take n ++ [rd us ((j + n : Nat) : Int)] := by
    rw [List.take_add_one, List.getElem?_drop]
    simp [rd, List.getD_eq_getElem?_getD, List.getElem?_eq_getElem h, show ((j : Int) + (n : Int)).toNat = j + n by omega]
  rw [e, val_snoc, hl]
theorem win_congr {us us' : List Int} {j : Nat} : ∀ {n : Nat}, (∀ i, j ≤ i → i < j + n → us'[i]? = us[i]?) → win us' j n = win us j n := by
  intro n h
  unfold win
  congr 1
  apply List.ext_getElem?
  intro i
  rw [List.getElem?_take, List.getElem?_take, List.getElem?_drop, List.getElem?_drop]
  split
  · exact h _ (by omega) (by omega)
  · rfl
theorem win_all (us : List Int) (j n : Nat) (h : us.length ≤ j + n) : win us j n = val 4294967296 (us.drop j) := by
  unfold win
  rw [List.take_of_length_le (by simp; omega)]
theorem win_lt {us : List Int} (h : Dg 4294967296 us) (j n : Nat) : win us j n < 4294967296 ^ n := by
  have h1 : Dg 4294967296 ((us.drop j).take n) := fun x hx => h x (List.mem_of_mem_drop (List.mem_of_mem_take hx))
  refine Nat.lt_of_lt_of_le (val_lt h1) (Nat.pow_le_pow_right (by decide) ?_)
  rw [List.length_take]
  omega
theorem rd_congr {us us' : List Int} (i : Nat) (h : us'[i]? = us[i]?) : rd us' (i : Int) = rd us (i : Int) := by
  simp [rd, List.getD_eq_getElem?_getD, h]
theorem rd_set (us : List Int) (i : Nat) (x : Int) (h : i < us.length) : rd (us.set i x) (i : Int) = x := by
  simp [rd, List.getD_eq_getElem?_getD, h]
/-- k limbs of the divisor, q times, have been taken. -/
structure LI (us vs us' : List Int) (j k : Nat) (q c d : Int) : Prop where
  len : us'.length = us.length
  dg : Dg 4294967296 us'
  out : ∀ i, (i < j ∨ j + k ≤ i) → us'[i]? = us[i]?
  sum : (win us' j k : Int) + q * (win vs 0 k : Int) = (win us j k : Int) + ((4294967296 ^ k : Nat) : Int) * (c + d)
theorem LI.zero {us vs : List Int} (hu : Dg 4294967296 us) (j : Nat) (q : Int) : LI us vs us j 0 q 0 0 := ⟨rfl, hu, fun _ _ => rfl, by simp [win_zero]⟩
theorem LI.at {us vs us' : List Int} {j k : Nat} {q c d : Int} (h : LI us vs us' j k q c d) : rd us' ((k + j : Nat) : Int) = rd us ((j + k : Nat) : Int) := by
  rw [show k + j = j + k by omega]
  exact rd_congr _ (h.out _ (.inr (Nat.le_refl _)))
theorem set_win {us us' : List Int} {j k : Nat} (hj : j + k < us.length) (hl : us'.length = us.length) (p : Int) :
    win (us'.set (k + j) p) j (k + 1) = win us' j k + 4294967296 ^ k * p.toNat := by
  rw [win_succ _ _ _ (by simp; omega), win_congr (us' := us'.set (k + j) p) (us := us') (fun i h1 h2 => by rw [List.getElem?_set_ne (by omega)]), show k + j = j + k by omega, rd_set _ _ _ (by omega)]
theorem sb32_spec {u y d p s : Int} (h0 : 0 ≤ u) (h1 : u < 4294967296) (h2 : 0 ≤ y) (h3 : y < 4294967296) (hd : 0 ≤ d) (hd' : d ≤ 1) (h : sb32 u y d = (p, s)) :
    p + y + d = u + 4294967296 * s ∧ 0 ≤ p ∧ p < 4294967296 ∧ 0 ≤ s ∧ s ≤ 1 := by
  rw [sb32_eq h0 h1 h2 h3 (by omega)] at h
  obtain ⟨rfl, rfl⟩ := Prod.mk.inj h
  split <;> omega
theorem LI.step {us vs us' : List Int} {j k : Nat} {q c d p s C : Int} (h : LI us vs us' j k q c d) (hj : j + k < us.length) (hk : k < vs.length) (hu : Dg 4294967296 us) (hv : Dg 4294967296 vs)
    (hC : c + q * rd vs (k : Int) = C) (hd : 0 ≤ d) (hd' : d ≤ 1) (hs : sb32 (rd us' ((k + j : Nat) : Int)) (C % 4294967296) d = (p, s)) :
    LI us vs (us'.set (k + j) p) j (k + 1) q (C / 4294967296) s ∧ 0 ≤ s ∧ s ≤ 1 ∧ 0 ≤ p ∧ p < 4294967296 := by
  rw [h.at] at hs
  have hub := rdb hu ((j + k : Nat) : Int)
  have hvb := rdb hv ((k : Nat) : Int)
  obtain ⟨e1, e2, e3, e4, e5⟩ := sb32_spec hub.1 hub.2 (by omega) (by omega) hd hd' hs
  refine ⟨⟨by simp [h.len], h.dg.set _ e2 e3, fun i hi => ?_, ?_⟩, e4, e5, e2, e3⟩
  · rw [List.getElem?_set_ne (by omega)]
    exact h.out i (by omega)
  · rw [set_win hj h.len, win_succ us j k hj, win_succ vs 0 k (by omega), Nat.zero_add]
    have hsum := h.sum
    have hp : ((p.toNat : Nat) : Int) = p := Int.toNat_of_nonneg e2
    have hu' : (((rd us ((j + k : Nat) : Int)).toNat : Nat) : Int) = rd us ((j + k : Nat) : Int) := Int.toNat_of_nonneg hub.1
    have hv' : (((rd vs ((k : Nat) : Int)).toNat : Nat) : Int) = rd vs ((k : Nat) : Int) := Int.toNat_of_nonneg hvb.1
    rw [Nat.pow_succ]
    generalize rd us ((j + k : Nat) : Int) = u at *
    generalize rd vs ((k : Nat) : Int) = v at *
    simp only [Int.natCast_add, Int.natCast_mul, hp, hu', hv']
    have hCm : C = C % 4294967296 + 4294967296 * (C / 4294967296) := by omega
    generalize ((4294967296 ^ k : Nat) : Int) = b at *
    generalize (win us' j k : Int) = W' at *
    generalize (win us j k : Int) = W at *
    generalize (win vs 0 k : Int) = X at *
    generalize C % 4294967296 = y at *
    generalize C / 4294967296 = z at *
    have : (((4294967296 : Nat) : Int)) = 4294967296 := rfl
    rw [this]
    clear h hs hub hvb hj hk hu hv hp hu' hv'
    grind
/-- .. whatever was taken: what lay elsewhere lies there. -/
structure LO (us us' : List Int) (j k : Nat) : Prop where
  len : us'.length = us.length
  dg : Dg 4294967296 us'
  out : ∀ i, (i < j ∨ j + k ≤ i) → us'[i]? = us[i]?
theorem LO.zero {us : List Int} (hu : Dg 4294967296 us) (j : Nat) : LO us us j 0 := ⟨rfl, hu, fun _ _ => rfl⟩
theorem LO.at {us us' : List Int} {j k : Nat} (h : LO us us' j k) : rd us' ((k + j : Nat) : Int) = rd us ((j + k : Nat) : Int) := by
  rw [show k + j = j + k by omega]
  exact rd_congr _ (h.out _ (.inr (Nat.le_refl _)))
theorem LO.step {us us' : List Int} {j k : Nat} {d p s C : Int} (h : LO us us' j k) (hu : Dg 4294967296 us)
    (hd : 0 ≤ d) (hd' : d ≤ 1) (hs : sb32 (rd us' ((k + j : Nat) : Int)) (C % 4294967296) d = (p, s)) : LO us (us'.set (k + j) p) j (k + 1) ∧ 0 ≤ s ∧ s ≤ 1 := by
  rw [h.at] at hs
  have hub := rdb hu ((j + k : Nat) : Int)
  obtain ⟨e1, e2, e3, e4, e5⟩ := sb32_spec hub.1 hub.2 (by omega) (by omega) hd hd' hs
  refine ⟨⟨by simp [h.len], h.dg.set _ e2 e3, fun i hi => ?_⟩, e4, e5⟩
  rw [List.getElem?_set_ne (by omega)]
  exact h.out i (by omega)
theorem LO.last {us us' : List Int} {j k : Nat} {c d p s : Int} (h : LO us us' j k) (hu : Dg 4294967296 us)
    (hC0 : 0 ≤ c) (hc1 : c < 4294967296) (hd : 0 ≤ d) (hd' : d ≤ 1) (hs : sb32 (rd us' ((k + j : Nat) : Int)) c d = (p, s)) :
    (us'.set (k + j) p).length = us.length ∧ Dg 4294967296 (us'.set (k + j) p) ∧ (∀ i, (i < j ∨ j + k + 1 ≤ i) → (us'.set (k + j) p)[i]? = us[i]?) ∧ 0 ≤ s ∧ s ≤ 1 := by
  rw [h.at] at hs
  have hub := rdb hu ((j + k : Nat) : Int)
  obtain ⟨e1, e2, e3, e4, e5⟩ := sb32_spec hub.1 hub.2 (by omega) (by omega) hd hd' hs
  refine ⟨by simp [h.len], h.dg.set _ e2 e3, fun i hi => ?_, e4, e5⟩
  rw [List.getElem?_set_ne (by omega)]
  exact h.out i (by omega)
/-- The last limb. -/
theorem LI.last {us vs us' : List Int} {j k : Nat} {q c d p s : Int} (h : LI us vs us' j k q c d) (hj : j + k < us.length) (hk : k = vs.length) (hu : Dg 4294967296 us)
    (hC0 : 0 ≤ c) (hc1 : c < 4294967296) (hd : 0 ≤ d) (hd' : d ≤ 1) (hs : sb32 (rd us' ((k + j : Nat) : Int)) c d = (p, s)) :
    (us'.set (k + j) p).length = us.length ∧ Dg 4294967296 (us'.set (k + j) p) ∧ (∀ i, (i < j ∨ j + k + 1 ≤ i) → (us'.set (k + j) p)[i]? = us[i]?) ∧
      (win (us'.set (k + j) p) j (k + 1) : Int) + q * (val 4294967296 vs : Int) = (win us j (k + 1) : Int) + ((4294967296 ^ (k + 1) : Nat) : Int) * s ∧ 0 ≤ s ∧ s ≤ 1 := by
  rw [h.at] at hs
  have hub := rdb hu ((j + k : Nat) : Int)
  obtain ⟨e1, e2, e3, e4, e5⟩ := sb32_spec hub.1 hub.2 (by omega) (by omega) hd hd' hs
  refine ⟨by simp [h.len], h.dg.set _ e2 e3, fun i hi => ?_, ?_, e4, e5⟩
  · rw [List.getElem?_set_ne (by omega)]
    exact h.out i (by omega)
  · rw [set_win hj h.len, win_succ us j k hj]
    have hsum := h.sum
    rw [win_all vs 0 k (by omega), List.drop_zero] at hsum
    have hp : ((p.toNat : Nat) : Int) = p := Int.toNat_of_nonneg e2
    have hu' : (((rd us ((j + k : Nat) : Int)).toNat : Nat) : Int) = rd us ((j + k : Nat) : Int) := Int.toNat_of_nonneg hub.1
    rw [Nat.pow_succ]
    generalize rd us ((j + k : Nat) : Int) = u at *
    simp only [Int.natCast_add, Int.natCast_mul, hp, hu']
    generalize ((4294967296 ^ k : Nat) : Int) = b at *
    generalize (win us' j k : Int) = W' at *
    generalize (win us j k : Int) = W at *
    generalize (val 4294967296 vs : Int) = X at *
    have : (((4294967296 : Nat) : Int)) = 4294967296 := rfl
    rw [this]
    clear h hs hub hj hk hu hp hu'
    grind
/-- k limbs of the divisor have been put back. -/
structure BI (us vs us' : List Int) (j k : Nat) (c : Int) : Prop where
  len : us'.length = us.length
  dg : Dg 4294967296 us'
  out : ∀ i, (i < j ∨ j + k ≤ i) → us'[i]? = us[i]?
  sum : (win us' j k : Int) + ((4294967296 ^ k : Nat) : Int) * c = (win us j k : Int) + (win vs 0 k : Int)
theorem BI.zero {us vs : List Int} (hu : Dg 4294967296 us) (j : Nat) : BI us vs us j 0 0 := ⟨rfl, hu, fun _ _ => rfl, by simp [win_zero]⟩
theorem BI.at {us vs us' : List Int} {j k : Nat} {c : Int} (h : BI us vs us' j k c) : rd us' ((k + j : Nat) : Int) = rd us ((j + k : Nat) : Int) := by
  rw [show k + j = j + k by omega]
  exact rd_congr _ (h.out _ (.inr (Nat.le_refl _)))
theorem ad32_spec {u y d p s : Int} (h0 : 0 ≤ u) (h1 : u < 4294967296) (h2 : 0 ≤ y) (h3 : y < 4294967296) (hd : 0 ≤ d) (hd' : d ≤ 1) (h : ad32 u y d = (p, s)) :
    u + y + d = p + 4294967296 * s ∧ 0 ≤ p ∧ p < 4294967296 ∧ 0 ≤ s ∧ s ≤ 1 := by
  unfold ad32 at h
  rw [IntWalk.u64_in u (by omega), IntWalk.u64_in y (by omega), IntWalk.u64_in d (by omega), IntWalk.u64_in (u + y) (by omega), IntWalk.u64_in (u + y + d) (by omega)] at h
  obtain ⟨rfl, rfl⟩ := Prod.mk.inj h
  omega
theorem BI.step {us vs us' : List Int} {j k : Nat} {d p s : Int} (h : BI us vs us' j k d) (hj : j + k < us.length) (hk : k < vs.length) (hu : Dg 4294967296 us) (hv : Dg 4294967296 vs)
    (hd : 0 ≤ d) (hd' : d ≤ 1) (hs : ad32 (rd us' ((k + j : Nat) : Int)) (rd vs (k : Int)) d = (p, s)) :
    BI us vs (us'.set (k + j) p) j (k + 1) s ∧ 0 ≤ s ∧ s ≤ 1 ∧ 0 ≤ p ∧ p < 4294967296 := by
  rw [h.at] at hs
  have hub := rdb hu ((j + k : Nat) : Int)
  have hvb := rdb hv ((k : Nat) : Int)
  obtain ⟨e1, e2, e3, e4, e5⟩ := ad32_spec hub.1 hub.2 hvb.1 hvb.2 hd hd' hs
  refine ⟨⟨by simp [h.len], h.dg.set _ e2 e3, fun i hi => ?_, ?_⟩, e4, e5, e2, e3⟩
  · rw [List.getElem?_set_ne (by omega)]
    exact h.out i (by omega)
  · rw [set_win hj h.len, win_succ us j k hj, win_succ vs 0 k (by omega), Nat.zero_add]
    have hsum := h.sum
    have hp : ((p.toNat : Nat) : Int) = p := Int.toNat_of_nonneg e2
    have hu' : (((rd us ((j + k : Nat) : Int)).toNat : Nat) : Int) = rd us ((j + k : Nat) : Int) := Int.toNat_of_nonneg hub.1
    have hv' : (((rd vs ((k : Nat) : Int)).toNat : Nat) : Int) = rd vs ((k : Nat) : Int) := Int.toNat_of_nonneg hvb.1
    rw [Nat.pow_succ]
    generalize rd us ((j + k : Nat) : Int) = u at *
    generalize rd vs ((k : Nat) : Int) = v at *
    simp only [Int.natCast_add, Int.natCast_mul, hp, hu', hv']
    generalize ((4294967296 ^ k : Nat) : Int) = b at *
    generalize (win us' j k : Int) = W' at *
    generalize (win us j k : Int) = W at *
    generalize (win vs 0 k : Int) = X at *
    have : (((4294967296 : Nat) : Int)) = 4294967296 := rfl
    rw [this]
    clear h hs hub hvb hj hk hu hv hp hu' hv'
    grind
theorem BI.last {us vs us' : List Int} {j k : Nat} {d : Int} (h : BI us vs us' j k d) (hj : j + k < us.length) (hk : k = vs.length) (hu : Dg 4294967296 us)
    (hd : 0 ≤ d) {p : Int} (hp' : (rd us' ((k + j : Nat) : Int) + d) % 4294967296 = p) :
    (us'.set (k + j) p).length = us.length ∧ Dg 4294967296 (us'.set (k + j) p) ∧ (∀ i, (i < j ∨ j + k + 1 ≤ i) → (us'.set (k + j) p)[i]? = us[i]?) ∧
      ∃ c : Int, (win (us'.set (k + j) p) j (k + 1) : Int) + ((4294967296 ^ (k + 1) : Nat) : Int) * c = (win us j (k + 1) : Int) + (val 4294967296 vs : Int) ∧ 0 ≤ c := by
  rw [h.at] at hp'
  have hub := rdb hu ((j + k : Nat) : Int)
  have e2 : 0 ≤ p := by omega
  refine ⟨by simp [h.len], h.dg.set _ e2 (by omega), fun i hi => ?_, (rd us ((j + k : Nat) : Int) + d) / 4294967296, ?_, by omega⟩
  · rw [List.getElem?_set_ne (by omega)]
    exact h.out i (by omega)
  · rw [set_win hj h.len, win_succ us j k hj]
    have hsum := h.sum
    rw [win_all vs 0 k (by omega), List.drop_zero] at hsum
    have hp : ((p.toNat : Nat) : Int) = p := Int.toNat_of_nonneg e2
    have hu' : (((rd us ((j + k : Nat) : Int)).toNat : Nat) : Int) = rd us ((j + k : Nat) : Int) := Int.toNat_of_nonneg hub.1
    rw [Nat.pow_succ]
    generalize rd us ((j + k : Nat) : Int) = u at *
    simp only [Int.natCast_add, Int.natCast_mul, hp, hu']
    have hC : u + d = p + 4294967296 * ((u + d) / 4294967296) := by omega
    generalize (u + d) / 4294967296 = z at *
    generalize ((4294967296 ^ k : Nat) : Int) = b at *
    generalize (win us' j k : Int) = W' at *
    generalize (win us j k : Int) = W at *
    generalize (val 4294967296 vs : Int) = X at *
    have : (((4294967296 : Nat) : Int)) = 4294967296 := rfl
    rw [this]
    clear h hub hj hk hu hp hu' hp'
    grind
end Go.Proofs.Ytlifengbicpppaa.G
end
section
namespace Go.Proofs.Ytlifengbicpppaa.G
open Go.RowKit Go.Proofs.YtlifengbicpppaaW.PrintWords Go.Proofs.YtlifengbicpppaaW.PrintLast Go.Proofs.YtlifengbicpppaaW.PrintMore
open Go.Proofs.Ytlifengbicpppaa.Num
/-- The work lies in block Wb: what is left (us, a row that may be written), and the divisor (vs). -/
structure WS (V : World) (Wb gu gv cu cv : Nat) (us vs : List Int) : Prop where
  box : V.heap[Wb]? = some (.cells #[.slice (some ⟨gu, 0, none⟩) us.length cu, .slice (some ⟨gv, 0, none⟩) vs.length cv] 142 (0, 0))
  row : Kd.R (Kd.int .u32) 75 V 0 (fun _ => True) (.slice (some ⟨gu, 0, none⟩) us.length cu) us
  rv : Kd.C (Kd.int .u32) V (some ⟨gv, 0, none⟩) vs.length vs
  ne : gu ≠ gv
  vc : vs.length ≤ cv
  um : us.length ≤ 9223372036854775807
theorem WS.c0 {V : World} {Wb gu gv cu cv : Nat} {us vs : List Int} (h : WS V Wb gu gv cu cv us vs) : V.cell? ⟨Wb, 0, none⟩ = some (.slice (some ⟨gu, 0, none⟩) us.length cu) := by simp [World.cell?, h.box]
theorem WS.c1 {V : World} {Wb gu gv cu cv : Nat} {us vs : List Int} (h : WS V Wb gu gv cu cv us vs) : V.cell? ⟨Wb, 1, none⟩ = some (.slice (some ⟨gv, 0, none⟩) vs.length cv) := by simp [World.cell?, h.box]
theorem WS.u {V : World} {Wb gu gv cu cv : Nat} {us vs : List Int} (h : WS V Wb gu gv cu cv us vs) (i : Nat) (hi : i < us.length) : V.cell? ⟨gu, i, none⟩ = some (.int .u32 (rd us i)) := by
  have := (Kd.R_cell (0 : Int) h.row (i : Int) (by omega) (by omega)).1
  rw [Int.toNat_natCast] at this
  exact this
theorem WS.v {V : World} {Wb gu gv cu cv : Nat} {us vs : List Int} (h : WS V Wb gu gv cu cv us vs) (i : Nat) (hi : i < vs.length) : V.cell? ⟨gv, i, none⟩ = some (.int .u32 (rd vs i)) := by
  obtain ⟨ad, e, hc⟩ := Kd.at_int h.rv (i : Int) (by omega) (by omega)
  cases e
  rw [add_plain] at hc
  simpa using hc
theorem WS.drewN {V : World} {Wb gu gv cu cv : Nat} {us vs : List Int} (h : WS V Wb gu gv cu cv us vs) (n : Nat) : WS (V.drewN n) Wb gu gv cu cv us vs := ⟨h.box, Kd.R_drewN h.row n, Kd.C_drewN h.rv n, h.ne, h.vc, h.um⟩
theorem join32 (a b : Int) (h0 : 0 ≤ a) (h1 : a < 4294967296) (h2 : 0 ≤ b) (h3 : b < 4294967296) : bits BinOp.or IntKind.u64 (a * 4294967296) b = a * 4294967296 + b := by
  refine bits_join .u64 64 (by decide) (fun n h h' => IntWalk.u64_in n (by omega)) 32 _ _ ?_ ?_ ?_ ?_ ?_ ?_ <;> omega
/-- A guess that holds: it is below the base, and by the first limbs not too great. -/
def Good (top first u2 v2 : Int) (two : Prop) (t : Int) : Prop := 0 ≤ t ∧ t < 4294967296 ∧ t * first ≤ top ∧ (two → t * (first * 4294967296 + v2) ≤ top * 4294967296 + u2)
section
variable {top first u2 v2 q r : Int} {two : Prop}
theorem good_exit (h0 : 0 ≤ q) (h1 : q < 4294967296) (hr : 0 ≤ r) (hE : q * first + r = top) (h : two → q * v2 ≤ r * 4294967296 + u2) : Good top first u2 v2 two q := by
  refine ⟨h0, h1, by omega, fun ht => ?_⟩
  have := h ht
  have e : q * (first * 4294967296 + v2) = q * first * 4294967296 + q * v2 := by rw [Int.mul_add, ← Int.mul_assoc]
  rw [e]
  omega
theorem good_step (hE : q * first + r = top) (hG : ∀ t, Good top first u2 v2 two t → t ≤ q) (h : 4294967296 ≤ q ∨ (two ∧ r * 4294967296 + u2 < q * v2)) : ∀ t, Good top first u2 v2 two t → t ≤ q - 1 := by
  intro t ht
  have h1 := hG t ht
  by_cases he : t = q
  · subst he
    obtain ⟨_, g1, _, g3⟩ := ht
    rcases h with h | ⟨h, h'⟩
    · omega
    · have := g3 h
      rw [Int.mul_add, ← Int.mul_assoc] at this
      omega
  · omega
theorem good_start (hf : 0 < first) (hr : r < first) (hE : q * first + r = top) : ∀ t, Good top first u2 v2 two t → t ≤ q := by
  intro t ⟨_, _, ht, _⟩
  apply Int.le_of_lt_add_one
  by_cases h : t < q + 1
  · exact h
  · exfalso
    have : (q + 1) * first ≤ t * first := Int.mul_le_mul_of_nonneg_right (by omega) (by omega)
    rw [Int.add_mul] at this
    omega
theorem good_brk (hf : 2147483648 ≤ first) (ht : top < first * 4294967296 + 4294967296) (hE : q * first + r = top) (hb : 4294967296 ≤ r) : q < 4294967296 := by
  by_cases h : q < 4294967296
  · exact h
  · exfalso
    have : 4294967296 * first ≤ q * first := Int.mul_le_mul_of_nonneg_right (by omega) (by omega)
    omega
theorem mul_lt_sq (h0 : 0 ≤ q) (h1 : q ≤ 4294967297) (h2 : 0 ≤ v2) (h3 : v2 < 4294967296) : 0 ≤ q * v2 ∧ q * v2 < 18446744073709551616 := by
  refine ⟨Int.mul_nonneg h0 h2, ?_⟩
  have : q * v2 ≤ 4294967297 * v2 := Int.mul_le_mul_of_nonneg_right h1 h2
  omega
theorem mul_lt_sq' (h0 : 0 ≤ q) (h1 : q < 4294967296) (h2 : 0 ≤ v2) (h3 : v2 < 4294967296) : q * v2 < 18446744073709551616 := (mul_lt_sq h0 (by omega) h2 h3).2
end
set_option maxHeartbeats 4000000 in
set_option maxRecDepth 100000 in
theorem guess_any (Wb gu gv cu cv : Nat) (us vs : List Int) (j m : Nat) (V : World) (hW : WS V Wb gu gv cu cv us vs) (hn : vs.length = m + 1) (hj : j + m + 1 < us.length) (hu : Dg 4294967296 us) (hv : Dg 4294967296 vs)
    (hf : 2147483648 ≤ rd vs m) :
    Calls Try.prog 138 #[.pointer (some ⟨Wb, 0, none⟩), .int .i64 j] V fun e w' => ∃ q : Int, e = .returned (.int .u64 q) ∧ 0 ≤ q ∧ q ≤ 18446744073709551615 ∧ (rd us (j + m + 1 : Nat) ≤ rd vs m → Good (rd us (j + m + 1 : Nat) * 4294967296 + rd us (j + m : Nat)) (rd vs m) (rd us (j + m - 1 : Nat)) (rd vs (m - 1 : Nat)) (1 ≤ m) q ∧
      (∀ t, Good (rd us (j + m + 1 : Nat) * 4294967296 + rd us (j + m : Nat)) (rd vs m) (rd us (j + m - 1 : Nat)) (rd vs (m - 1 : Nat)) (1 ≤ m) t → t ≤ q)) ∧ (∃ k, w' = V.drewN k) := by
  have hum := hW.rv.2.1
  have f0 := hW.c0
  have f1 := hW.c1
  have f2 := hW.u (j + m + 1) hj
  have f3 := hW.u (j + m) (by omega)
  have f4 := hW.v m (by omega)
  have f5 : 1 ≤ m → V.cell? ⟨gu, j + m - 1, none⟩ = some (.int .u32 (rd us ((j + m - 1 : Nat) : Int))) := fun h => hW.u (j + m - 1) (by omega)
  have f6 : 1 ≤ m → V.cell? ⟨gv, m - 1, none⟩ = some (.int .u32 (rd vs ((m - 1 : Nat) : Int))) := fun h => hW.v (m - 1) (by omega)
  rw [hn] at f1 hum
  have hul := hW.um
  have e1 : IntKind.i64.wrap ((j : Int) + ((m : Int) + 1)) = (j : Int) + ((m : Int) + 1) := IntWalk.i64_in _ (by omega)
  have e2 : IntKind.i64.wrap ((j : Int) + ((m : Int) + 1) - 1) = (j : Int) + (m : Int) := by rw [IntWalk.i64_in _ (by omega)]; omega
  have e3 : ((j : Int) + ((m : Int) + 1)).toNat = j + m + 1 := by omega
  have e4 : ((j : Int) + (m : Int)).toNat = j + m := by omega
  have l1 : (0 : Int) ≤ (j : Int) + ((m : Int) + 1) := by omega
  have l2 : (j : Int) + ((m : Int) + 1) < (us.length : Int) := by omega
  have l3 : (0 : Int) ≤ (j : Int) + (m : Int) := by omega
  have l4 : (j : Int) + (m : Int) < (us.length : Int) := by omega
  obtain ⟨p1, p1'⟩ := rdb hu ((j + m + 1 : Nat) : Int)
  obtain ⟨p2, p2'⟩ := rdb hu ((j + m : Nat) : Int)
  obtain ⟨p3, p3'⟩ := rdb hv ((m : Nat) : Int)
  obtain ⟨p4, p4'⟩ := rdb hu ((j + m - 1 : Nat) : Int)
  obtain ⟨p5, p5'⟩ := rdb hv ((m - 1 : Nat) : Int)
  generalize rd us ((j + m + 1 : Nat) : Int) = x1 at *
  generalize rd us ((j + m : Nat) : Int) = x0 at *
  generalize rd us ((j + m - 1 : Nat) : Int) = u2 at *
  generalize rd vs ((m : Nat) : Int) = first at *
  generalize rd vs ((m - 1 : Nat) : Int) = v2 at *
  clear hu hv hW
  generalize us.length = L at *
  have w1 : IntKind.u64.wrap x1 = x1 := IntWalk.u64_in _ (by omega)
  have w0 : IntKind.u64.wrap x0 = x0 := IntWalk.u64_in _ (by omega)
  have wf : IntKind.u64.wrap first = first := IntWalk.u64_in _ (by omega)
  have ws : IntKind.u64.wrap (x1 * 4294967296) = x1 * 4294967296 := IntWalk.u64_in _ (by omega)
  have eor := join32 x1 x0 p1 p1' p2 p2'
  obtain ⟨top, htop'⟩ : ∃ t, t = x1 * 4294967296 + x0 := ⟨_, rfl⟩
  rw [← htop'] at eor ⊢
  have ht0 : 0 ≤ top := by omega
  have ht2 : top ≤ 18446744073709551615 := by omega
  have HT := Aside0.mk (show x1 ≤ first → top < first * 4294967296 + 4294967296 by intro h; omega)
  clear htop'
  go_enter Try.func138, Try.ntmps138
  go_wp2
  go_quiet (fail)
  go_wp2
  clear w1 w0 wf ws eor
  have hf0 : first ≠ 0 := by omega
  clear e1 e2 e3 e4 l1 l2 l3 l4
  have hq1 : top.tdiv first = top / first := Int.tdiv_eq_ediv_of_nonneg (by omega)
  have hr1 : top.tmod first = top % first := Int.tmod_eq_emod_of_nonneg (by omega)
  have hd1 : top / first * first + top % first = top := Int.ediv_mul_add_emod top first
  have hr2 : 0 ≤ top % first := Int.emod_nonneg _ hf0
  have hr3 : top % first < first := Int.emod_lt_of_pos _ (by omega)
  have hq2 : 0 ≤ top / first := Int.ediv_nonneg (by omega) (by omega)
  have hq3 : top / first ≤ 8589934592 := by
    have : top / first < 8589934593 := Int.ediv_lt_of_lt_mul (by omega) (by omega)
    omega
  have HQ3 : Aside0 (x1 ≤ first → top / first ≤ 4294967297) := ⟨fun h => by
    have := HT.out h
    have : top / first < 4294967298 := Int.ediv_lt_of_lt_mul (by omega) (by omega)
    omega⟩
  obtain ⟨q0, hq0⟩ : ∃ q, q = top / first := ⟨_, rfl⟩
  obtain ⟨r0, hr0⟩ : ∃ q, q = top % first := ⟨_, rfl⟩
  rw [← hq0] at hq1 hq2 hq3 hd1 HQ3
  rw [← hr0] at hr1 hr2 hr3 hd1
  clear hq0 hr0
  have wq : IntKind.u64.wrap q0 = q0 := IntWalk.u64_in _ (by omega)
  have wr : IntKind.u64.wrap r0 = r0 := IntWalk.u64_in _ (by omega)
  have HD := Aside0.mk hd1
  clear hd1
  go_quiet (fail)
  go_wp2
  clear hq1 hr1 wq wr
  go_loopw [8, 9] (fun a b wr => ∃ q r : Int, a = .int .u64 q ∧ b = .int .u64 r ∧ 0 ≤ q ∧ q ≤ q0 ∧ 0 ≤ r ∧ r < 4294967296 ∧ Aside0 (q * first + r = top) ∧ Aside0 (x1 ≤ first → ∀ t, Good top first u2 v2 (1 ≤ m) t → t ≤ q) ∧ ∃ k, wr = V.drewN k) (fun a _ _ => (intOf a).toNat)
  case atStart => exact ⟨q0, r0, rfl, rfl, hq2, Int.le_refl _, hr2, by omega, HD, ⟨fun _ => good_start (by omega) hr3 HD.out⟩, _, by first | rfl | rw [World.drewN_drewN]⟩
  case round =>
    obtain ⟨q, r, rfl, rfl, gq0, gq1, gr0, gr1, HE, HG, kk, rfl⟩ := hrel
    have x2' : IntKind.u64.wrap (r + first) = r + first := IntWalk.u64_in _ (by omega)
    by_cases hA : 4294967296 ≤ q
    · have hA1 : 0 < q / 4294967296 := by omega
      have hA2 : 1 ≤ q := by omega
      have x1' : IntKind.u64.wrap (q - 1) = q - 1 := IntWalk.u64_in _ (by omega)
      go_wp2_with fail
      go_quiet (fail)
      have HS := Aside0.mk (fun h : x1 ≤ first => good_step HE.out (HG.out h) (.inl hA))
      have HE2 : Aside0 ((q - 1) * first + (r + first) = top) := ⟨by have := HE.out; rw [Int.sub_mul]; omega⟩
      go_wp2
      · go_ret
        refine ⟨_, rfl, by omega, by omega, fun h => ⟨?_, HS.out h⟩, _, by first | rfl | rw [World.drewN_drewN]⟩
        have hb : q - 1 < 4294967296 := good_brk hf (HT.out h) HE2.out (by omega)
        refine good_exit (by omega) hb (by omega) HE2.out (fun _ => ?_)
        have := mul_lt_sq' (q := q - 1) (by omega) hb p5 p5'
        omega
      · exact ⟨⟨_, _, rfl, rfl, by omega, by omega, by omega, by omega, HE2, HS, _, by first | rfl | rw [World.drewN_drewN]⟩, by show (q - 1).toNat < q.toNat; omega⟩
    · have hA1 : decide (0 < q / 4294967296) = false := by simp; omega
      by_cases hm : m = 0
      · have hA2 : decide ((1 : Int) < (m : Int) + 1) = false := by simp; omega
        go_wp2_with fail
        go_quiet (fail)
        go_wp2
        go_ret
        exact ⟨_, rfl, gq0, by omega, fun h => ⟨good_exit gq0 (by omega) gr0 HE.out (fun h => by omega), HG.out h⟩, _, by first | rfl | rw [World.drewN_drewN]⟩
      · obtain ⟨m', hm'⟩ : ∃ m', m = m' + 1 := ⟨m - 1, by omega⟩
        have h6 := f6 (by omega)
        have h5 := f5 (by omega)
        rw [show j + m - 1 = j + m' by omega] at h5
        rw [show m - 1 = m' by omega] at h6
        have hA2 : (1 : Int) < (m : Int) + 1 := by omega
        have e1 : IntKind.i64.wrap ((m : Int) + 1 - 2) = (m' : Int) := by rw [IntWalk.i64_in _ (by omega)]; omega
        have e2 : IntKind.i64.wrap ((j : Int) + ((m : Int) + 1)) = (j : Int) + ((m : Int) + 1) := IntWalk.i64_in _ (by omega)
        have e3 : IntKind.i64.wrap ((j : Int) + ((m : Int) + 1) - 2) = (j : Int) + (m' : Int) := by rw [IntWalk.i64_in _ (by omega)]; omega
        have e4 : ((j : Int) + (m' : Int)).toNat = j + m' := by omega
        have l1 : (0 : Int) ≤ (j : Int) + (m' : Int) := by omega
        have l2 : (j : Int) + (m' : Int) < (L : Int) := by omega
        have l3 : (m' : Int) < (m : Int) + 1 := by omega
        obtain ⟨z, w1⟩ : ∃ z, IntKind.u64.wrap (q * v2) = z := ⟨_, rfl⟩
        have z0 : 0 ≤ z := by rw [← w1, IntKind.wrap_u64]; omega
        have HZ : Aside0 (x1 ≤ first → z = q * v2) := ⟨fun h => by
          have := mul_lt_sq gq0 (show q ≤ 4294967297 by have := HQ3.out h; omega) p5 p5'
          rw [← w1, IntWalk.u64_in _ (by omega)]⟩
        have HZ0 : Aside0 (q = 0 → z = 0) := ⟨fun h => by rw [← w1, h, Int.zero_mul]; rfl⟩
        have w2 : IntKind.u64.wrap (r * 4294967296) = r * 4294967296 := IntWalk.u64_in _ (by omega)
        have w3 := join32 r u2 gr0 gr1 p4 p4'
        have w4 : IntKind.u64.wrap u2 = u2 := IntWalk.u64_in _ (by omega)
        have w5 : IntKind.u64.wrap v2 = v2 := IntWalk.u64_in _ (by omega)
        have HM := Aside0.mk hm'
        clear hm' f5 f6
        by_cases hC : r * 4294967296 + u2 < z
        · have HS := Aside0.mk (fun h : x1 ≤ first => good_step HE.out (HG.out h) (.inr ⟨by omega, by rw [← HZ.out h]; exact hC⟩))
          have HE2 : Aside0 ((q - 1) * first + (r + first) = top) := ⟨by have := HE.out; rw [Int.sub_mul]; omega⟩
          have hq1 : 1 ≤ q := by
            by_cases h : q = 0
            · exfalso
              have := HZ0.out h
              omega
            · omega
          have x1' : IntKind.u64.wrap (q - 1) = q - 1 := IntWalk.u64_in _ (by omega)
          go_wp2_with fail
          go_quiet (fail)
          go_wp2
          · go_ret
            refine ⟨_, rfl, by omega, by omega, fun h => ⟨?_, HS.out h⟩, _, by first | rfl | rw [World.drewN_drewN]⟩
            have hb : q - 1 < 4294967296 := good_brk hf (HT.out h) HE2.out (by omega)
            refine good_exit (by omega) hb (by omega) HE2.out (fun _ => ?_)
            have := mul_lt_sq' (q := q - 1) (by omega) hb p5 p5'
            omega
          · exact ⟨⟨_, _, rfl, rfl, by omega, by omega, by omega, by omega, HE2, HS, _, by first | rfl | rw [World.drewN_drewN]⟩, by show (q - 1).toNat < q.toNat; omega⟩
        · have HC := Aside0.mk hC
          have hC : decide (r * 4294967296 + u2 < z) = false := by simp; omega
          go_wp2_with fail
          go_quiet (fail)
          go_wp2
          go_ret
          exact ⟨_, rfl, gq0, by omega, fun h => ⟨good_exit gq0 (by omega) gr0 HE.out (fun h' => by have := HC.out; have := HZ.out h; omega), HG.out h⟩, _, by first | rfl | rw [World.drewN_drewN]⟩
end Go.Proofs.Ytlifengbicpppaa.G
end
section
namespace Go.Proofs.Ytlifengbicpppaa.G
open Go.RowKit Go.Proofs.YtlifengbicpppaaW.PrintWords Go.Proofs.YtlifengbicpppaaW.PrintLast Go.Proofs.YtlifengbicpppaaW.PrintMore
open Go.Proofs.Ytlifengbicpppaa.Num
section
variable {p : Int}
theorem mul_lt_cancel {a b p : Int} (hp : 0 < p) (h : a * p < b * p) : a < b := Int.lt_of_mul_lt_mul_right h (Int.le_of_lt hp)
/-- a multiple of a head is no more than the head, where it is so of the wholes. -/
theorem head_le {q vh vl wh wl p : Int} (hp : 0 < p) (hq : 0 ≤ q) (hvl : 0 ≤ vl) (hwl : wl < p) (h : q * (vl + p * vh) ≤ wl + p * wh) : q * vh ≤ wh := by
  have h1 : 0 ≤ q * vl := Int.mul_nonneg hq hvl
  have h2 : (q * vh) * p < (wh + 1) * p := by grind
  have := mul_lt_cancel hp h2
  omega
theorem win_top (us : List Int) (j m : Nat) (hj : j + m < us.length) (hu : Dg 4294967296 us) : (win us j (m + 1) : Int) = (win us j m : Int) + ((4294967296 ^ m : Nat) : Int) * rd us ((j + m : Nat) : Int) := by
  rw [win_succ us j m hj]
  have := rdb hu ((j + m : Nat) : Int)
  generalize rd us ((j + m : Nat) : Int) = x at *
  simp only [Int.natCast_add, Int.natCast_mul, Int.toNat_of_nonneg this.1]
theorem pw_succ (m : Nat) : ((4294967296 ^ (m + 1) : Nat) : Int) = ((4294967296 ^ m : Nat) : Int) * 4294967296 := by rw [Nat.pow_succ]; simp
theorem pw_pos (m : Nat) : (0 : Int) < ((4294967296 ^ m : Nat) : Int) := by
  have := Nat.pow_pos (a := 4294967296) (n := m) (by decide)
  omega
theorem win_lti {us : List Int} (h : Dg 4294967296 us) (j n : Nat) : (win us j n : Int) < ((4294967296 ^ n : Nat) : Int) := by
  have := win_lt h j n
  omega
theorem win_low (us : List Int) : ∀ (n j : Nat), j + n < us.length → win us j (n + 1) = (rd us ((j : Nat) : Int)).toNat + 4294967296 * win us (j + 1) n
  | 0, j, h => by rw [win_succ us j 0 h, win_zero, win_zero]; simp
  | n + 1, j, h => by
    rw [win_succ us j (n + 1) h, win_low us n j (by omega), win_succ us (j + 1) n (by omega), Nat.pow_succ, show j + 1 + n = j + (n + 1) by omega, Nat.mul_add]
    generalize (rd us (((j + (n + 1) : Nat)) : Int)).toNat = x
    rw [Nat.add_assoc, ← Nat.mul_assoc, Nat.mul_comm (4294967296 ^ n) 4294967296]
/-- The limb that is right is no more than the guess, and one less at most. -/
theorem guess_right {us vs : List Int} {j m : Nat} {q : Int} (hn : vs.length = m + 1) (hj : j + m + 1 < us.length) (hu : Dg 4294967296 us) (hv : Dg 4294967296 vs) (hf : 2147483648 ≤ rd vs m)
    (hlt : (win us (j + 1) (m + 1) : Int) < (val 4294967296 vs : Int))
    (hg : Good (rd us (j + m + 1 : Nat) * 4294967296 + rd us (j + m : Nat)) (rd vs m) (rd us (j + m - 1 : Nat)) (rd vs (m - 1 : Nat)) (1 ≤ m) q)
    (hx : ∀ t, Good (rd us (j + m + 1 : Nat) * 4294967296 + rd us (j + m : Nat)) (rd vs m) (rd us (j + m - 1 : Nat)) (rd vs (m - 1 : Nat)) (1 ≤ m) t → t ≤ q) :
    ∃ t r : Int, 0 ≤ t ∧ t < 4294967296 ∧ (win us j (m + 2) : Int) = t * (val 4294967296 vs : Int) + r ∧ 0 ≤ r ∧ r < (val 4294967296 vs : Int) ∧ (q = t ∨ q = t + 1) := by
  have hV : (val 4294967296 vs : Int) = (win vs 0 (m + 1) : Int) := by rw [win_all vs 0 (m + 1) (by omega), List.drop_zero]
  rw [hV] at hlt ⊢
  have hW := win_top us j (m + 1) (by omega) hu
  have hW' := win_top us j m (by omega) hu
  have hVt := win_top vs 0 m (by omega) hv
  rw [Nat.zero_add] at hVt
  have hl := win_low us (m + 1) j (by omega)
  have hu0 := rdb hu (j : Int)
  rw [pw_succ, show j + (m + 1) = j + m + 1 by omega] at hW
  have p0 := pw_pos m
  have hwl := win_lti hu j m
  have hvl := win_lti hv 0 m

  have hWV : (win us j (m + 2) : Int) < 4294967296 * (win vs 0 (m + 1) : Int) := by
    have e : (win us j (m + 2) : Int) = rd us (j : Int) + 4294967296 * (win us (j + 1) (m + 1) : Int) := by
      have := congrArg (fun x : Nat => (x : Int)) hl
      simp only [Int.natCast_add, Int.natCast_mul, Int.toNat_of_nonneg hu0.1] at this
      exact this
    omega
  have hVpos : 0 < (win vs 0 (m + 1) : Int) := by omega
  refine ⟨(win us j (m + 2) : Int) / (win vs 0 (m + 1) : Int), (win us j (m + 2) : Int) % (win vs 0 (m + 1) : Int), Int.ediv_nonneg (by omega) (by omega), Int.ediv_lt_of_lt_mul hVpos hWV, ?_, Int.emod_nonneg _ (by omega), Int.emod_lt_of_pos _ hVpos, ?_⟩
  · rw [Int.ediv_mul_add_emod]
  have t0 : 0 ≤ (win us j (m + 2) : Int) / (win vs 0 (m + 1) : Int) := Int.ediv_nonneg (by omega) (by omega)
  have t1 : (win us j (m + 2) : Int) / (win vs 0 (m + 1) : Int) < 4294967296 := Int.ediv_lt_of_lt_mul hVpos hWV
  have t2 : (win us j (m + 2) : Int) / (win vs 0 (m + 1) : Int) * (win vs 0 (m + 1) : Int) + (win us j (m + 2) : Int) % (win vs 0 (m + 1) : Int) = (win us j (m + 2) : Int) := Int.ediv_mul_add_emod _ _
  have t3 := Int.emod_nonneg (win us j (m + 2) : Int) (show (win vs 0 (m + 1) : Int) ≠ 0 by omega)
  have t4 := Int.emod_lt_of_pos (win us j (m + 2) : Int) hVpos
  generalize (win us j (m + 2) : Int) / (win vs 0 (m + 1) : Int) = t at *
  generalize (win us j (m + 2) : Int) % (win vs 0 (m + 1) : Int) = r at *
  clear hl hWV hu0 hlt hV

  have hgood : Good (rd us (j + m + 1 : Nat) * 4294967296 + rd us (j + m : Nat)) (rd vs m) (rd us (j + m - 1 : Nat)) (rd vs (m - 1 : Nat)) (1 ≤ m) t := by
    refine ⟨t0, t1, ?_, fun hm => ?_⟩
    · refine head_le (vl := (win vs 0 m : Int)) (wl := (win us j m : Int)) p0 t0 (by omega) hwl ?_
      rw [← hVt]
      grind
    · obtain ⟨m', rfl⟩ : ∃ m', m = m' + 1 := ⟨m - 1, by omega⟩
      have a1 := win_top us j m' (by omega) hu
      have a2 := win_top vs 0 m' (by omega) hv
      have a3 := win_lti hu j m'
      have a4 := win_lti hv 0 m'
      have a5 := pw_pos m'
      rw [pw_succ] at hW hW' hVt
      rw [Nat.zero_add] at a2
      rw [show j + (m' + 1) - 1 = j + m' by omega, show m' + 1 - 1 = m' by omega]
      refine head_le (vl := (win vs 0 m' : Int)) (wl := (win us j m' : Int)) a5 t0 (by omega) a3 ?_
      grind
  have hle := hx t hgood

  have hq : q ≤ t + 1 := by
    apply Int.not_lt.1
    intro hlt
    obtain ⟨g0, g1, g2, g3⟩ := hg
    have k1 : (t + 1) * (win vs 0 (m + 1) : Int) ≤ (q - 1) * (win vs 0 (m + 1) : Int) := Int.mul_le_mul_of_nonneg_right (by omega) (by omega)
    have k2 : (win us j (m + 2) : Int) < (q - 1) * (win vs 0 (m + 1) : Int) := by
      have : (t + 1) * (win vs 0 (m + 1) : Int) = t * (win vs 0 (m + 1) : Int) + (win vs 0 (m + 1) : Int) := by rw [Int.add_mul, Int.one_mul]
      omega
    by_cases hm : m = 0
    · subst hm
      simp only [win_zero, Nat.pow_zero] at hW hW' hVt
      have k3 : q * rd vs ((0 : Nat) : Int) ≤ (win us j (0 + 2) : Int) := by
        have : (win us j (0 + 2) : Int) = rd us ((j + 0 + 1 : Nat) : Int) * 4294967296 + rd us ((j + 0 : Nat) : Int) := by
          rw [show (0 + 2 : Nat) = 0 + 1 + 1 by rfl]
          grind
        omega
      have k4 : (q - 1) * (win vs 0 (0 + 1) : Int) = q * rd vs ((0 : Nat) : Int) - rd vs ((0 : Nat) : Int) := by grind
      omega
    · obtain ⟨m', rfl⟩ : ∃ m', m = m' + 1 := ⟨m - 1, by omega⟩
      have a1 := win_top us j m' (by omega) hu
      have a2 := win_top vs 0 m' (by omega) hv
      have a3 := win_lti hu j m'
      have a4 := win_lti hv 0 m'
      have a5 := pw_pos m'
      have g3 := g3 (by omega)
      rw [pw_succ] at hW hW' hVt
      rw [Nat.zero_add] at a2
      rw [show j + (m' + 1) - 1 = j + m' by omega, show m' + 1 - 1 = m' by omega] at g3
      have b0 : 0 ≤ (win us j m' : Int) := by omega
      have b1 : 0 ≤ (win vs 0 m' : Int) := by omega
      have b2 : 0 ≤ rd vs ((m' : Nat) : Int) := (rdb hv _).1
      generalize ((4294967296 ^ m' : Nat) : Int) = p at *
      generalize (win us j m' : Int) = wl at *
      generalize (win vs 0 m' : Int) = vl at *
      have c1 : q * (rd vs ((m' + 1 : Nat) : Int) * 4294967296 + rd vs ((m' : Nat) : Int)) * p ≤ ((rd us ((j + (m' + 1) + 1 : Nat) : Int) * 4294967296 + rd us ((j + (m' + 1) : Nat) : Int)) * 4294967296 + rd us ((j + m' : Nat) : Int)) * p := Int.mul_le_mul_of_nonneg_right g3 (Int.le_of_lt a5)
      have c2 : q * vl ≤ q * p := Int.mul_le_mul_of_nonneg_left (Int.le_of_lt a4) g0
      have c3 : q * p < 4294967296 * p := Int.mul_lt_mul_of_pos_right g1 a5
      have c4 : 2147483648 * p ≤ rd vs ((m' + 1 : Nat) : Int) * p := Int.mul_le_mul_of_nonneg_right hf (Int.le_of_lt a5)
      have c5 : 0 ≤ rd vs ((m' : Nat) : Int) * p := Int.mul_nonneg b2 (Int.le_of_lt a5)
      generalize rd vs ((m' + 1 : Nat) : Int) = f at *
      generalize rd vs ((m' : Nat) : Int) = v2 at *
      generalize rd us ((j + (m' + 1) + 1 : Nat) : Int) = x1 at *
      generalize rd us ((j + (m' + 1) : Nat) : Int) = x0 at *
      generalize rd us ((j + m' : Nat) : Int) = u2 at *
      have d1 : (win vs 0 (m' + 1 + 1) : Int) = vl + p * v2 + p * 4294967296 * f := by omega
      have d2 : (win us j (m' + 1 + 2) : Int) = wl + p * u2 + p * 4294967296 * x0 + p * 4294967296 * 4294967296 * x1 := by
        rw [show m' + 1 + 2 = m' + 1 + 1 + 1 by rfl]
        omega
      rw [d1, d2] at k2
      have e1 : (q - 1) * (vl + p * v2 + p * 4294967296 * f) = q * vl + q * (f * 4294967296 + v2) * p - vl - v2 * p - 4294967296 * (f * p) := by grind
      have e2 : wl + p * u2 + p * 4294967296 * x0 + p * 4294967296 * 4294967296 * x1 = wl + ((x1 * 4294967296 + x0) * 4294967296 + u2) * p := by grind
      rw [e1, e2] at k2
      omega
  omega
end
end Go.Proofs.Ytlifengbicpppaa.G
end
section
namespace Go.Proofs.Ytlifengbicpppaa.G
open Go
section
variable {P : Program} {md : Region.Mode} {ops : Array Oper} {Q : Exit → Act → World → Prop} {S : World → Prop} {st : Nat}
def wpAnyT (P : Program) (md : Region.Mode) (ops : Array Oper) (Q : Exit → Act → World → Prop) (S : World → Prop) (st : Nat) : Nat → Array Bool → Act → World → Prop
  | 0, listed, a, w => Region.ready md ops listed = [] ∧ Q .normal a w
  | fuel + 1, listed, a, w =>
    (Region.ready md ops listed = [] → Q .normal a w) ∧
    ∀ i ∈ Region.ready md ops listed, wpOp P ops Q i (fun a' w' => ((listed.setIfInBounds i true).getD st true = false → S w') ∧ wpAnyT P md ops Q S st fuel (listed.setIfInBounds i true) a' w') a w
theorem wpAny_of_T : ∀ (fuel : Nat) (listed : Array Bool) (a : Act) (w : World), wpAnyT P md ops Q S st fuel listed a w → wpAny P md ops Q fuel listed a w
  | 0, _, _, _, h => h
  | fuel + 1, _, _, _, h => ⟨h.1, fun i hi => wpOp_mono (fun a' w' h' => wpAny_of_T fuel _ a' w' h'.2) (h.2 i hi)⟩
/-- An operation for which the store waits may be taken first, if it yields its value in every world that meets S. -/
theorem wpAnyT_first {i : Nat} {oi : Oper} {v : Value} (hi : ops[i]? = some oi) (hsel : ∀ (j : Nat) (o : Oper) cs b, ops[j]? = some o → o.op ≠ .select cs b)
    (hQ : ∀ c a w, Q (.panic c) (a.put oi.dst v) w → Q (.panic c) a w) (hne : i ≠ st) (hst : ∀ o, ops[st]? = some o → ∃ e ∈ o.after, Region.binds md e = true ∧ e.on = i) :
    ∀ (fuel : Nat) (listed : Array Bool) (a : Act) (w : World), listed.getD st true = false →
      (∀ j oj, ops[j]? = some oj → j ≠ i → listed.getD j true = false → (∀ e ∈ oj.after, Region.binds md e = true → e.on ≠ i) → oi.apart ops oj = true) →
      i ∈ Region.ready md ops listed → YieldsIf P ops S oi v a → S w →
      wpAnyT P md ops Q S st fuel (listed.setIfInBounds i true) (a.put oi.dst v) w → wpAnyT P md ops Q S st (fuel + 1) listed a w := by
  intro fuel
  induction fuel with
  | zero =>
    intro listed a w _ _ hr hy hS H
    refine ⟨fun h => (by rw [h] at hr; cases hr), fun j hj => ?_⟩
    by_cases hji : j = i
    · subst hji; exact hy.wpOp hi hS ⟨fun _ => hS, H⟩
    · have := ready_mono hj hji
      rw [H.1] at this
      cases this
  | succ fuel ih =>
    intro listed a w hl hfree hr hy hS H
    refine ⟨fun h => (by rw [h] at hr; cases hr), fun j hj => ?_⟩
    by_cases hji : j = i
    · subst hji; exact hy.wpOp hi hS ⟨fun _ => hS, H⟩
    · have h1 := H.2 j (ready_mono hj hji)
      obtain ⟨hjun, oj, hoj, hall⟩ := mem_ready.1 hj
      have hnot : ∀ e ∈ oj.after, Region.binds md e = true → e.on ≠ i := fun e he hb heq => by
        have h1 := hall e he hb
        have h0 := (mem_ready.1 hr).1
        rw [heq] at h1
        rcases Nat.lt_or_ge i listed.size with h' | h'
        · simp [h'] at h0 h1; rw [h0] at h1; cases h1
        · simp [Array.getElem?_eq_none h'] at h1
      have hjst : j ≠ st := fun e => by
        subst e
        obtain ⟨e, he, hb, h⟩ := hst oj hoj
        exact hnot e he hb h
      have hl1 : (listed.setIfInBounds j true).getD st true = false := by rw [getD_set_ne true hjst]; exact hl
      have hl2 : ((listed.setIfInBounds i true).setIfInBounds j true).getD st true = false := by rw [getD_set_ne true hjst, getD_set_ne true hne]; exact hl
      have h2 := wpOp_putIf hoj (hfree j oj hoj hji hjun hnot) (fun cs b => hsel i oi cs b hi) (fun cs b => hsel j oj cs b hoj) hQ hy h1
      have hfree' : ∀ k ok, ops[k]? = some ok → k ≠ i → (listed.setIfInBounds j true).getD k true = false →
          (∀ e ∈ ok.after, Region.binds md e = true → e.on ≠ i) → oi.apart ops ok = true := fun k ok hk hki hun hno => by
        refine hfree k ok hk hki ?_ hno
        by_cases hjk : j = k
        · subst hjk; exact hjun
        · rw [getD_set_ne true hjk] at hun; exact hun
      refine wpOp_mono (fun a' w' h3 => ⟨fun _ => h3.2.1 hl2, ih (listed.setIfInBounds j true) a' w' hl1 hfree' (ready_mono hr (Ne.symm hji)) h3.1 (h3.2.1 hl2) ?_⟩) h2
      rw [Array.setIfInBounds_comm _ _ hji]
      exact h3.2.2
/-- .. and one that looks at no world, whenever. -/
theorem wpAnyT_pure {i : Nat} {oi : Oper} {v : Value} (hi : ops[i]? = some oi) (hsel : ∀ (j : Nat) (o : Oper) cs b, ops[j]? = some o → o.op ≠ .select cs b)
    (hQ : ∀ c a w, Q (.panic c) (a.put oi.dst v) w → Q (.panic c) a w) (hne : i ≠ st) :
    ∀ (fuel : Nat) (listed : Array Bool) (a : Act) (w : World),
      (∀ j oj, ops[j]? = some oj → j ≠ i → listed.getD j true = false → (∀ e ∈ oj.after, Region.binds md e = true → e.on ≠ i) → oi.apart ops oj = true) →
      i ∈ Region.ready md ops listed → YieldsIf P ops (fun _ => True) oi v a → (listed.getD st true = false → S w) →
      wpAnyT P md ops Q S st fuel (listed.setIfInBounds i true) (a.put oi.dst v) w → wpAnyT P md ops Q S st (fuel + 1) listed a w := by
  intro fuel
  induction fuel with
  | zero =>
    intro listed a w _ hr hy hS H
    refine ⟨fun h => (by rw [h] at hr; cases hr), fun j hj => ?_⟩
    by_cases hji : j = i
    · subst hji; exact hy.wpOp hi trivial ⟨fun h => hS (by rwa [getD_set_ne true hne] at h), H⟩
    · have := ready_mono hj hji
      rw [H.1] at this
      cases this
  | succ fuel ih =>
    intro listed a w hfree hr hy hS H
    refine ⟨fun h => (by rw [h] at hr; cases hr), fun j hj => ?_⟩
    by_cases hji : j = i
    · subst hji; exact hy.wpOp hi trivial ⟨fun h => hS (by rwa [getD_set_ne true hne] at h), H⟩
    · have h1 := H.2 j (ready_mono hj hji)
      obtain ⟨hjun, oj, hoj, hall⟩ := mem_ready.1 hj
      have hnot : ∀ e ∈ oj.after, Region.binds md e = true → e.on ≠ i := fun e he hb heq => by
        have h1 := hall e he hb
        have h0 := (mem_ready.1 hr).1
        rw [heq] at h1
        rcases Nat.lt_or_ge i listed.size with h' | h'
        · simp [h'] at h0 h1; rw [h0] at h1; cases h1
        · simp [Array.getElem?_eq_none h'] at h1
      have hl2 : (listed.setIfInBounds j true).getD st true = false → ((listed.setIfInBounds i true).setIfInBounds j true).getD st true = false := fun h => by
        rw [Array.setIfInBounds_comm _ _ (Ne.symm hji), getD_set_ne true hne]; exact h
      have h2 := wpOp_putIf hoj (hfree j oj hoj hji hjun hnot) (fun cs b => hsel i oi cs b hi) (fun cs b => hsel j oj cs b hoj) hQ hy h1
      have hfree' : ∀ k ok, ops[k]? = some ok → k ≠ i → (listed.setIfInBounds j true).getD k true = false →
          (∀ e ∈ ok.after, Region.binds md e = true → e.on ≠ i) → oi.apart ops ok = true := fun k ok hk hki hun hno => by
        refine hfree k ok hk hki ?_ hno
        by_cases hjk : j = k
        · subst hjk; exact hjun
        · rw [getD_set_ne true hjk] at hun; exact hun
      refine wpOp_mono (fun a' w' h3 => ⟨fun h => h3.2.1 (hl2 h), ih (listed.setIfInBounds j true) a' w' hfree' (ready_mono hr (Ne.symm hji)) h3.1 (fun h => h3.2.1 (hl2 h)) ?_⟩) h2
      rw [Array.setIfInBounds_comm _ _ hji]
      exact h3.2.2
def pre (n k : Nat) : Array Bool := ((List.range n).map (fun i => decide (i < k))).toArray
theorem pre_zero (n : Nat) : pre n 0 = Array.replicate n false := by
  apply Array.ext
  · simp [pre]
  · intro i h1 h2
    simp [pre]
theorem pre_set {n k : Nat} : (pre n k).setIfInBounds k true = pre n (k + 1) := by
  apply Array.ext
  · simp [pre]
  · intro i h1 h2
    simp only [pre, List.setIfInBounds_toArray, List.getElem_toArray]
    by_cases h : k = i
    · subst h
      simp
    · rw [List.getElem_set_ne h]
      simp
      omega
def wpT (P : Program) (ops : Array Oper) (Q : Exit → Act → World → Prop) (S : World → Prop) (st : Nat) (k : Nat) (a : Act) (w : World) : Prop :=
  wpAnyT P .any ops Q S st (ops.size - k) (pre ops.size k) a w
def heldB (ops : Array Oper) (st k : Nat) : Bool :=
  Region.noSelect ops && decide (k < ops.size) && decide (k ≠ st) && Region.free .any ops (pre ops.size k) k && (Region.ready .any ops (pre ops.size k)).contains k && !((pre ops.size k).getD st true) &&
    (match ops[st]? with | some o => o.after.any (fun e => Region.binds .any e && e.on == k) | none => false)
def pureB (ops : Array Oper) (st k : Nat) : Bool :=
  Region.noSelect ops && decide (k < ops.size) && decide (k ≠ st) && Region.free .any ops (pre ops.size k) k && (Region.ready .any ops (pre ops.size k)).contains k
def runB (ops : Array Oper) (k : Nat) : Bool := decide (Region.ready .any ops (pre ops.size k) = [k]) && decide (k < ops.size)
def endB (ops : Array Oper) (k : Nat) : Bool := decide (Region.ready .any ops (pre ops.size k) = []) && decide (k = ops.size)
/-- one that reads, ahead of the store -/
theorem wpT_held {k : Nat} {o : Oper} {v : Value} {a : Act} {w : World} (hi : ops[k]? = some o) (hc : heldB ops st k = true) (hQ : ∀ c a w, Q (.panic c) (a.put o.dst v) w → Q (.panic c) a w)
    (hS : S w) (hy : YieldsIf P ops S o v a) (h : wpT P ops Q S st (k + 1) (a.put o.dst v) w) : wpT P ops Q S st k a w := by
  simp only [heldB, Bool.and_eq_true, decide_eq_true_eq, Bool.not_eq_true'] at hc
  obtain ⟨⟨⟨⟨⟨⟨h1, h2⟩, h3⟩, h4⟩, h5⟩, h6⟩, h7⟩ := hc
  unfold wpT at h ⊢
  rw [show ops.size - k = (ops.size - (k + 1)) + 1 by omega]
  refine wpAnyT_first hi (Region.noSelect_spec h1) hQ h3 (fun o' ho' => ?_) _ _ a w h6 (Region.free_spec hi h4) (by simpa using h5) hy hS (by rw [pre_set]; exact h)
  rw [ho'] at h7
  obtain ⟨e, he, hb⟩ := Array.any_eq_true'.1 h7
  simp only [Bool.and_eq_true, beq_iff_eq] at hb
  exact ⟨e, he, hb.1, hb.2⟩
/-- one that looks at no world -/
theorem wpT_pure {k : Nat} {o : Oper} {v : Value} {a : Act} {w : World} (hi : ops[k]? = some o) (hc : pureB ops st k = true) (hQ : ∀ c a w, Q (.panic c) (a.put o.dst v) w → Q (.panic c) a w)
    (hS : (pre ops.size k).getD st true = false → S w) (hy : YieldsIf P ops (fun _ => True) o v a) (h : wpT P ops Q S st (k + 1) (a.put o.dst v) w) : wpT P ops Q S st k a w := by
  simp only [pureB, Bool.and_eq_true, decide_eq_true_eq] at hc
  obtain ⟨⟨⟨⟨h1, h2⟩, h3⟩, h4⟩, h5⟩ := hc
  unfold wpT at h ⊢
  rw [show ops.size - k = (ops.size - (k + 1)) + 1 by omega]
  exact wpAnyT_pure hi (Region.noSelect_spec h1) hQ h3 _ _ a w (Region.free_spec hi h4) (by simpa using h5) hy hS (by rw [pre_set]; exact h)
/-- the one that comes up alone -/
theorem wpT_run {k : Nat} {o : Oper} {a : Act} {w : World} (hi : ops[k]? = some o) (hc : runB ops k = true)
    (h : ∀ K : Act → World → Prop, (∀ a' w', ((pre ops.size (k + 1)).getD st true = false → S w') → wpT P ops Q S st (k + 1) a' w' → K a' w') → if Region.wanted o (yielded ops a.tmps) = true then Oper.wp P o a w K Q else K (a.put o.dst undef) w) :
    wpT P ops Q S st k a w := by
  simp only [runB, Bool.and_eq_true, decide_eq_true_eq] at hc
  unfold wpT at h ⊢
  rw [show ops.size - k = (ops.size - (k + 1)) + 1 by omega]
  refine ⟨fun h0 => (by rw [hc.1] at h0; cases h0), fun i hir => ?_⟩
  rw [hc.1] at hir
  obtain rfl : i = k := by simpa using hir
  refine wpOp_step hi (fun K' hK => h K' (fun a' w' h1 h2 => hK a' w' ⟨?_, ?_⟩))
  · rw [pre_set]; exact h1
  · rw [pre_set]; exact h2
theorem wpT_end {k : Nat} {a : Act} {w : World} (hc : endB ops k = true) (h : Q .normal a w) : wpT P ops Q S st k a w := by
  simp only [endB, Bool.and_eq_true, decide_eq_true_eq] at hc
  unfold wpT
  rw [show ops.size - k = 0 by omega]
  exact ⟨hc.1, h⟩
theorem wp_region_T {id : Nat} {a : Act} {w : World} (S : World → Prop) (st : Nat) (hm : P.follows .mixedOrders = true) (h : wpT P ops Q S st 0 a w.drew) : (Code.region id ops true).wp P Q a w := by
  refine wp_region_any hm (wpAny_of_T (S := S) (st := st) _ _ _ _ ?_)
  unfold wpT at h
  rw [Nat.sub_zero, pre_zero] at h
  exact h
/-- .. with the list of those that are left in sight. -/
def wpTL (P : Program) (ops : Array Oper) (Q : Exit → Act → World → Prop) (S : World → Prop) (st : Nat) (l : List Oper) (k : Nat) (a : Act) (w : World) : Prop :=
  ops.toList.drop k = l → wpT P ops Q S st k a w
theorem drop_cons {k : Nat} {o : Oper} {l : List Oper} (h : ops.toList.drop k = o :: l) : ops[k]? = some o ∧ ops.toList.drop (k + 1) = l := by
  have h1 : (ops.toList.drop k)[0]? = some o := by rw [h]; rfl
  rw [List.getElem?_drop, Nat.add_zero, Array.getElem?_toList] at h1
  refine ⟨h1, ?_⟩
  have : ops.toList.drop (k + 1) = (ops.toList.drop k).drop 1 := by rw [List.drop_drop]
  rw [this, h]
  rfl
theorem wpTL_held {k : Nat} {o : Oper} {l : List Oper} {v : Value} {a : Act} {w : World} (hc : heldB ops st k = true) (hQ : ∀ c a w, Q (.panic c) (a.put o.dst v) w → Q (.panic c) a w)
    (hS : S w) (hy : YieldsIf P ops S o v a) (h : wpTL P ops Q S st l (k + 1) (a.put o.dst v) w) : wpTL P ops Q S st (o :: l) k a w := fun e =>
  wpT_held (drop_cons e).1 hc hQ hS hy (h (drop_cons e).2)
theorem wpTL_pure {k : Nat} {o : Oper} {l : List Oper} {v : Value} {a : Act} {w : World} (hc : pureB ops st k = true) (hQ : ∀ c a w, Q (.panic c) (a.put o.dst v) w → Q (.panic c) a w)
    (hS : (pre ops.size k).getD st true = false → S w) (hy : YieldsIf P ops (fun _ => True) o v a) (h : wpTL P ops Q S st l (k + 1) (a.put o.dst v) w) : wpTL P ops Q S st (o :: l) k a w := fun e =>
  wpT_pure (drop_cons e).1 hc hQ hS hy (h (drop_cons e).2)
theorem wpTL_run {k : Nat} {o : Oper} {l : List Oper} {a : Act} {w : World} (hc : runB ops k = true)
    (h : ∀ K : Act → World → Prop, (∀ a' w', ((pre ops.size (k + 1)).getD st true = false → S w') → wpTL P ops Q S st l (k + 1) a' w' → K a' w') → if Region.wanted o (yielded ops a.tmps) = true then Oper.wp P o a w K Q else K (a.put o.dst undef) w) :
    wpTL P ops Q S st (o :: l) k a w := fun e =>
  wpT_run (drop_cons e).1 hc (fun K hK => h K (fun a' w' h1 h2 => hK a' w' h1 (h2 (drop_cons e).2)))
theorem wpTL_end {k : Nat} {a : Act} {w : World} (hc : endB ops k = true) (h : Q .normal a w) : wpTL P ops Q S st [] k a w := fun _ => wpT_end hc h
theorem stored {b : Bool} {p : Prop} (h : b = true) : b = false → p := fun h' => by rw [h] at h'; cases h'
theorem wp_region_TL {id : Nat} {a : Act} {w : World} {l : List Oper} (S : World → Prop) (st : Nat) (hm : P.follows .mixedOrders = true) (h : wpTL P l.toArray Q S st l 0 a w.drew) : (Code.region id l.toArray true).wp P Q a w :=
  wp_region_T S st hm (h rfl)
end
end Go.Proofs.Ytlifengbicpppaa.G
end
section
namespace Go.Proofs.Ytlifengbicpppaa.G
open Go.RowKit Go.Proofs.YtlifengbicpppaaW.PrintWords Go.Proofs.YtlifengbicpppaaW.PrintLast Go.Proofs.YtlifengbicpppaaW.PrintMore
open Go.Proofs.Ytlifengbicpppaa.Num
/-- Only block g has changed. -/
structure Kw (g : Nat) (V W : World) : Prop where
  below : Below g V W
  size : W.heap.size = V.heap.size
  block : ∀ k, k ≠ g → W.heap[k]? = V.heap[k]?
theorem Kw.refl (g : Nat) (V : World) : Kw g V V := ⟨Below.refl _ _, rfl, fun _ _ => rfl⟩
theorem Kw.trans {g : Nat} {A B C : World} (h : Kw g A B) (k : Kw g B C) : Kw g A C := ⟨h.below.trans k.below, k.size.trans h.size, fun j hj => (k.block j hj).trans (h.block j hj)⟩
theorem Kw.drewN (g : Nat) (V : World) (n : Nat) : Kw g V (V.drewN n) := ⟨pw_below_drewN (Below.refl _ _) n, rfl, fun _ _ => rfl⟩
theorem Kw.set (g : Nat) (V : World) (o : Nat) (v : Value) : Kw g V (V.setCell ⟨g, o, none⟩ v) := ⟨(Below.refl _ _).setCell (p := ⟨g, o, none⟩) (Nat.le_refl _) v, by simp [World.setCell], fun k hk => Below.heap_setCell V ⟨g, o, none⟩ v k hk⟩
theorem WS.set {V : World} {Wb gu gv cu cv : Nat} {us vs : List Int} (h : WS V Wb gu gv cu cv us vs) (hWb : Wb ≠ gu) (i : Nat) (x : Int) : WS (V.setCell ⟨gu, i, none⟩ (.int .u32 x)) Wb gu gv cu cv (us.set i x) vs := by
  have hs := Kd.R_put h.row (i : Int) x
  rw [Int.toNat_natCast] at hs
  refine ⟨?_, ?_, ?_, h.ne, h.vc, by simpa using h.um⟩
  · rw [Below.heap_setCell V ⟨gu, i, none⟩ _ Wb hWb, List.length_set]; exact h.box
  · rw [List.length_set]; exact hs.1
  · exact C_same h.rv (fun ad hA hn j => World.cell?_setCell_other V _ _ _ (fun e => by
      cases hA
      have : gu = gv := by have := congrArg Addr.block e; simpa [add_plain] using this
      exact h.ne this))
theorem WS.uf {V : World} {Wb gu gv cu cv : Nat} {us vs : List Int} (h : WS V Wb gu gv cu cv us vs) (i : Nat) (hi : i < us.length) : V.frozen? ⟨gu, i, none⟩ = false := by
  have := (Kd.R_cell (0 : Int) h.row (i : Int) (by omega) (by omega)).2
  rw [Int.toNat_natCast] at this
  exact this
theorem mul_lt_sq2 {q v c : Int} (h0 : 0 ≤ q) (h1 : q < 4294967296) (h2 : 0 ≤ v) (h3 : v < 4294967296) (hc : c < 4294967296) : c + q * v < 18446744073709551616 := by
  have : q * v ≤ 4294967295 * v := Int.mul_le_mul_of_nonneg_right (by omega) h2
  omega
set_option maxHeartbeats 4000000 in
set_option maxRecDepth 100000 in
theorem less_any (Wb gu gv cu cv : Nat) (us vs : List Int) (j n : Nat) (q : Int) (V : World) (hW : WS V Wb gu gv cu cv us vs) (hWb : Wb ≠ gu) (hn : vs.length = n) (hj : j + n < us.length) (hu : Dg 4294967296 us) (hv : Dg 4294967296 vs)
    (hq0 : 0 ≤ q) :
    Calls Try.prog 139 #[.pointer (some ⟨Wb, 0, none⟩), .int .i64 j, .int .u64 q] V fun e w' => ∃ (b : Int) (us' : List Int), e = .returned (.bool (decide (0 < b))) ∧ WS w' Wb gu gv cu cv us' vs ∧ Kw gu V w' ∧
      us'.length = us.length ∧ Dg 4294967296 us' ∧ (∀ i, (i < j ∨ j + n + 1 ≤ i) → us'[i]? = us[i]?) ∧
      (q < 4294967296 → (win us' j (n + 1) : Int) + q * (val 4294967296 vs : Int) = (win us j (n + 1) : Int) + ((4294967296 ^ (n + 1) : Nat) : Int) * b) ∧ 0 ≤ b ∧ b ≤ 1 := by
  have hum := hW.rv.2.1
  have hul := hW.um
  rw [hn] at hum
  have f0 := hW.c0
  have f1 := hW.c1
  rw [hn] at f1
  go_enter Try.func139, Try.ntmps139
  go_wp2
  go_loopw [7, 8, 16, 9, 10] (fun a b i _ _ wr => ∃ (k : Nat) (c d : Int) (us' : List Int), a = .int .u64 c ∧ b = .int .u32 d ∧ i = .int .i64 k ∧ k ≤ n ∧ 0 ≤ c ∧ c < 4294967296 ∧ 0 ≤ d ∧ d ≤ 1 ∧ us'.length = us.length ∧ Aside0 (LO us us' j k) ∧ Aside0 (q < 4294967296 → LI us vs us' j k q c d) ∧ Aside0 (WS wr Wb gu gv cu cv us' vs) ∧ Aside0 (Kw gu V wr)) (fun _ _ i _ _ _ => n - (intOf i).toNat)
  case atStart => exact ⟨0, 0, 0, us, rfl, rfl, rfl, Nat.zero_le _, by omega, by omega, by omega, by omega, rfl, ⟨LO.zero hu j⟩, ⟨fun _ => LI.zero hu j q⟩, ⟨hW⟩, ⟨Kw.refl _ _⟩⟩
  case round =>
    obtain ⟨k, c, d, us', rfl, rfl, rfl, hk, hc0, hc1, hd0, hd1, hl, HO, HL, HW, HK⟩ := hrel
    clear f0 f1
    have f0 := HW.out.c0
    have f1 := HW.out.c1
    rw [hl] at f0
    rw [hn] at f1
    have f2 := HW.out.u (k + j) (by omega)
    have f4 := HW.out.uf (k + j) (by omega)
    by_cases hlt : k < n
    · have f3 := HW.out.v k (by omega)
      have hv1 := rdb hv (k : Int)
      obtain ⟨C, w3⟩ : ∃ C, IntKind.u64.wrap (c + IntKind.u64.wrap (q * rd vs (k : Int))) = C := ⟨_, rfl⟩
      have hC0 : 0 ≤ C := by rw [← w3, IntKind.wrap_u64]; omega
      have hC1 : C ≤ 18446744073709551615 := by rw [← w3, IntKind.wrap_u64]; omega
      have HC : Aside0 (q < 4294967296 → c + q * rd vs (k : Int) = C) := ⟨fun h => by
        have := (mul_lt_sq hq0 (show q ≤ 4294967297 by omega) hv1.1 hv1.2).1
        have := mul_lt_sq2 hq0 h hv1.1 hv1.2 hc1
        rw [← w3, IntWalk.u64_in (q * rd vs (k : Int)) (by omega), IntWalk.u64_in _ (by omega)]⟩
      obtain ⟨p, s, hs⟩ : ∃ p s, sb32 (rd us' ((k + j : Nat) : Int)) (C % 4294967296) d = (p, s) := ⟨_, _, rfl⟩
      obtain ⟨hO2, s0, s1⟩ := HO.out.step hu hd0 hd1 hs
      have HO2 := Aside0.mk hO2
      have HL2 := Aside0.mk (fun h : q < 4294967296 => ((HL.out h).step (by omega) (by omega) hu hv (HC.out h) hd0 hd1 hs).1)
      clear hO2
      have HV : ∀ v : Nat, Aside0 (WS (wr.drewN v) Wb gu gv cu cv us' vs) := fun v => ⟨HW.out.drewN v⟩
      generalize rd us' ((k + j : Nat) : Int) = u at *
      generalize rd vs (k : Int) = v at *
      have w1 : IntKind.u64.wrap v = v := IntWalk.u64_in _ (by omega)
      have e1 : IntKind.i64.wrap ((k : Int) + (j : Int)) = (k : Int) + (j : Int) := IntWalk.i64_in _ (by omega)
      have e2 : ((k : Int) + (j : Int)).toNat = k + j := by omega
      have l1 : (0 : Int) ≤ (k : Int) + (j : Int) := by omega
      have l2 : (k : Int) + (j : Int) < (us.length : Int) := by omega
      go_wp2
      go_region_law ((go_simp; go_at_call 127; refine (bits_Sub32_any _ _ _ p s _ hs).mono ?_; rintro e w3 ⟨rfl, rfl⟩))
      all_goals go_wp2
      all_goals exact ⟨⟨k + 1, _, _, us'.set (k + j) p, rfl, rfl, rfl, by omega, by omega, by omega, by omega, by omega, by rw [List.length_set]; exact hl, HO2, HL2, ⟨(HW.out.set hWb _ _).drewN 1⟩, ⟨HK.out.trans ((Kw.set _ _ _ _).trans (Kw.drewN _ _ 1))⟩⟩, by show n - ((k : Int) + 1).toNat < n - (k : Int).toNat; omega⟩
    · obtain ⟨p, s, hs⟩ : ∃ p s, sb32 (rd us' ((k + j : Nat) : Int)) c d = (p, s) := ⟨_, _, rfl⟩
      obtain rfl : k = n := by omega
      have HE := Aside0.mk (And.intro (HO.out.last hu hc0 hc1 hd0 hd1 hs) (fun h : q < 4294967296 => ((HL.out h).last (by omega) hn.symm hu hc0 hc1 hd0 hd1 hs).2.2.2.1))
      have hcm : IntKind.u32.wrap c = c := IntWalk.u32_in _ (by omega)
      generalize rd us' ((k + j : Nat) : Int) = u at *
      have e1 : IntKind.i64.wrap ((j : Int) + (k : Int)) = (j : Int) + (k : Int) := IntWalk.i64_in _ (by omega)
      have e2 : ((j : Int) + (k : Int)).toNat = k + j := by omega
      have l1 : (0 : Int) ≤ (j : Int) + (k : Int) := by omega
      have l2 : (j : Int) + (k : Int) < (us.length : Int) := by omega
      go_wp2
      obtain ⟨S, hS0, hSe⟩ : ∃ S : World → Prop, S wr.drew ∧ ∀ w', S w' → w'.cell? ⟨Wb, 0, none⟩ = some (.slice (some ⟨gu, 0, none⟩) us.length cu) ∧ w'.cell? ⟨Wb, 1, none⟩ = some (.slice (some ⟨gv, 0, none⟩) k cv) ∧ w'.cell? ⟨gu, k + j, none⟩ = some (.int .u32 u) := ⟨_, ⟨f0, f1, f2⟩, fun _ h => h⟩
      refine wp_region_TL S 32 (by kernel_rfl) ?_
      iterate 27
        refine wpTL_held (v := ?_) (by kernel_rfl) (fun _ _ _ h => h) hS0 (Or.inl ⟨by rfl, fun w' hw' => ?_⟩) ?_
        rotate_left 1
        · obtain ⟨s1, s2, s3⟩ := hSe _ hw'
          go_simp
          try with_reducible rfl
        simp only [Act.put, List.setIfInBounds_toArray, List.set_cons_zero, List.set_cons_succ, Nat.reduceAdd]
      refine wpTL_run (by kernel_rfl) (fun K hK => ?_)
      go_simp
      go_at_call 127
      refine (bits_Sub32_any _ _ _ p s _ hs).mono ?_
      rintro e w3 ⟨rfl, rfl⟩
      refine hK _ _ (fun _ => hS0) ?_
      clear hK K
      simp only [Act.put, List.setIfInBounds_toArray, List.set_cons_zero, List.set_cons_succ, Nat.reduceAdd]
      iterate 2
        refine wpTL_held (v := ?_) (by kernel_rfl) (fun _ _ _ h => h) hS0 (Or.inl ⟨by rfl, fun w' hw' => ?_⟩) ?_
        rotate_left 1
        · obtain ⟨s1, s2, s3⟩ := hSe _ hw'
          go_simp
          try with_reducible rfl
        simp only [Act.put, List.setIfInBounds_toArray, List.set_cons_zero, List.set_cons_succ, Nat.reduceAdd]
      refine wpTL_pure (v := ?_) (by kernel_rfl) (fun _ _ _ h => h) (fun _ => hS0) (Or.inl ⟨by rfl, fun w' _ => ?_⟩) ?_
      rotate_left 1
      · go_simp
        try with_reducible rfl
      simp only [Act.put, List.setIfInBounds_toArray, List.set_cons_zero, List.set_cons_succ, Nat.reduceAdd]
      iterate 1
        refine wpTL_held (v := ?_) (by kernel_rfl) (fun _ _ _ h => h) hS0 (Or.inl ⟨by rfl, fun w' hw' => ?_⟩) ?_
        rotate_left 1
        · obtain ⟨s1, s2, s3⟩ := hSe _ hw'
          go_simp
          try with_reducible rfl
        simp only [Act.put, List.setIfInBounds_toArray, List.set_cons_zero, List.set_cons_succ, Nat.reduceAdd]
      refine wpTL_run (by kernel_rfl) (fun K hK => ?_)
      go_simp
      refine hK _ _ (stored (by kernel_rfl)) ?_
      clear hK K
      simp only [Act.put, List.setIfInBounds_toArray, List.set_cons_zero, List.set_cons_succ, Nat.reduceAdd]
      refine wpTL_pure (v := ?_) (by kernel_rfl) (fun _ _ _ h => h) (stored (by kernel_rfl)) (Or.inl ⟨by rfl, fun w' _ => ?_⟩) ?_
      rotate_left 1
      · go_simp
        try with_reducible rfl
      simp only [Act.put, List.setIfInBounds_toArray, List.set_cons_zero, List.set_cons_succ, Nat.reduceAdd]
      refine wpTL_end (by kernel_rfl) ?_
      go_wp2
      go_ret
      obtain ⟨⟨a1, a2, a3, a5, a6⟩, a4⟩ := HE.out
      exact ⟨s, _, rfl, (HW.out.set hWb _ _).drewN 1, HK.out.trans ((Kw.set _ _ _ _).trans (Kw.drewN _ _ 1)), a1, a2, a3, a4, a5, a6⟩
end Go.Proofs.Ytlifengbicpppaa.G
end
section
namespace Go.Proofs.Ytlifengbicpppaa.G
open Go.RowKit Go.Proofs.YtlifengbicpppaaW.PrintWords Go.Proofs.YtlifengbicpppaaW.PrintLast Go.Proofs.YtlifengbicpppaaW.PrintMore
open Go.Proofs.Ytlifengbicpppaa.Num
set_option maxHeartbeats 4000000 in
set_option maxRecDepth 100000 in
theorem back_any (Wb gu gv cu cv : Nat) (us vs : List Int) (j n : Nat) (V : World) (hW : WS V Wb gu gv cu cv us vs) (hWb : Wb ≠ gu) (hn : vs.length = n) (hj : j + n < us.length) (hu : Dg 4294967296 us) (hv : Dg 4294967296 vs) :
    Calls Try.prog 140 #[.pointer (some ⟨Wb, 0, none⟩), .int .i64 j] V fun e w' => ∃ (us' : List Int) (c : Int), e = .returned (.tuple #[]) ∧ WS w' Wb gu gv cu cv us' vs ∧ Kw gu V w' ∧
      us'.length = us.length ∧ Dg 4294967296 us' ∧ (∀ i, (i < j ∨ j + n + 1 ≤ i) → us'[i]? = us[i]?) ∧
      (win us' j (n + 1) : Int) + ((4294967296 ^ (n + 1) : Nat) : Int) * c = (win us j (n + 1) : Int) + (val 4294967296 vs : Int) ∧ 0 ≤ c := by
  have hum := hW.rv.2.1
  have hul := hW.um
  rw [hn] at hum
  have f0 := hW.c0
  have f1 := hW.c1
  rw [hn] at f1
  go_enter Try.func140, Try.ntmps140
  go_wp2
  go_loopw [4, 12, 5, 6] (fun b i _ _ wr => ∃ (k : Nat) (d : Int) (us' : List Int), b = .int .u32 d ∧ i = .int .i64 k ∧ k ≤ n ∧ 0 ≤ d ∧ d ≤ 1 ∧ us'.length = us.length ∧ Aside0 (BI us vs us' j k d) ∧ Aside0 (WS wr Wb gu gv cu cv us' vs) ∧ Aside0 (Kw gu V wr)) (fun _ i _ _ _ => n - (intOf i).toNat)
  case atStart => exact ⟨0, 0, us, rfl, rfl, Nat.zero_le _, by omega, by omega, rfl, ⟨BI.zero hu j⟩, ⟨hW⟩, ⟨Kw.refl _ _⟩⟩
  case round =>
    obtain ⟨k, d, us', rfl, rfl, hk, hd0, hd1, hl, HL, HW, HK⟩ := hrel
    clear f0 f1
    have f0 := HW.out.c0
    have f1 := HW.out.c1
    rw [hl] at f0
    rw [hn] at f1
    have f2 := HW.out.u (k + j) (by omega)
    have f4 := HW.out.uf (k + j) (by omega)
    by_cases hlt : k < n
    · have f3 := HW.out.v k (by omega)
      obtain ⟨p, s, hs⟩ : ∃ p s, ad32 (rd us' ((k + j : Nat) : Int)) (rd vs (k : Int)) d = (p, s) := ⟨_, _, rfl⟩
      obtain ⟨hL2, s0, s1, p0, p1⟩ := HL.out.step (by omega) (by omega) hu hv hd0 hd1 hs
      have HL2 := Aside0.mk hL2
      clear hL2
      generalize rd us' ((k + j : Nat) : Int) = u at *
      generalize rd vs (k : Int) = v at *
      have e1 : IntKind.i64.wrap ((k : Int) + (j : Int)) = (k : Int) + (j : Int) := IntWalk.i64_in _ (by omega)
      have e2 : ((k : Int) + (j : Int)).toNat = k + j := by omega
      have l1 : (0 : Int) ≤ (k : Int) + (j : Int) := by omega
      have l2 : (k : Int) + (j : Int) < (us.length : Int) := by omega
      go_wp2
      have HA := Aside0.mk (fun W => bits_Add32.calls u v d p s W (by rw [ad32_eval, hs]))
      go_region_law ((go_simp; go_at_call 128; refine (HA.out _).mono ?_; rintro e w3 ⟨rfl, n3, rfl⟩))
      all_goals go_wp2
      all_goals
        refine ⟨⟨k + 1, _, us'.set (k + j) p, rfl, rfl, by omega, by omega, by omega, by rw [List.length_set]; exact hl, HL2, ?_, ?_⟩, by show n - ((k : Int) + 1).toNat < n - (k : Int).toNat; omega⟩
        · first
            | exact ⟨(HW.out.drewN _).set hWb _ _⟩
            | exact ⟨((HW.out.drewN _).set hWb _ _).drewN 1⟩
            | exact ⟨((HW.out.drewN _).set hWb _ _).drewN _⟩
        · first
            | exact ⟨HK.out.trans ((Kw.drewN _ _ _).trans (Kw.set _ _ _ _))⟩
            | exact ⟨HK.out.trans ((Kw.drewN _ _ _).trans ((Kw.set _ _ _ _).trans (Kw.drewN _ _ 1)))⟩
            | exact ⟨HK.out.trans ((Kw.drewN _ _ _).trans ((Kw.set _ _ _ _).trans (Kw.drewN _ _ _)))⟩
    · obtain rfl : k = n := by omega
      have HE := Aside0.mk (HL.out.last (by omega) hn.symm hu hd0 rfl)
      have e1 : IntKind.i64.wrap ((j : Int) + (k : Int)) = (j : Int) + (k : Int) := IntWalk.i64_in _ (by omega)
      have e2 : ((j : Int) + (k : Int)).toNat = k + j := by omega
      have l1 : (0 : Int) ≤ (j : Int) + (k : Int) := by omega
      have l2 : (j : Int) + (k : Int) < (us.length : Int) := by omega
      generalize rd us' ((k + j : Nat) : Int) = u at *
      go_wp2
      go_region
      all_goals go_wp2
      all_goals
        go_end0
        obtain ⟨a1, a2, a3, c, a4, a5⟩ := HE.out
        exact ⟨_, c, rfl, (HW.out.set hWb _ _).drewN 1, HK.out.trans ((Kw.set _ _ _ _).trans (Kw.drewN _ _ 1)), a1, a2, a3, a4, a5⟩
end Go.Proofs.Ytlifengbicpppaa.G
end
section
namespace Go.Proofs.Ytlifengbicpppaa.G
open Go.RowKit Go.Proofs.YtlifengbicpppaaW.PrintWords Go.Proofs.YtlifengbicpppaaW.PrintLast Go.Proofs.YtlifengbicpppaaW.PrintMore
open Go.Proofs.Ytlifengbicpppaa.Num
theorem top_le {us vs : List Int} {j m : Nat} (hn : vs.length = m + 1) (hj : j + m + 1 < us.length) (hu : Dg 4294967296 us) (hv : Dg 4294967296 vs)
    (hlt : (win us (j + 1) (m + 1) : Int) < (val 4294967296 vs : Int)) : rd us (j + m + 1 : Nat) ≤ rd vs m := by
  have h1 := win_top us (j + 1) m (by omega) hu
  have h2 := win_top vs 0 m (by omega) hv
  have h3 := win_lti hv 0 m
  have hV : (val 4294967296 vs : Int) = (win vs 0 (m + 1) : Int) := by rw [win_all vs 0 (m + 1) (by omega), List.drop_zero]
  rw [Nat.zero_add] at h2
  rw [show j + 1 + m = j + m + 1 by omega] at h1
  have p0 := pw_pos m
  have h : rd us ((j + m + 1 : Nat) : Int) * ((4294967296 ^ m : Nat) : Int) < (rd vs ((m : Nat) : Int) + 1) * ((4294967296 ^ m : Nat) : Int) := by
    have h0 : 0 ≤ (win us (j + 1) m : Int) := by omega
    grind
  have := mul_lt_cancel p0 h
  omega
theorem digit_done {W W1 V q t r M b : Int} (hW : W = t * V + r) (h0 : 0 ≤ r) (h1 : r < V) (hq : q = t ∨ q = t + 1) (h : W1 + q * V = W + M * b) (hb : b = 0 ∨ b = 1) (hM : W1 < M) (h2 : 0 ≤ W1) :
    (b = 0 ∧ q = t ∧ W1 = r) ∨ (b = 1 ∧ q = t + 1 ∧ W1 + V = r + M) := by
  rcases hb with rfl | rfl
  · rcases hq with rfl | rfl
    · left; refine ⟨rfl, rfl, ?_⟩; grind
    · exfalso; grind
  · rcases hq with rfl | rfl
    · exfalso; grind
    · right; refine ⟨rfl, rfl, ?_⟩; grind
set_option maxHeartbeats 4000000 in
set_option maxRecDepth 100000 in
theorem step_any (Wb gu gv cu cv : Nat) (us vs : List Int) (j m : Nat) (V : World) (hW : WS V Wb gu gv cu cv us vs) (hWb : Wb ≠ gu) (hn : vs.length = m + 1) (hj : j + m + 1 < us.length) (hu : Dg 4294967296 us) (hv : Dg 4294967296 vs)
    (hf : 2147483648 ≤ rd vs m) :
    Calls Try.prog 118 #[.pointer (some ⟨Wb, 0, none⟩), .int .i64 j] V fun e w' => ∃ (t : Int) (us' : List Int), e = .returned (.int .u32 t) ∧ 0 ≤ t ∧ t < 4294967296 ∧ WS w' Wb gu gv cu cv us' vs ∧ Kw gu V w' ∧
      us'.length = us.length ∧ Dg 4294967296 us' ∧ (∀ i, (i < j ∨ j + m + 2 ≤ i) → us'[i]? = us[i]?) ∧
      ((win us (j + 1) (m + 1) : Int) < (val 4294967296 vs : Int) → (win us j (m + 2) : Int) = t * (val 4294967296 vs : Int) + (win us' j (m + 2) : Int) ∧ (win us' j (m + 2) : Int) < (val 4294967296 vs : Int)) := by
  have hG := Aside0.mk (guess_any Wb gu gv cu cv us vs j m V hW hn hj hu hv hf)
  have hVM : (val 4294967296 vs : Int) ≤ ((4294967296 ^ (m + 2) : Nat) : Int) := by
    have := val_lt hv
    rw [hn] at this
    have h2 : 4294967296 ^ (m + 1) ≤ 4294967296 ^ (m + 2) := Nat.pow_le_pow_right (by decide) (by omega)
    omega
  have HH := Aside0.mk (And.intro hf hVM)
  clear hf hVM
  go_enter Try.func118, Try.ntmps118
  go_wp2_with (go_at_call 138; refine hG.out.mono ?_; rintro e w1 ⟨q, rfl, hq0, hq1, hgq, n1, rfl⟩; have HQ := Aside0.mk hgq; clear hgq hG)
  refine (less_any Wb gu gv cu cv us vs j (m + 1) q _ (hW.drewN n1) hWb hn (by omega) hu hv hq0).mono ?_
  rintro e w2 ⟨b, us1, rfl, hW1, hK1, hl1, hd1, ho1, hs1, hb0, hb1⟩
  have hM := win_lti hd1 j (m + 2)
  have hK0 : Kw gu V w2 := (Kw.drewN gu V n1).trans hK1
  have HR : Aside0 ((win us (j + 1) (m + 1) : Int) < (val 4294967296 vs : Int) → ∃ t r : Int, 0 ≤ t ∧ t < 4294967296 ∧ (win us j (m + 2) : Int) = t * (val 4294967296 vs : Int) + r ∧ 0 ≤ r ∧ r < (val 4294967296 vs : Int) ∧
      ((b = 0 ∧ q = t ∧ (win us1 j (m + 2) : Int) = r) ∨ (b = 1 ∧ q = t + 1 ∧ (win us1 j (m + 2) : Int) + (val 4294967296 vs : Int) = r + ((4294967296 ^ (m + 2) : Nat) : Int)))) := ⟨fun hlt => by
    obtain ⟨hf, hVM⟩ := HH.out
    obtain ⟨g1, g2⟩ := HQ.out (top_le hn hj hu hv hlt)
    obtain ⟨t, r, t0, t1, tW, r0, r1, tq⟩ := guess_right hn hj hu hv hf hlt g1 g2
    exact ⟨t, r, t0, t1, tW, r0, r1, digit_done tW r0 r1 tq (hs1 g1.2.1) (by omega) hM (by omega)⟩⟩
  by_cases hb : b = 0
  · have H := Aside0.mk (And.intro hW1 (And.intro hK0 (And.intro hl1 (And.intro hd1 ho1))))
    clear hW1 hK1 hK0 hl1 hd1 ho1 hs1 HH HQ hM hW hu hv
    subst hb
    go_wp2
    go_ret
    obtain ⟨a1, a2, a3, a4, a5⟩ := H.out
    refine ⟨q % 4294967296, us1, ?_, by omega, by omega, a1, a2, a3, a4, a5, fun hlt => ?_⟩
    · simp
    · obtain ⟨t, r, t0, t1, tW, r0, r1, (⟨_, rfl, h⟩ | ⟨h, _⟩)⟩ := HR.out hlt
      · rw [h, Int.emod_eq_of_lt t0 t1]; exact ⟨tW, r1⟩
      · omega
  · obtain rfl : b = 1 := by omega
    have H := Aside0.mk (And.intro hW1 (And.intro hK0 (And.intro hl1 (And.intro hd1 ho1))))
    have HB := Aside0.mk (back_any Wb gu gv cu cv us1 vs j (m + 1) w2 hW1 hWb hn (by omega) hd1 hv)
    clear hW1 hK1 hK0 hl1 hd1 ho1 hs1 HQ hM hW hu hv
    go_wp2_with (go_at_call 140; refine HB.out.mono ?_; rintro e w3 ⟨us2, c, rfl, h2⟩; have H2 := Aside0.mk h2; clear h2 HB)
    go_ret
    obtain ⟨a1, a2, a3, a4, a5⟩ := H.out
    obtain ⟨b1, b2, b3, b4, b5, b6, b7⟩ := H2.out
    have hM := win_lti b4 j (m + 2)
    refine ⟨(q - 1) % 18446744073709551616 % 4294967296, us2, ?_, by omega, by omega, b1, a2.trans b2, b3.trans a3, b4, fun i hi => (b5 i (by omega)).trans (a5 i (by omega)), fun hlt => ?_⟩
    · simp [IntKind.wrap_u64]
    obtain ⟨t, r, t0, t1, a6, r0, a9, (⟨h, _⟩ | ⟨_, rfl, a7⟩)⟩ := HR.out hlt
    · omega
    have hfin : (win us2 j (m + 2) : Int) = r := by
      rw [show m + 1 + 1 = m + 2 by omega] at b6
      have hVM := HH.out.2
      have h1 : c = 1 := by
        have hw0 : 0 ≤ (win us2 j (m + 2) : Int) := by omega
        have hMp := pw_pos (m + 2)
        generalize ((4294967296 ^ (m + 2) : Nat) : Int) = M at *
        rcases Int.lt_trichotomy c 1 with h | h | h
        · have : c = 0 := by omega
          subst this
          rw [Int.mul_zero] at b6
          omega
        · exact h
        · have : M * 2 ≤ M * c := Int.mul_le_mul_of_nonneg_left (by omega) (by omega)
          omega
      subst h1
      rw [Int.mul_one] at b6
      omega
    rw [hfin, show (t + 1 - 1) % 18446744073709551616 % 4294967296 = t by omega]
    exact ⟨a6, a9⟩
end Go.Proofs.Ytlifengbicpppaa.G
end
section
namespace Go.Proofs.Ytlifengbicpppaa.G
open Go.RowKit Go.Proofs.YtlifengbicpppaaW.PrintWords Go.Proofs.YtlifengbicpppaaW.PrintLast Go.Proofs.YtlifengbicpppaaW.PrintMore
open Go.Proofs.Ytlifengbicpppaa.Num
theorem win_split (us : List Int) (a : Nat) : ∀ b, a + b ≤ us.length → win us 0 (a + b) = win us 0 a + 4294967296 ^ a * win us a b
  | 0, _ => by rw [win_zero]; simp
  | b + 1, h => by
    rw [← Nat.add_assoc, win_succ us 0 (a + b) (by omega), win_split us a b (by omega), win_succ us a b (by omega), Nat.zero_add, Nat.mul_add, Nat.pow_add, Nat.mul_assoc, Nat.add_assoc]
theorem val_win (l : List Int) : val 4294967296 l = win l 0 l.length := by rw [win_all l 0 _ (by omega), List.drop_zero]
theorem val_set (qs : List Int) (j : Nat) (t : Int) (hj : j < qs.length) (h0 : rd qs (j : Nat) = 0) : val 4294967296 (qs.set j t) = val 4294967296 qs + 4294967296 ^ j * t.toNat := by
  obtain ⟨n, hn⟩ : ∃ n, qs.length = j + (n + 1) := ⟨qs.length - j - 1, by omega⟩
  rw [val_win, val_win, List.length_set, hn, win_split _ _ _ (by simp; omega), win_split _ _ _ (by omega), win_low _ n j (by simp; omega), win_low _ n j (by omega), rd_set _ _ _ hj, h0,
    win_congr (us' := qs.set j t) (us := qs) (j := 0) (n := j) (fun i _ hi => by rw [List.getElem?_set_ne (by omega)]),
    win_congr (us' := qs.set j t) (us := qs) (j := j + 1) (n := n) (fun i hi _ => by rw [List.getElem?_set_ne (by omega)])]
  simp only [Int.toNat_zero, Nat.zero_add, Nat.mul_add]
  omega
/-- k limbs of the quotient are there. -/
structure ST (us vs us' qs : List Int) (m N k : Nat) : Prop where
  sum : (win us 0 (N + m + 1) : Int) = (val 4294967296 qs : Int) * (val 4294967296 vs : Int) + (win us' 0 (N - k + (m + 1)) : Int)
  lt : (win us' (N - k) (m + 1) : Int) < (val 4294967296 vs : Int)
  zero : ∀ i, i < N - k → rd qs (i : Nat) = 0
  top : 1 ≤ k → rd us' ((N - k + (m + 1) : Nat) : Int) = 0
theorem ST.start {us vs : List Int} {m N : Nat} (h : (win us N (m + 1) : Int) < (val 4294967296 vs : Int)) : ST us vs us (List.replicate N 0) m N 0 := by
  refine ⟨?_, by rw [Nat.sub_zero]; exact h, fun i _ => ?_, fun h => by omega⟩
  · rw [val_zeros, Nat.sub_zero, ← Nat.add_assoc]; simp
  · simp only [rd, List.getD_eq_getElem?_getD, List.getElem?_replicate]
    split <;> rfl
theorem ST.step {us vs us' us'' qs : List Int} {m N k : Nat} {t : Int} (h : ST us vs us' qs m N k) (hk : k < N) (hl : us'.length = N + m + 1) (hl2 : us''.length = us'.length) (hq : qs.length = N) (hvl : vs.length = m + 1)
    (hd : Dg 4294967296 us'') (hv : Dg 4294967296 vs) (ht0 : 0 ≤ t) (ho : ∀ i, (i < N - 1 - k ∨ N - 1 - k + m + 2 ≤ i) → us''[i]? = us'[i]?)
    (hs : (win us' (N - 1 - k + 1) (m + 1) : Int) < (val 4294967296 vs : Int) → (win us' (N - 1 - k) (m + 2) : Int) = t * (val 4294967296 vs : Int) + (win us'' (N - 1 - k) (m + 2) : Int) ∧ (win us'' (N - 1 - k) (m + 2) : Int) < (val 4294967296 vs : Int)) :
    ST us vs us'' (qs.set (N - 1 - k) t) m N (k + 1) := by
  obtain ⟨j, hj⟩ : ∃ j, N = j + 1 + k := ⟨N - 1 - k, by omega⟩
  subst hj
  rw [show j + 1 + k - 1 - k = j by omega] at hs ho ⊢
  obtain ⟨h1, h2, h3, -⟩ := h
  rw [show j + 1 + k - k = j + 1 by omega] at h1 h2 h3
  obtain ⟨e1, e2⟩ := hs h2
  have hV := val_lt hv
  rw [hvl] at hV
  have hV' : (val 4294967296 vs : Int) < ((4294967296 ^ (m + 1) : Nat) : Int) := by omega
  have hp := pw_pos (m + 1)
  have ht : (win us'' j (m + 2) : Int) = (win us'' j (m + 1) : Int) + ((4294967296 ^ (m + 1) : Nat) : Int) * rd us'' ((j + (m + 1) : Nat) : Int) := win_top us'' j (m + 1) (by omega) hd
  have hw0 : 0 ≤ (win us'' j (m + 1) : Int) := by omega
  have hrb := rdb hd ((j + (m + 1) : Nat) : Int)
  have htop : rd us'' ((j + (m + 1) : Nat) : Int) = 0 := by
    by_cases h : rd us'' ((j + (m + 1) : Nat) : Int) = 0
    · exact h
    · exfalso
      have := Int.mul_le_mul_of_nonneg_left (show (1 : Int) ≤ rd us'' ((j + (m + 1) : Nat) : Int) by omega) (Int.le_of_lt hp)
      omega
  rw [htop, Int.mul_zero, Int.add_zero] at ht
  refine ⟨?_, ?_, fun i hi => ?_, fun _ => ?_⟩
  · rw [val_set qs j t (by omega) (h3 j (by omega)), show j + 1 + k - (k + 1) = j by omega]
    rw [show j + 1 + (m + 1) = j + (m + 2) by omega, win_split us' j (m + 2) (by omega)] at h1
    rw [h1, win_split us'' j (m + 1) (by omega), win_congr (us' := us'') (us := us') (j := 0) (n := j) (fun i _ hi => ho i (by omega))]
    simp only [Int.natCast_add, Int.natCast_mul, Int.toNat_of_nonneg ht0]
    rw [e1, ht]
    generalize ((4294967296 ^ j : Nat) : Int) = b
    generalize (win us'' j (m + 1) : Int) = r
    generalize (val 4294967296 vs : Int) = V
    clear hs ho e1 e2 h1 h2 h3 hV hV' hw0 hp ht htop hrb hd hv
    grind
  · rw [show j + 1 + k - (k + 1) = j by omega, ← ht]; exact e2
  · by_cases hij : i = j
    · omega
    · have : rd (qs.set j t) ((i : Nat) : Int) = rd qs ((i : Nat) : Int) := by simp [rd, List.getD_eq_getElem?_getD, List.getElem?_set_ne (show j ≠ i by omega)]
      rw [this]
      exact h3 i (by omega)
  · rw [show j + 1 + k - (k + 1) = j by omega]; exact htop
end Go.Proofs.Ytlifengbicpppaa.G
end
section
namespace Go.Proofs.Ytlifengbicpppaa.G
open Go.RowKit Go.Shelf Go.Proofs.YtlifengbicpppaaW.PrintWords Go.Proofs.YtlifengbicpppaaW.PrintLast Go.Proofs.YtlifengbicpppaaW.PrintMore
open Go.Proofs.Ytlifengbicpppaa.Num
attribute [local go_sem] Oper.semAt_some
abbrev Pl (N : Nat) := { x : Nat // x < N }
def encP {N : Nat} (x : Pl N) : Array Value := #[.int .i64 (x.1 : Int)]
/-- What has come when k rounds are over. -/
def down (N k : Nat) : List Nat := (List.range k).map (fun i => N - 1 - i)
theorem down_succ (N k : Nat) : down N (k + 1) = down N k ++ [N - 1 - k] := by simp [down, List.range_succ]
theorem down_length (N k : Nat) : (down N k).length = k := by simp [down]
/-- What the loop's body keeps: the iterator's variable. -/
def KpP (_ _ : World) : Prop := True
set_option maxHeartbeats 1000000 in
theorem places_any (A : Addr) (w : World) :
    Calls Try.prog 119 #[.pointer (some A)] w fun e w' => e = .returned (.func (.func 141) #[] #[.pointer (some ⟨w.heap.size, 0, none⟩)]) ∧ w' = w.alloc (.cells #[.pointer (some A)] 139) := by
  go_enter Try.func119, Try.ntmps119
  go_wp2
  go_ret
  exact ⟨rfl, rfl⟩
set_option maxHeartbeats 4000000 in
set_option maxRecDepth 100000 in
theorem places1_in (l B Wb gu gv cu cv nu nv N : Nat)
    (hNu : nu ≤ 9223372036854775807) (hNn : nu = nv + N) (J Jx : List (Pl N) → World → Prop)
    (hY : ∀ pre x W, J pre W → pre.length < N → YieldAt Fence.wide 1 Try.prog l (encP x) W fun e W' =>
      (e = .returned (.bool true) ∧ J (pre ++ [x]) W' ∧ KpP W W') ∨ (e = .returned (.bool false) ∧ Jx (pre ++ [x]) W'))
    (W : World) (hJ : AbidesFrom W.heap.size J)
    (hB0 : W.heap[B]? = some (.cells #[.pointer (some ⟨Wb, 0, none⟩)] 139 (0, 0)))
    (hu : W.cell? ⟨Wb, 0, none⟩ = some (.slice (some ⟨gu, 0, none⟩) nu cu)) (hv : W.cell? ⟨Wb, 1, none⟩ = some (.slice (some ⟨gv, 0, none⟩) nv cv)) (h0 : J [] W) :
    CallsIn Fence.wide 2 Try.prog 141 #[.func (.yield l) #[] #[], .pointer (some ⟨B, 0, none⟩)] W fun e W' => (∃ v, e = .returned v) ∧
      ((∃ zs, zs.map Subtype.val = down N N ∧ J zs W') ∨ (∃ pre, (∃ k, k ≤ N ∧ pre.map Subtype.val = down N k) ∧ Jx pre W')) := by
  have cB0 : W.cell? ⟨B, 0, none⟩ = some (.pointer (some ⟨Wb, 0, none⟩)) := by simp [World.cell?, hB0]
  have e1 : IntKind.i64.wrap ((nu : Int) - (nv : Int)) = (N : Int) := by rw [IntWalk.i64_in _ (by omega)]; omega
  have e2 : IntKind.i64.wrap ((N : Int) - 1) = (N : Int) - 1 := IntWalk.i64_in _ (by omega)
  have HN := Aside0.mk hNn
  clear hNn hB0
  have HJ0 := Aside0.mk h0
  have HJJ := Aside0.mk hJ
  have HY := Aside0.mk hY
  clear h0 hJ hY
  refine callsIn_of_wp Try.func141 rfl trivial ?_ rfl
  simp only [Try.ntmps141, List.size_toArray, List.length_cons, List.length_nil, Nat.reduceAdd, Nat.reduceSub, Array.replicate_succ, Array.replicate_zero, List.push_toArray, List.append_toArray, List.nil_append, List.cons_append]
  gi_wp2
  refine wpIn_wide.2 ?_
  go_quiet (fail)
  gi_wp2
  gi_loopw [3] (fun i wr => ∃ (k : Nat) (pr : List (Pl N)), k ≤ N ∧ i = .int .i64 ((N : Int) - 1 - (k : Int)) ∧ Aside0 (pr.map Subtype.val = down N k) ∧ Aside0 (pr.length = k) ∧ Aside0 (J pr wr)) (fun i _ => (intOf i + 1).toNat)
  case atStart => exact ⟨0, [], Nat.zero_le _, by simp, ⟨rfl⟩, ⟨rfl⟩, ⟨HJJ.out _ _ _ none HJ0.out ⟨rfl, rfl, rfl, Nat.le_refl _, fun _ _ _ => rfl⟩ (by simp)⟩⟩
  case round =>
    obtain ⟨k, pr, hk, rfl, HP, HL, HJ⟩ := hrel
    have hNm : N ≤ 9223372036854775807 := by have := HN.out; omega
    by_cases hlt : k < N
    · have hY := HY.out pr ⟨N - 1 - k, by omega⟩ wr HJ.out (by rw [HL.out]; exact hlt)
      have ew : IntKind.i64.wrap ((N : Int) - 1 - (k : Int) - 1) = (N : Int) - 1 - ((k + 1 : Nat) : Int) := by rw [IntWalk.i64_in _ (by omega)]; omega
      have ex : ((N - 1 - k : Nat) : Int) = (N : Int) - 1 - (k : Int) := by omega
      have hge : (0 : Int) ≤ (N : Int) - 1 - (k : Int) := by omega
      obtain ⟨fn, tmps, assign, body, hy, hR⟩ := hY
      dsimp only [encP] at hy
      rw [ex] at hy
      clear ex
      gi_wp2
      refine hR.mono ?_
      clear hR hy
      rintro e W3 (⟨rfl, hJ3, -⟩ | ⟨rfl, hJx3⟩)
      · have HJ3 := Aside0.mk hJ3
        clear hJ3
        gi_wp2
        go_roundw
        case rel => exact ⟨k + 1, _, by omega, rfl, ⟨by rw [List.map_append, HP.out, down_succ]; rfl⟩, ⟨by rw [List.length_append, HL.out]; rfl⟩, HJ3⟩
        case measure => simp only [intOf]; omega
      · have HJ3 := Aside0.mk hJx3
        clear hJx3
        gi_wp2
        refine bodyPost_ret (results_none rfl _ _ _) rfl ?_
        exact ⟨⟨_, rfl⟩, .inr ⟨_, ⟨k + 1, by omega, by rw [List.map_append, HP.out, down_succ]; rfl⟩, HJ3.out⟩⟩
    · have hge : ¬ (k : Int) ≤ (N : Int) - 1 := by omega
      gi_wp2
      go_end0
      obtain rfl : k = N := by omega
      exact ⟨⟨_, rfl⟩, .inl ⟨_, HP.out, HJ.out⟩⟩
/-- places' answer, as an iterator. -/
theorem places_stops (B Wb gu gv cu cv nu nv N : Nat) (hNu : nu ≤ 9223372036854775807) (hNn : nu = nv + N) (w : World)
    (hB0 : w.heap[B]? = some (.cells #[.pointer (some ⟨Wb, 0, none⟩)] 139 (0, 0)))
    (hu : w.cell? ⟨Wb, 0, none⟩ = some (.slice (some ⟨gu, 0, none⟩) nu cu)) (hv : w.cell? ⟨Wb, 1, none⟩ = some (.slice (some ⟨gv, 0, none⟩) nv cv)) :
    SeqStopsK Fence.wide 2 Try.prog 141 #[.pointer (some ⟨B, 0, none⟩)] (encP (N := N)) KpP (fun zs => zs.map Subtype.val = down N N) (fun pre => ∃ k, k ≤ N ∧ pre.map Subtype.val = down N k) N w := fun l J Jx W hW hJ _ hY h0 =>
  places1_in l B Wb gu gv cu cv nu nv N hNu hNn J Jx hY W hJ ((hW.block B (Array.getElem?_eq_some_iff.1 hB0).1).trans hB0)
    ((hW.cell (World.block_lt_of_cell? w _ hu)).trans hu) ((hW.cell (World.block_lt_of_cell? w _ hv)).trans hv) h0
end Go.Proofs.Ytlifengbicpppaa.G
end
section
namespace Go.Proofs.Ytlifengbicpppaa.G
open Go.RowKit Go.Proofs.YtlifengbicpppaaW.PrintWords Go.Proofs.YtlifengbicpppaaW.PrintLast Go.Proofs.YtlifengbicpppaaW.PrintMore
attribute [local go_sem] max2_int min2_int max_two min_two max_three min_three max_four min_four   -- for this text's walks alone
set_option linter.unusedVariables false
set_option linter.unusedSimpArgs false
def ratio_shifted.l0 : Nat → Int → List Int → List Int → Int → Int → Option (List Int)
  | 0, _, _, _, _, _ => none
  | k + 1, x1, x5, x12, x13, x14 => if x14 < x13 then (if 0 ≤ x14 then (if x14 < (x12.length : Int) then (if x14 < (x5.length : Int) then (if 0 ≤ x1 then (if 0 ≤ (wrap64 (x14 + 1)) then (if (wrap64 (x14 + 1)) < (x5.length : Int) then (ratio_shifted.l0 k x1 ((x5.set (x14 : Int).toNat (Go.bits .or .u32 (rd x5 x14) (shl .u32 (rd x12 x14) x1))).set ((wrap64 (x14 + 1)) : Int).toNat (((shl .u64 (IntKind.u64.wrap (rd x12 x14)) x1) / 4294967296) % 4294967296)) x12 x13 (wrap64 (x14 + 1))) else (none)) else (none)) else (none)) else (none)) else (none)) else (none)) else (some x5)
def ratio_shifted.f (k : Nat) (l0 : List Int) (a1 : Int) : Option (List Int) := if 0 ≤ (wrap64 ((l0.length : Int) + 1)) then (if (wrap64 ((l0.length : Int) + 1) : Int).toNat ≤ 70368744177664 then (ratio_shifted.l0 k a1 (List.replicate (wrap64 ((l0.length : Int) + 1) : Int).toNat 0) l0 (l0.length : Int) 0) else (none)) else (none)
def ratio_shifted.T5 : Bool × List (List Nat × List Nat) := (true, [([], []), ([], []), ([0, 1], [0, 1]), ([2], [2]), ([], []), ([], []), ([4, 5], [4, 5]), ([3, 6], [3, 6]), ([0, 1, 0, 1, 2, 3, 4, 5, 6, 7], [0, 1]), ([8, 7, 0, 1, 2, 3, 4, 5, 6, 7], [7, 8])])
def ratio_shifted.B5 : List Nat := [0, 0, 3, 7, 0, 0, 48, 127, 255, 511]
theorem ratio_shifted.tab5 : rtab .any (opsOf Try.f117 5) = ratio_shifted.T5 := by kernel_rfl
theorem ratio_shifted.bits5 : waitsOk ratio_shifted.T5.2 ratio_shifted.B5 = true := by kernel_rfl
set_option maxHeartbeats 8000000 in
set_option maxRecDepth 100000 in
theorem ratio_shifted.calls (k : Nat) (A0 : Option Addr) (c0 : Nat) (l0 : List Int) (a1 : Int) (r : List Int) (w : World) (hr0 : Kd.C (Kd.int .u32) w A0 l0.length l0) (hc0 : l0.length ≤ c0) (h : ratio_shifted.f k l0 a1 = some r) :
    Calls Try.prog 117 #[.slice A0 l0.length c0, .int .i64 a1] w fun e w' => ∃ v0_ : Value, e = .returned (v0_) ∧ Kd.R (Kd.int .u32) 75 w' w.heap.size (fun _ => True) v0_ r ∧ Below w.heap.size w w' := by
  have HR0 := Aside0.mk hr0
  have HC0 := Aside0.mk hc0
  clear hr0 hc0
  have HB := Aside0.mk (Below.refl w.heap.size w)
  have H : (if 0 ≤ (wrap64 ((l0.length : Int) + 1)) then (if (wrap64 ((l0.length : Int) + 1) : Int).toNat ≤ 70368744177664 then (ratio_shifted.l0 k a1 (List.replicate (wrap64 ((l0.length : Int) + 1) : Int).toNat 0) l0 (l0.length : Int) 0) else (none)) else (none)) = some r := h
  clear h
  obtain ⟨ji3, hji3⟩ : ∃ j_ : Int, (wrap64 ((l0.length : Int) + 1)) = j_ := ⟨_, rfl⟩
  replace H : (if 0 ≤ (ji3) then (if (ji3 : Int).toNat ≤ 70368744177664 then (ratio_shifted.l0 k a1 (List.replicate (ji3 : Int).toNat 0) l0 (l0.length : Int) 0) else (none)) else (none)) = some r := by first | (rw [hji3] at H; exact H) | (simp only [hji3] at H ⊢; exact H)
  have hji3w : (IntKind.i64.wrap ((l0.length : Int) + 1)) = ji3 := (i64_w _).trans hji3
  by_cases c4 : 0 ≤ (ji3)
  · rw [if_pos c4] at H
    have c4b0 := eq_true c4
    have c4b1 : decide (0 ≤ (ji3)) = true := decide_eq_true c4
    clear c4
    by_cases c5 : (ji3 : Int).toNat ≤ 70368744177664
    · rw [if_pos c5] at H
      have c5b0 := eq_true c5
      have c5b1 : decide ((ji3 : Int).toNat ≤ 70368744177664) = true := decide_eq_true c5
      clear c5
      obtain ⟨y124, hy124⟩ : ∃ y_ : List Int, y_ = (List.replicate (ji3 : Int).toNat 0) := ⟨_, rfl⟩
      replace H : (ratio_shifted.l0 k a1 y124 l0 (l0.length : Int) 0) = some r := by first | (rw [hy124]; with_reducible exact H) | (have H2_ := (Option.bind_some _ _).symm.trans H; rw [hy124]; with_reducible exact H2_) | (have H2_ := (Option.bind_some _ _).symm.trans H; with_reducible exact H2_) | with_reducible exact H | (rw [hy124]; exact H) | exact H
      have Ny124 := Aside0.mk hy124
      clear hy124
      have H' := Aside0.mk H
      clear H
      go_enter Try.func117, Try.ntmps117
      go_wp2_with (first | ((with_reducible refine gate_dst (N := 11) rfl ?_); refine Kd.R_make (Kd.int .u32) _ 75 rfl (N := 11) rfl 45 _ _ rfl ji3 rfl rfl Try.underlying45 (.int .u32 0) 4 info75 rfl (by decide) (by omega) 0 (ok := fun _ => True) (okp := fun _ => True) rfl (fun _ hk => hk) trivial (of_decide_eq_true (by first | (with_reducible assumption) | assumption)) (Nat.le_trans (Nat.mul_le_mul_right _ (of_decide_eq_true (by first | (with_reducible assumption) | assumption) : ji3.toNat ≤ 70368744177664)) (by omega)) (Below.refl _ _) (Nat.le_refl _) ?_; intro v125 w6 ho7 hb hg_ hnew_; clear hg_ hnew_; (first | rw [← Ny124.out] at ho7 | (simp only [Int.reduceToNat] at ho7; rw [← Ny124.out] at ho7)); have n0_ := Aside0.mk (Kd.R_lower ho7 (below_size (by repeat (first | (with_reducible first | exact HB.out | apply below_alloc | apply pw_below_drewN | apply below_drew1) | exact HB.out)))); have n1_ := Aside0.mk (below_step (by repeat (first | (with_reducible first | exact HB.out | apply below_alloc | apply pw_below_drewN | apply below_drew1) | exact HB.out)) hb); clear HB; have HO126 := n0_; have HB := n1_; clear n0_ n1_; clear hb ho7))
      go_loopg [14] k (fun kq v14 w' => ∃ (x5_1 : List Int) (x14_1 : Int), v14 = .int .i64 x14_1 ∧ Aside0 (ratio_shifted.l0 kq a1 x5_1 l0 (l0.length : Int) x14_1 = some r) ∧ Aside0 (kq ≤ k) ∧ Aside0 (Kd.R (Kd.int .u32) 75 w' w.heap.size (fun _ => True) v125 x5_1) ∧ Aside0 (Below w.heap.size w w'))
      case atStart => exact ⟨(y124), (0), (by first | rfl | (simp; done) | (simp [*]; done)), H', ⟨Nat.le_refl _⟩, ⟨by (with_reducible repeat (first | apply Kd.R_alloc | apply Kd.R_drewN | apply Kd.R_drew)); exact HO126.out⟩, ⟨by repeat (first | (with_reducible first | exact HB.out | apply below_alloc | apply pw_below_drewN | apply below_drew1) | exact HB.out)⟩⟩
      case round =>
        clear H'
        try clear c1
        try clear p2
        try clear c4
        try clear c4b0
        try clear c4b1
        try clear c5
        try clear c5b0
        try clear c5b1
        try clear p6
        obtain ⟨x5_1, x14_1, rfl, HA, HK1, HO_5, HB⟩ := hrel
        cases gk with
        | zero => exact absurd HA.out (by simp [ratio_shifted.l0])
        | succ k1 =>
          have H := HA.out
          clear HA
          simp only [ratio_shifted.l0] at H
          by_cases c8 : x14_1 < (l0.length : Int)
          · rw [if_pos c8] at H
            have c8b0 : decide (x14_1 < (l0.length : Int)) = true := decide_eq_true c8
            clear c8
            by_cases c9 : 0 ≤ x14_1
            · rw [if_pos c9] at H
              have c9b0 : decide (0 ≤ x14_1) = true := decide_eq_true c9
              clear c9
              by_cases c10 : x14_1 < (l0.length : Int)
              · rw [if_pos c10] at H
                have c10b0 : decide (x14_1 < (l0.length : Int)) = true := decide_eq_true c10
                clear c10
                by_cases c11 : x14_1 < (x5_1.length : Int)
                · rw [if_pos c11] at H
                  have c11b0 : decide (x14_1 < (x5_1.length : Int)) = true := decide_eq_true c11
                  clear c11
                  by_cases c12 : 0 ≤ a1
                  · rw [if_pos c12] at H
                    have c12b0 := eq_true c12
                    have c12b1 : decide (0 ≤ a1) = true := decide_eq_true c12
                    clear c12
                    obtain ⟨ji13, hji13⟩ : ∃ j_ : Int, (shl .u32 (rd l0 x14_1) a1) = j_ := ⟨_, rfl⟩
                    replace H : (if 0 ≤ (wrap64 (x14_1 + 1)) then (if (wrap64 (x14_1 + 1)) < (x5_1.length : Int) then (ratio_shifted.l0 k1 a1 ((x5_1.set (x14_1 : Int).toNat (Go.bits .or .u32 (rd x5_1 x14_1) (ji13))).set ((wrap64 (x14_1 + 1)) : Int).toNat (((shl .u64 (IntKind.u64.wrap (rd l0 x14_1)) a1) / 4294967296) % 4294967296)) l0 (l0.length : Int) (wrap64 (x14_1 + 1))) else (none)) else (none)) = some r := by first | (rw [hji13] at H; exact H) | (simp only [hji13] at H ⊢; exact H)
                    have hji13_ : (IntKind.u32.wrap ((rd l0 x14_1) * 2 ^ min a1.toNat 32)) = ji13 := hji13
                    have hji13z : a1 ≤ 32 → (IntKind.u32.wrap ((rd l0 x14_1) * 2 ^ a1.toNat)) = ji13 := shl_small hji13
                    obtain ⟨y129, hy129⟩ : ∃ y_ : List Int, y_ = (x5_1.set (x14_1 : Int).toNat (Go.bits .or .u32 (rd x5_1 x14_1) (ji13))) := ⟨_, rfl⟩
                    replace H : (if 0 ≤ (wrap64 (x14_1 + 1)) then (if (wrap64 (x14_1 + 1)) < (x5_1.length : Int) then (ratio_shifted.l0 k1 a1 (y129.set ((wrap64 (x14_1 + 1)) : Int).toNat (((shl .u64 (IntKind.u64.wrap (rd l0 x14_1)) a1) / 4294967296) % 4294967296)) l0 (l0.length : Int) (wrap64 (x14_1 + 1))) else (none)) else (none)) = some r := by first | (rw [hy129]; with_reducible exact H) | (have H2_ := (Option.bind_some _ _).symm.trans H; rw [hy129]; with_reducible exact H2_) | (have H2_ := (Option.bind_some _ _).symm.trans H; with_reducible exact H2_) | with_reducible exact H | (rw [hy129]; exact H) | exact H
                    have Ny129 := Aside0.mk hy129
                    clear hy129
                    have c15b0 := eq_true (of_decide_eq_true (by first | (with_reducible assumption) | assumption) : 0 ≤ a1)
                    obtain ⟨ji16, hji16⟩ : ∃ j_ : Int, (shl .u64 (IntKind.u64.wrap (rd l0 x14_1)) a1) = j_ := ⟨_, rfl⟩
                    replace H : (if 0 ≤ (wrap64 (x14_1 + 1)) then (if (wrap64 (x14_1 + 1)) < (x5_1.length : Int) then (ratio_shifted.l0 k1 a1 (y129.set ((wrap64 (x14_1 + 1)) : Int).toNat (((ji16) / 4294967296) % 4294967296)) l0 (l0.length : Int) (wrap64 (x14_1 + 1))) else (none)) else (none)) = some r := by first | (rw [hji16] at H; exact H) | (simp only [hji16] at H ⊢; exact H)
                    have hji16_ : (IntKind.u64.wrap ((IntKind.u64.wrap (rd l0 x14_1)) * 2 ^ min a1.toNat 64)) = ji16 := hji16
                    have hji16z : a1 ≤ 64 → (IntKind.u64.wrap ((IntKind.u64.wrap (rd l0 x14_1)) * 2 ^ a1.toNat)) = ji16 := shl_small hji16
                    obtain ⟨ji17, hji17⟩ : ∃ j_ : Int, (wrap64 (x14_1 + 1)) = j_ := ⟨_, rfl⟩
                    replace H : (if 0 ≤ (ji17) then (if (ji17) < (x5_1.length : Int) then (ratio_shifted.l0 k1 a1 (y129.set ((ji17) : Int).toNat (((ji16) / 4294967296) % 4294967296)) l0 (l0.length : Int) ji17) else (none)) else (none)) = some r := by first | (rw [hji17] at H; exact H) | (simp only [hji17] at H ⊢; exact H)
                    have hji17w : (IntKind.i64.wrap (x14_1 + 1)) = ji17 := (i64_w _).trans hji17
                    by_cases c18 : 0 ≤ (ji17)
                    · rw [if_pos c18] at H
                      have c18b0 : decide (0 ≤ (ji17)) = true := decide_eq_true c18
                      clear c18
                      by_cases c19 : (ji17) < (x5_1.length : Int)
                      · rw [if_pos c19] at H
                        have c19b0 : decide ((ji17) < (x5_1.length : Int)) = true := decide_eq_true c19
                        clear c19
                        obtain ⟨y130, hy130⟩ : ∃ y_ : List Int, y_ = (y129.set ((ji17) : Int).toNat (((ji16) / 4294967296) % 4294967296)) := ⟨_, rfl⟩
                        replace H : (ratio_shifted.l0 k1 a1 y130 l0 (l0.length : Int) ji17) = some r := by first | (rw [hy130]; with_reducible exact H) | (have H2_ := (Option.bind_some _ _).symm.trans H; rw [hy130]; with_reducible exact H2_) | (have H2_ := (Option.bind_some _ _).symm.trans H; with_reducible exact H2_) | with_reducible exact H | (rw [hy130]; exact H) | exact H
                        have Ny130 := Aside0.mk hy130
                        clear hy130
                        have H' := Aside0.mk H
                        clear H
                        have p127 : 0 ≤ (x14_1 : Int) := of_decide_eq_true (by first | (with_reducible assumption) | assumption)
                        have q127 : x14_1 < (l0.length : Int) := of_decide_eq_true (by first | (with_reducible assumption) | assumption)
                        obtain ⟨ad127, e127, hx127_0⟩ := Kd.at_int HR0.out x14_1 p127 q127
                        cases e127
                        replace hx127_0 := (HB.out.cell (World.block_lt_of_cell? w _ hx127_0)).trans hx127_0
                        replace p127 := eq_true p127
                        replace q127 := eq_true q127
                        try go_wp2
                        have n0_ := Aside0.mk (Kd.R_drew HO_5.out)
                        have n1_ := Aside0.mk (below_drew1 HB.out)
                        clear HO_5
                        clear HB
                        have HO_5 := n0_
                        have HB := n1_
                        clear n0_ n1_
                        obtain ⟨Ao22, co22, eo22⟩ := Kd.R_slice HO_5.out
                        (first | subst eo22 | (injection eo22 with f1_ f2_ f3_; have f4_ := f1_.symm; have f5_ := f3_.symm; clear f1_ f2_ f3_; subst f4_; subst f5_))
                        have p128 : 0 ≤ (x14_1 : Int) := of_decide_eq_true (by first | (with_reducible assumption) | assumption)
                        have q128 : x14_1 < (x5_1.length : Int) := of_decide_eq_true (by first | (with_reducible assumption) | assumption)
                        obtain ⟨ad128, e128, hx128_0⟩ := Kd.at_int (Kd.R_reads' HO_5.out).2.2 x14_1 p128 q128
                        cases e128
                        replace p128 := eq_true p128
                        replace q128 := eq_true q128
                        have p14 : 0 ≤ (x14_1 : Int) := of_decide_eq_true (by first | (with_reducible assumption) | assumption)
                        have q14 : (x14_1 : Int) < ((x5_1.length : Int) : Int) := of_decide_eq_true (by first | (with_reducible assumption) | assumption)
                        obtain ⟨go14, co14, eo14, gb14, gl14, cl14, HG14⟩ := Kd.R_form HO_5.out (by omega)
                        (first | cases eo14 | (injection eo14 with ea_ en_ ec_; (first | subst ea_ | (injection ea_ with ea_; subst ea_)); subst ec_; clear en_))
                        have GB14 := Aside0.mk gb14
                        have GG14 := Aside0.mk HG14
                        clear gb14 gl14 HG14
                        (first | simp only [add_plain] at hx128_0 | skip)
                        obtain ⟨hx14_0, hf14_0⟩ := Kd.R_celln 0 HO_5.out (x14_1 : Int) p14 q14
                        replace p14 := eq_true p14
                        replace q14 := eq_true q14
                        have HP23 := Kd.R_putn HO_5.out (x14_1 : Int) (Go.bits .or .u32 (rd x5_1 x14_1) (ji13))
                        rw [← Ny129.out] at HP23
                        have HQ23 := Aside0.mk HP23
                        clear HP23
                        refine start_ (n := 10) (S := fun w' => w'.cell? ⟨go14, (x14_1).toNat, none⟩ = some (.int .u32 (rd x5_1 x14_1))) (ds := [9]) #[false, false, false, false, false, false, false, false, false, false] (by kernel_rfl) rfl rfl (hx128_0) (fun hHeld => ?_); refine with_tabW ratio_shifted.tab5 ratio_shifted.bits5 (fun HT_ HW_ => ?_)
                        generalize wr.drew = w21 at HO_5 HB GG14 HQ23 hf14_0 hx128_0 hx14_0 hHeld ⊢
                        refine pure_ (i := 0) (N := some 19) (v := ?_) (a' := ?_) #[true, false, false, false, false, false, false, false, false, false] rfl rfl (any_of HT_.out (by kernel_rfl)) (fun _ _ _ h => h) (Or.inl ⟨by rfl, ?_⟩) ?_ ?_
                        rotate_left
                        · intro w'
                          go_simp
                          with_reducible rfl
                        rotate_left
                        · simp only [Act.put, List.setIfInBounds_toArray, List.set_cons_zero, List.set_cons_succ, i64_w, i32_w]
                          rfl
                        refine pure_ (i := 1) (N := some 20) (v := ?_) (a' := ?_) #[true, true, false, false, false, false, false, false, false, false] rfl rfl (any_of HT_.out (by kernel_rfl)) (fun _ _ _ h => h) (Or.inl ⟨by rfl, ?_⟩) ?_ ?_
                        rotate_left
                        · intro w'
                          go_simp
                          with_reducible rfl
                        rotate_left
                        · simp only [Act.put, List.setIfInBounds_toArray, List.set_cons_zero, List.set_cons_succ, i64_w, i32_w]
                          rfl
                        refine pure_ (i := 2) (N := some 21) (v := ?_) (a' := ?_) #[true, true, true, false, false, false, false, false, false, false] rfl rfl (any_of HT_.out (by kernel_rfl)) (fun _ _ _ h => h) (Or.inl ⟨by rfl, ?_⟩) ?_ ?_
                        rotate_left
                        · intro w'
                          go_simp
                          with_reducible rfl
                        rotate_left
                        · simp only [Act.put, List.setIfInBounds_toArray, List.set_cons_zero, List.set_cons_succ, i64_w, i32_w]
                          rfl
                        refine pure_ (i := 4) (N := some 23) (v := ?_) (a' := ?_) #[true, true, true, false, true, false, false, false, false, false] rfl rfl (any_of HT_.out (by kernel_rfl)) (fun _ _ _ h => h) (Or.inl ⟨by rfl, ?_⟩) ?_ ?_
                        rotate_left
                        · intro w'
                          go_simp
                          with_reducible rfl
                        rotate_left
                        · simp only [Act.put, List.setIfInBounds_toArray, List.set_cons_zero, List.set_cons_succ, i64_w, i32_w]
                          rfl
                        refine pure_ (i := 5) (N := some 24) (v := ?_) (a' := ?_) #[true, true, true, false, true, true, false, false, false, false] rfl rfl (any_of HT_.out (by kernel_rfl)) (fun _ _ _ h => h) (Or.inl ⟨by rfl, ?_⟩) ?_ ?_
                        rotate_left
                        · intro w'
                          go_simp
                          with_reducible rfl
                        rotate_left
                        · simp only [Act.put, List.setIfInBounds_toArray, List.set_cons_zero, List.set_cons_succ, i64_w, i32_w]
                          rfl
                        refine pure_ (i := 6) (N := some 25) (v := ?_) (a' := ?_) #[true, true, true, false, true, true, true, false, false, false] rfl rfl (any_of HT_.out (by kernel_rfl)) (fun _ _ _ h => h) (Or.inl ⟨by rfl, ?_⟩) ?_ ?_
                        rotate_left
                        · intro w'
                          go_simp
                          with_reducible rfl
                        rotate_left
                        · simp only [Act.put, List.setIfInBounds_toArray, List.set_cons_zero, List.set_cons_succ, i64_w, i32_w]
                          rfl
                        refine take_ (i := 3) (N := some 22) (v := ?_) (a' := ?_) #[true, true, true, true, true, true, true, false, false, false] rfl rfl (take_ofW HT_.out HW_.out (by kernel_rfl)) (fun _ _ _ h => h) (Or.inl ⟨by rfl, ?_⟩) hHeld ?_ ?_
                        rotate_left
                        · intro w' s0
                          go_simp
                          with_reducible rfl
                        rotate_left
                        · simp only [Act.put, List.setIfInBounds_toArray, List.set_cons_zero, List.set_cons_succ, i64_w, i32_w]
                          rfl
                        refine pure_ (i := 7) (N := some 26) (v := ?_) (a' := ?_) #[true, true, true, true, true, true, true, true, false, false] rfl rfl (any_of HT_.out (by kernel_rfl)) (fun _ _ _ h => h) (Or.inl ⟨by rfl, ?_⟩) ?_ ?_
                        rotate_left
                        · intro w'
                          go_simp
                          with_reducible rfl
                        rotate_left
                        · simp only [Act.put, List.setIfInBounds_toArray, List.set_cons_zero, List.set_cons_succ, i64_w, i32_w]
                          rfl
                        refine pure_ (i := 8) (N := some 27) (v := ?_) (a' := ?_) #[true, true, true, true, true, true, true, true, true, false] rfl rfl (any_of HT_.out (by kernel_rfl)) (fun _ _ _ h => h) (Or.inl ⟨by rfl, ?_⟩) ?_ ?_
                        rotate_left
                        · intro w'
                          go_simp
                          with_reducible rfl
                        rotate_left
                        · simp only [Act.put, List.setIfInBounds_toArray, List.set_cons_zero, List.set_cons_succ, i64_w, i32_w]
                          rfl
                        refine last_ (i := 9) (N := none) #[true, true, true, true, true, true, true, true, true, true] rfl rfl (one_of HT_.out (by kernel_rfl)) (by decide) (fun K hK => ?_)
                        refine skip_ (w1 := ?_) (by rfl) rfl ?_ ?_
                        rotate_left
                        · go_simp
                          rfl
                        refine hK.out _ _ ?_
                        clear hK K
                        refine done_ (done_of HT_.out (by kernel_rfl)) ?_
                        have n0_ : Aside0 (Kd.R (Kd.int .u32) 75 (w21.setCell ⟨go14, (x14_1 : Int).toNat, none⟩ (.int .u32 (Go.bits .or .u32 (rd x5_1 x14_1) (ji13)))) w.heap.size (fun _ => True) (.slice (some ⟨go14, 0, none⟩) x5_1.length co22) y129) := ⟨by (with_reducible repeat (first | apply Kd.R_alloc | apply Kd.R_drewN | apply Kd.R_drew)); exact HQ23.out⟩
                        have n1_ : Aside0 (Below w.heap.size w (w21.setCell ⟨go14, (x14_1 : Int).toNat, none⟩ (.int .u32 (Go.bits .or .u32 (rd x5_1 x14_1) (ji13))))) := ⟨by repeat (first | (with_reducible first | exact HB.out | apply below_alloc | apply pw_below_drewN | apply below_drew1 | refine below_set ?_ GB14.out) | exact HB.out)⟩
                        (try clear HO_5)
                        (try clear HB)
                        generalize (w21.setCell ⟨go14, (x14_1 : Int).toNat, none⟩ (.int .u32 (Go.bits .or .u32 (rd x5_1 x14_1) (ji13)))) = w24 at n0_ n1_ ⊢
                        have HO_5 := n0_
                        have HB := n1_
                        clear n0_ n1_
                        have p20 : 0 ≤ ((ji17) : Int) := of_decide_eq_true (by first | (with_reducible assumption) | assumption)
                        have q20 : ((ji17) : Int) < ((x5_1.length : Int) : Int) := of_decide_eq_true (by first | (with_reducible assumption) | assumption)
                        obtain ⟨hx20_0, hf20_0⟩ := Kd.R_celln 0 HO_5.out ((ji17) : Int) p20 q20
                        replace p20 := eq_true p20
                        replace q20 := eq_true q20
                        obtain ⟨hy25_, hz25_⟩ := Kd.R_celln 0 HO_5.out ((ji17) : Int) (of_decide_eq_true (by first | (with_reducible assumption) | assumption)) (of_decide_eq_true (by first | (with_reducible assumption) | assumption))
                        have HP25 := Kd.R_putg HO_5.out ((ji17) : Int) (((ji16) / 4294967296) % 4294967296)
                        try go_wp2_with (first | ((with_reducible refine gate_store (t := 75) (p := 37) rfl ?_); refine store_event (t := 75) (p := 37) (v := ?vo_w26) (w1 := (w24.setCell ⟨go14, ((ji17) : Int).toNat, none⟩ (.int .u32 (((ji16) / 4294967296) % 4294967296)))) ?hg ?ho ?hn ?hr ?_; (case ho => rfl); (case hg => rfl); (case hn => rfl); (case hr => first | (go_simp; done) | (go_simp; rfl)); intro w26 hw; have hg : w24.grownBy w26 (some go14) := (by rw [hw]; exact HP25.2); have hp_ : Kd.R (Kd.int .u32) 75 w26 w.heap.size (fun _ => True) (.slice (some ⟨go14, 0, none⟩) x5_1.length co22) y130 := (by rw [hw, Ny130.out]; exact HP25.1); clear HP25; have n0_ := Aside0.mk (hp_); have n1_ := Aside0.mk ((by rw [hw]; exact below_set (HB.out) GB14.out : Below w.heap.size w w26)); clear HO_5; clear HB; have HO_5 := n0_; have HB := n1_; clear n0_ n1_; clear hg hw hp_))
                        go_roundg k1
                        case measure => have := HK1.out; omega
                        case rel => exact ⟨(y130), (ji17), (by first | rfl | (simp; done) | (simp only [← hji17] <;> (first | rfl | simp)) | (simp [*]; done)), H', ⟨by have := HK1.out; omega⟩, ⟨by (with_reducible repeat (first | apply Kd.R_alloc | apply Kd.R_drewN | apply Kd.R_drew)); exact HO_5.out⟩, ⟨by repeat (first | (with_reducible first | exact HB.out | apply below_alloc | apply pw_below_drewN | apply below_drew1) | exact HB.out)⟩⟩
                      · rw [if_neg c19] at H
                        exact absurd H (by simp)
                    · rw [if_neg c18] at H
                      exact absurd H (by simp)
                  · rw [if_neg c12] at H
                    exact absurd H (by simp)
                · rw [if_neg c11] at H
                  exact absurd H (by simp)
              · rw [if_neg c10] at H
                exact absurd H (by simp)
            · rw [if_neg c9] at H
              exact absurd H (by simp)
          · rw [if_neg c8] at H
            have c8b0 : decide (x14_1 < (l0.length : Int)) = false := decide_eq_false c8
            clear c8
            obtain rfl := Option.some.inj H
            go_wp2
            go_ret
            exact ⟨_, by first | rfl | (simp [errW_none, errW_some] <;> rfl) | (simp only [← hji3]; first | rfl | (simp [errW_none, errW_some] <;> rfl)) | (simp [*, errW_none, errW_some] <;> rfl), by (with_reducible repeat (first | apply Kd.R_alloc | apply Kd.R_drewN | apply Kd.R_drew)); exact HO_5.out, by repeat (first | (with_reducible first | exact HB.out | apply below_alloc | apply pw_below_drewN | apply below_drew1) | exact HB.out)⟩
    · rw [if_neg c5] at H
      exact absurd H (by simp)
  · rw [if_neg c4] at H
    exact absurd H (by simp)
end Go.Proofs.Ytlifengbicpppaa.G
end
section
namespace Go.Proofs.Ytlifengbicpppaa.G
open Go.RowKit Go.Proofs.YtlifengbicpppaaW.PrintWords Go.Proofs.YtlifengbicpppaaW.PrintLast Go.Proofs.YtlifengbicpppaaW.PrintMore
open Go.Proofs.Ytlifengbicpppaa.Num
theorem bits_or_comm (k : IntKind) (x y : Int) : bits BinOp.or k x y = bits BinOp.or k y x := by simp only [bits, BitVec.or_comm]
theorem or32 (y x : Int) (s : Nat) (hs : s ≤ 32) (hx0 : 0 ≤ x) (hx1 : x < 4294967296) (hm : x % 2 ^ s = 0) (hy0 : 0 ≤ y) (hy : y < 2 ^ s) : bits BinOp.or IntKind.u32 y x = x + y := by
  rw [bits_or_comm]
  have hp : (2 : Int) ^ s ≤ 2 ^ 32 := by
    have : (2 : Int) ^ 32 = 2 ^ s * 2 ^ (32 - s) := by rw [← Int.pow_add]; congr 1; omega
    have h1 : (0 : Int) < 2 ^ s := Int.pow_pos (by decide)
    have h2 : (0 : Int) < 2 ^ (32 - s) := Int.pow_pos (by decide)
    rw [this]
    have := Int.mul_le_mul_of_nonneg_left (show (1 : Int) ≤ 2 ^ (32 - s) by omega) (Int.le_of_lt h1)
    omega
  exact bits_join .u32 32 (by decide) (fun n h h' => IntWalk.u32_in n (by omega)) s _ _ hx0 hm (by omega) hy0 hy (by omega)
/-- What a limb becomes: a head that goes on, and a rest. -/
theorem limb_split (v : Int) (s : Nat) (hs : s < 32) (h0 : 0 ≤ v) (h1 : v < 4294967296) :
    shl .u32 v (s : Int) = (v * 2 ^ s) % 4294967296 ∧ (shl .u64 (IntKind.u64.wrap v) (s : Int) / 4294967296) % 4294967296 = v * 2 ^ s / 4294967296 ∧ (v * 2 ^ s) % 4294967296 % 2 ^ s = 0 ∧ v * 2 ^ s / 4294967296 < 2 ^ s ∧ 0 ≤ v * 2 ^ s / 4294967296 ∧
      (∀ y : Int, 0 ≤ y → y < 2 ^ s → (v * 2 ^ s) % 4294967296 + y < 4294967296) ∧ (2 : Int) ^ s ≤ 2147483648 := by
  have e : (4294967296 : Int) = 2 ^ (32 - s) * 2 ^ s := by rw [← Int.pow_add, show 32 - s + s = 32 by omega]; rfl
  have hp : (0 : Int) < 2 ^ s := Int.pow_pos (by decide)
  have hp2 : (0 : Int) < 2 ^ (32 - s) := Int.pow_pos (by decide)
  have hp3 : (2 : Int) ^ s ≤ 2147483648 := by
    have h3 : (2147483648 : Int) = 2 ^ s * 2 ^ (31 - s) := by rw [← Int.pow_add, show s + (31 - s) = 31 by omega]; rfl
    have h4 : (0 : Int) < 2 ^ (31 - s) := Int.pow_pos (by decide)
    have := Int.mul_le_mul_of_nonneg_left (show (1 : Int) ≤ 2 ^ (31 - s) by omega) (Int.le_of_lt hp)
    omega
  have hv : 0 ≤ v * 2 ^ s := Int.mul_nonneg h0 (Int.le_of_lt hp)
  have hv2 : v * 2 ^ s < 4294967296 * 2 ^ s := Int.mul_lt_mul_of_pos_right h1 hp
  have hm : (v * 2 ^ s) % 4294967296 = (v % 2 ^ (32 - s)) * 2 ^ s := by
    rw [e, Int.mul_comm v, Int.mul_comm (2 ^ (32 - s)), Int.mul_emod_mul_of_pos _ _ hp, Int.mul_comm]
  have hr0 := Int.emod_nonneg v (show (2 : Int) ^ (32 - s) ≠ 0 by omega)
  have hr1 := Int.emod_lt_of_pos v hp2
  refine ⟨?_, ?_, ?_, ?_, by omega, ?_, hp3⟩
  · unfold shl
    rw [IntKind.wrap_u32, show min ((s : Int).toNat) IntKind.u32.bits = s by simp [IntKind.bits]; omega]
  · unfold shl
    rw [IntWalk.u64_in v (by omega), show min ((s : Int).toNat) IntKind.u64.bits = s by simp [IntKind.bits]; omega, IntWalk.u64_in _ (by omega)]
    omega
  · rw [hm]
    exact Int.mul_emod_left _ _
  · exact Int.ediv_lt_of_lt_mul (by decide) (by omega)
  · intro y hy0 hy1
    rw [hm]
    have h5 : (v % 2 ^ (32 - s) + 1) * 2 ^ s ≤ 2 ^ (32 - s) * 2 ^ s := Int.mul_le_mul_of_nonneg_right (by omega) (Int.le_of_lt hp)
    rw [← e, Int.add_mul] at h5
    omega
structure SH (l out : List Int) (s i : Nat) : Prop where
  len : out.length = l.length + 1
  dg : Dg 4294967296 out
  zero : ∀ j, i < j → rd out (j : Nat) = 0
  top : rd out (i : Nat) < 2 ^ s
  sum : (win out 0 (i + 1) : Int) = (win l 0 i : Int) * 2 ^ s
theorem rd_set_ne (us : List Int) (i j : Nat) (x : Int) (h : i ≠ j) : rd (us.set i x) (j : Int) = rd us (j : Int) := by
  simp [rd, List.getD_eq_getElem?_getD, List.getElem?_set_ne h]
theorem win_topi (us : List Int) (m : Nat) (hj : m < us.length) (hu : Dg 4294967296 us) : (win us 0 (m + 1) : Int) = (win us 0 m : Int) + ((4294967296 ^ m : Nat) : Int) * rd us ((m : Nat) : Int) := by
  rw [win_succ us 0 m (by omega), Nat.zero_add]
  have := rdb hu ((m : Nat) : Int)
  generalize rd us ((m : Nat) : Int) = x at *
  simp only [Int.natCast_add, Int.natCast_mul, Int.toNat_of_nonneg this.1]
theorem SH.step {l out : List Int} {s i : Nat} (h : SH l out s i) (hs : s < 32) (hi : i < l.length) (hl : Dg 4294967296 l) :
    SH l ((out.set i (bits .or .u32 (rd out (i : Nat)) (shl .u32 (rd l (i : Nat)) (s : Int)))).set (i + 1) ((shl .u64 (IntKind.u64.wrap (rd l (i : Nat))) (s : Int) / 4294967296) % 4294967296)) s (i + 1) := by
  have hv := rdb hl (i : Int)
  have ho := rdb h.dg (i : Int)
  obtain ⟨e1, e2, e3, e4, e5, e6, e7⟩ := limb_split _ s hs hv.1 hv.2
  rw [e1, e2, or32 _ _ s (by omega) (by omega) (by omega) e3 ho.1 h.top]
  have hb := e6 _ ho.1 h.top
  have hlen := h.len
  have hd1 : Dg 4294967296 (out.set i (rd l ((i : Nat) : Int) * 2 ^ s % 4294967296 + rd out ((i : Nat) : Int))) := h.dg.set _ (by omega) hb
  refine ⟨by simp [hlen], hd1.set _ e5 (by omega), fun j hj => ?_, ?_, ?_⟩
  · rw [rd_set_ne _ _ _ _ (by omega), rd_set_ne _ _ _ _ (by omega)]
    exact h.zero j (by omega)
  · rw [rd_set _ _ _ (by simp; omega)]
    exact e4
  · rw [win_topi _ _ (by simp; omega) (hd1.set _ e5 (by omega)), rd_set _ _ _ (by simp; omega),
      win_congr (us' := (out.set i _).set (i + 1) _) (us := out.set i (rd l ((i : Nat) : Int) * 2 ^ s % 4294967296 + rd out ((i : Nat) : Int))) (fun k _ hk => by rw [List.getElem?_set_ne (by omega)]),
      win_topi _ _ (by simp; omega) hd1, rd_set _ _ _ (by omega),
      win_congr (us' := out.set i _) (us := out) (fun k _ hk => by rw [List.getElem?_set_ne (by omega)]), win_topi l i hi hl]
    have hsum := h.sum
    rw [win_topi out i (by omega) h.dg] at hsum
    rw [show ((4294967296 ^ (i + 1) : Nat) : Int) = ((4294967296 ^ i : Nat) : Int) * 4294967296 by rw [Nat.pow_succ]; simp]
    have hx : rd l ((i : Nat) : Int) * 2 ^ s = rd l ((i : Nat) : Int) * 2 ^ s % 4294967296 + 4294967296 * (rd l ((i : Nat) : Int) * 2 ^ s / 4294967296) := by omega
    generalize rd l ((i : Nat) : Int) * 2 ^ s % 4294967296 = x at *
    generalize rd l ((i : Nat) : Int) * 2 ^ s / 4294967296 = y at *
    generalize rd out ((i : Nat) : Int) = o at *
    generalize rd l ((i : Nat) : Int) = v at *
    generalize ((4294967296 ^ i : Nat) : Int) = b at *
    generalize (win out 0 i : Int) = W at *
    generalize (win l 0 i : Int) = X at *
    generalize (2 : Int) ^ s = z at *
    clear hd1 e1 e2 e3 e4 e5 e6 e7 h hb hv ho
    grind
theorem shifted_l0 (l : List Int) (s : Nat) (hs : s < 32) (hl : Dg 4294967296 l) (hm : l.length < 9223372036854775807) : ∀ (d i : Nat) (out : List Int), d = l.length - i → i ≤ l.length → SH l out s i → ∀ k, d < k →
    ∃ out', ratio_shifted.l0 k (s : Int) out l (l.length : Int) (i : Int) = some out' ∧ SH l out' s l.length
  | 0, i, out, hd, hi, h, k + 1, _ => by
    obtain rfl : i = l.length := by omega
    refine ⟨out, ?_, h⟩
    unfold ratio_shifted.l0
    rw [if_neg (by omega)]
  | d + 1, i, out, hd, hi, h, k + 1, hk => by
    obtain ⟨out', h1, h2⟩ := shifted_l0 l s hs hl hm d (i + 1) _ (by omega) (by omega) (h.step hs (by omega) hl) k (by omega)
    refine ⟨out', ?_, h2⟩
    have hlen := h.len
    unfold ratio_shifted.l0
    have ew : wrap64 ((i : Int) + 1) = ((i + 1 : Nat) : Int) := by simp only [wrap64]; omega
    rw [ew]
    rw [if_pos (by omega), if_pos (by omega), if_pos (by omega), if_pos (by omega), if_pos (by omega), if_pos (by omega), if_pos (by omega)]
    simp only [Int.toNat_natCast]
    exact h1
/-- Limbs, s bits on. -/
theorem shifted_spec (l : List Int) (s : Nat) (hs : s < 32) (hl : Dg 4294967296 l) (hm : l.length < 70368744177664) (k : Nat) (hk : l.length < k) :
    ∃ out, ratio_shifted.f k l (s : Int) = some out ∧ out.length = l.length + 1 ∧ Dg 4294967296 out ∧ (val 4294967296 out : Int) = (val 4294967296 l : Int) * 2 ^ s := by
  have ew : wrap64 ((l.length : Int) + 1) = ((l.length + 1 : Nat) : Int) := by simp only [wrap64]; omega
  have hz : Dg 4294967296 (List.replicate (l.length + 1) 0) := Dg.replicate (by decide) _
  have hr : ∀ j : Nat, rd (List.replicate (l.length + 1) 0) (j : Int) = 0 := fun j => by
    simp only [rd, List.getD_eq_getElem?_getD, List.getElem?_replicate]
    split <;> rfl
  have hs0 : SH l (List.replicate (l.length + 1) 0) s 0 := by
    refine ⟨by simp, hz, fun j _ => hr j, ?_, ?_⟩
    · rw [hr]; exact Int.pow_pos (by decide)
    · rw [win_topi _ _ (by simp) hz, hr, win_zero, win_zero]; simp
  obtain ⟨out, h1, h2⟩ := shifted_l0 l s hs hl (by omega) l.length 0 _ (by omega) (by omega) hs0 k hk
  refine ⟨out, ?_, h2.len, h2.dg, ?_⟩
  · unfold ratio_shifted.f
    rw [ew, if_pos (by omega), if_pos (by omega)]
    exact h1
  · have := h2.sum
    rw [win_all out 0 _ (by have := h2.len; omega), win_all l 0 _ (by omega), List.drop_zero, List.drop_zero] at this
    exact this
end Go.Proofs.Ytlifengbicpppaa.G
end
section
namespace Go.Proofs.Ytlifengbicpppaa.G
open Go.RowKit Go.Proofs.YtlifengbicpppaaW.PrintWords Go.Proofs.YtlifengbicpppaaW.PrintLast Go.Proofs.YtlifengbicpppaaW.PrintMore
attribute [local go_sem] max2_int min2_int max_two min_two max_three min_three max_four min_four   -- for this text's walks alone
set_option linter.unusedVariables false
set_option linter.unusedSimpArgs false
def bits_Len32.f (a0 : Int) : Option (Int) := if a0 ≥ 65536 then (if (a0 / 65536) ≥ 256 then (if 0 ≤ (((a0 / 65536) / 256) % 256) then (if (((a0 / 65536) / 256) % 256) < 256 then (some (wrap64 ((16 + 8) + (wrap64 (bt (⟨#[0, 1, 2, 2, 3, 3, 3, 3, 4, 4, 4, 4, 4, 4, 4, 4, 5, 5, 5, 5, 5, 5, 5, 5, 5, 5, 5, 5, 5, 5, 5, 5, 6, 6, 6, 6, 6, 6, 6, 6, 6, 6, 6, 6, 6, 6, 6, 6, 6, 6, 6, 6, 6, 6, 6, 6, 6, 6, 6, 6, 6, 6, 6, 6, 7, 7, 7, 7, 7, 7, 7, 7, 7, 7, 7, 7, 7, 7, 7, 7, 7, 7, 7, 7, 7, 7, 7, 7, 7, 7, 7, 7, 7, 7, 7, 7, 7, 7, 7, 7, 7, 7, 7, 7, 7, 7, 7, 7, 7, 7, 7, 7, 7, 7, 7, 7, 7, 7, 7, 7, 7, 7, 7, 7, 7, 7, 7, 7, 8, 8, 8, 8, 8, 8, 8, 8, 8, 8, 8, 8, 8, 8, 8, 8, 8, 8, 8, 8, 8, 8, 8, 8, 8, 8, 8, 8, 8, 8, 8, 8, 8, 8, 8, 8, 8, 8, 8, 8, 8, 8, 8, 8, 8, 8, 8, 8, 8, 8, 8, 8, 8, 8, 8, 8, 8, 8, 8, 8, 8, 8, 8, 8, 8, 8, 8, 8, 8, 8, 8, 8, 8, 8, 8, 8, 8, 8, 8, 8, 8, 8, 8, 8, 8, 8, 8, 8, 8, 8, 8, 8, 8, 8, 8, 8, 8, 8, 8, 8, 8, 8, 8, 8, 8, 8, 8, 8, 8, 8, 8, 8, 8, 8, 8, 8, 8, 8, 8, 8, 8, 8, 8, 8, 8, 8, 8, 8]⟩ : ByteArray) (((a0 / 65536) / 256) % 256)))))) else (none)) else (none)) else (if 0 ≤ ((a0 / 65536) % 256) then (if ((a0 / 65536) % 256) < 256 then (some (wrap64 (16 + (wrap64 (bt (⟨#[0, 1, 2, 2, 3, 3, 3, 3, 4, 4, 4, 4, 4, 4, 4, 4, 5, 5, 5, 5, 5, 5, 5, 5, 5, 5, 5, 5, 5, 5, 5, 5, 6, 6, 6, 6, 6, 6, 6, 6, 6, 6, 6, 6, 6, 6, 6, 6, 6, 6, 6, 6, 6, 6, 6, 6, 6, 6, 6, 6, 6, 6, 6, 6, 7, 7, 7, 7, 7, 7, 7, 7, 7, 7, 7, 7, 7, 7, 7, 7, 7, 7, 7, 7, 7, 7, 7, 7, 7, 7, 7, 7, 7, 7, 7, 7, 7, 7, 7, 7, 7, 7, 7, 7, 7, 7, 7, 7, 7, 7, 7, 7, 7, 7, 7, 7, 7, 7, 7, 7, 7, 7, 7, 7, 7, 7, 7, 7, 8, 8, 8, 8, 8, 8, 8, 8, 8, 8, 8, 8, 8, 8, 8, 8, 8, 8, 8, 8, 8, 8, 8, 8, 8, 8, 8, 8, 8, 8, 8, 8, 8, 8, 8, 8, 8, 8, 8, 8, 8, 8, 8, 8, 8, 8, 8, 8, 8, 8, 8, 8, 8, 8, 8, 8, 8, 8, 8, 8, 8, 8, 8, 8, 8, 8, 8, 8, 8, 8, 8, 8, 8, 8, 8, 8, 8, 8, 8, 8, 8, 8, 8, 8, 8, 8, 8, 8, 8, 8, 8, 8, 8, 8, 8, 8, 8, 8, 8, 8, 8, 8, 8, 8, 8, 8, 8, 8, 8, 8, 8, 8, 8, 8, 8, 8, 8, 8, 8, 8, 8, 8, 8, 8, 8, 8, 8, 8]⟩ : ByteArray) ((a0 / 65536) % 256)))))) else (none)) else (none))) else (if a0 ≥ 256 then (if 0 ≤ ((a0 / 256) % 256) then (if ((a0 / 256) % 256) < 256 then (some (wrap64 ((0 + 8) + (wrap64 (bt (⟨#[0, 1, 2, 2, 3, 3, 3, 3, 4, 4, 4, 4, 4, 4, 4, 4, 5, 5, 5, 5, 5, 5, 5, 5, 5, 5, 5, 5, 5, 5, 5, 5, 6, 6, 6, 6, 6, 6, 6, 6, 6, 6, 6, 6, 6, 6, 6, 6, 6, 6, 6, 6, 6, 6, 6, 6, 6, 6, 6, 6, 6, 6, 6, 6, 7, 7, 7, 7, 7, 7, 7, 7, 7, 7, 7, 7, 7, 7, 7, 7, 7, 7, 7, 7, 7, 7, 7, 7, 7, 7, 7, 7, 7, 7, 7, 7, 7, 7, 7, 7, 7, 7, 7, 7, 7, 7, 7, 7, 7, 7, 7, 7, 7, 7, 7, 7, 7, 7, 7, 7, 7, 7, 7, 7, 7, 7, 7, 7, 8, 8, 8, 8, 8, 8, 8, 8, 8, 8, 8, 8, 8, 8, 8, 8, 8, 8, 8, 8, 8, 8, 8, 8, 8, 8, 8, 8, 8, 8, 8, 8, 8, 8, 8, 8, 8, 8, 8, 8, 8, 8, 8, 8, 8, 8, 8, 8, 8, 8, 8, 8, 8, 8, 8, 8, 8, 8, 8, 8, 8, 8, 8, 8, 8, 8, 8, 8, 8, 8, 8, 8, 8, 8, 8, 8, 8, 8, 8, 8, 8, 8, 8, 8, 8, 8, 8, 8, 8, 8, 8, 8, 8, 8, 8, 8, 8, 8, 8, 8, 8, 8, 8, 8, 8, 8, 8, 8, 8, 8, 8, 8, 8, 8, 8, 8, 8, 8, 8, 8, 8, 8, 8, 8, 8, 8, 8, 8]⟩ : ByteArray) ((a0 / 256) % 256)))))) else (none)) else (none)) else (if 0 ≤ ((a0) % 256) then (if ((a0) % 256) < 256 then (some (wrap64 (0 + (wrap64 (bt (⟨#[0, 1, 2, 2, 3, 3, 3, 3, 4, 4, 4, 4, 4, 4, 4, 4, 5, 5, 5, 5, 5, 5, 5, 5, 5, 5, 5, 5, 5, 5, 5, 5, 6, 6, 6, 6, 6, 6, 6, 6, 6, 6, 6, 6, 6, 6, 6, 6, 6, 6, 6, 6, 6, 6, 6, 6, 6, 6, 6, 6, 6, 6, 6, 6, 7, 7, 7, 7, 7, 7, 7, 7, 7, 7, 7, 7, 7, 7, 7, 7, 7, 7, 7, 7, 7, 7, 7, 7, 7, 7, 7, 7, 7, 7, 7, 7, 7, 7, 7, 7, 7, 7, 7, 7, 7, 7, 7, 7, 7, 7, 7, 7, 7, 7, 7, 7, 7, 7, 7, 7, 7, 7, 7, 7, 7, 7, 7, 7, 8, 8, 8, 8, 8, 8, 8, 8, 8, 8, 8, 8, 8, 8, 8, 8, 8, 8, 8, 8, 8, 8, 8, 8, 8, 8, 8, 8, 8, 8, 8, 8, 8, 8, 8, 8, 8, 8, 8, 8, 8, 8, 8, 8, 8, 8, 8, 8, 8, 8, 8, 8, 8, 8, 8, 8, 8, 8, 8, 8, 8, 8, 8, 8, 8, 8, 8, 8, 8, 8, 8, 8, 8, 8, 8, 8, 8, 8, 8, 8, 8, 8, 8, 8, 8, 8, 8, 8, 8, 8, 8, 8, 8, 8, 8, 8, 8, 8, 8, 8, 8, 8, 8, 8, 8, 8, 8, 8, 8, 8, 8, 8, 8, 8, 8, 8, 8, 8, 8, 8, 8, 8, 8, 8, 8, 8, 8, 8]⟩ : ByteArray) ((a0) % 256)))))) else (none)) else (none)))
set_option maxHeartbeats 8000000 in
set_option maxRecDepth 100000 in
theorem bits_Len32.calls (a0 : Int) (r : Int) (w : World) (h : bits_Len32.f a0 = some r) :
    Calls Try.prog 129 #[.int .u32 a0] w fun e w' => e = .returned (.int .i64 r) ∧ Drawn0 w w' := by
  have H : (if a0 ≥ 65536 then (if (a0 / 65536) ≥ 256 then (if 0 ≤ (((a0 / 65536) / 256) % 256) then (if (((a0 / 65536) / 256) % 256) < 256 then (some (wrap64 ((16 + 8) + (wrap64 (bt (⟨#[0, 1, 2, 2, 3, 3, 3, 3, 4, 4, 4, 4, 4, 4, 4, 4, 5, 5, 5, 5, 5, 5, 5, 5, 5, 5, 5, 5, 5, 5, 5, 5, 6, 6, 6, 6, 6, 6, 6, 6, 6, 6, 6, 6, 6, 6, 6, 6, 6, 6, 6, 6, 6, 6, 6, 6, 6, 6, 6, 6, 6, 6, 6, 6, 7, 7, 7, 7, 7, 7, 7, 7, 7, 7, 7, 7, 7, 7, 7, 7, 7, 7, 7, 7, 7, 7, 7, 7, 7, 7, 7, 7, 7, 7, 7, 7, 7, 7, 7, 7, 7, 7, 7, 7, 7, 7, 7, 7, 7, 7, 7, 7, 7, 7, 7, 7, 7, 7, 7, 7, 7, 7, 7, 7, 7, 7, 7, 7, 8, 8, 8, 8, 8, 8, 8, 8, 8, 8, 8, 8, 8, 8, 8, 8, 8, 8, 8, 8, 8, 8, 8, 8, 8, 8, 8, 8, 8, 8, 8, 8, 8, 8, 8, 8, 8, 8, 8, 8, 8, 8, 8, 8, 8, 8, 8, 8, 8, 8, 8, 8, 8, 8, 8, 8, 8, 8, 8, 8, 8, 8, 8, 8, 8, 8, 8, 8, 8, 8, 8, 8, 8, 8, 8, 8, 8, 8, 8, 8, 8, 8, 8, 8, 8, 8, 8, 8, 8, 8, 8, 8, 8, 8, 8, 8, 8, 8, 8, 8, 8, 8, 8, 8, 8, 8, 8, 8, 8, 8, 8, 8, 8, 8, 8, 8, 8, 8, 8, 8, 8, 8, 8, 8, 8, 8, 8, 8]⟩ : ByteArray) (((a0 / 65536) / 256) % 256)))))) else (none)) else (none)) else (if 0 ≤ ((a0 / 65536) % 256) then (if ((a0 / 65536) % 256) < 256 then (some (wrap64 (16 + (wrap64 (bt (⟨#[0, 1, 2, 2, 3, 3, 3, 3, 4, 4, 4, 4, 4, 4, 4, 4, 5, 5, 5, 5, 5, 5, 5, 5, 5, 5, 5, 5, 5, 5, 5, 5, 6, 6, 6, 6, 6, 6, 6, 6, 6, 6, 6, 6, 6, 6, 6, 6, 6, 6, 6, 6, 6, 6, 6, 6, 6, 6, 6, 6, 6, 6, 6, 6, 7, 7, 7, 7, 7, 7, 7, 7, 7, 7, 7, 7, 7, 7, 7, 7, 7, 7, 7, 7, 7, 7, 7, 7, 7, 7, 7, 7, 7, 7, 7, 7, 7, 7, 7, 7, 7, 7, 7, 7, 7, 7, 7, 7, 7, 7, 7, 7, 7, 7, 7, 7, 7, 7, 7, 7, 7, 7, 7, 7, 7, 7, 7, 7, 8, 8, 8, 8, 8, 8, 8, 8, 8, 8, 8, 8, 8, 8, 8, 8, 8, 8, 8, 8, 8, 8, 8, 8, 8, 8, 8, 8, 8, 8, 8, 8, 8, 8, 8, 8, 8, 8, 8, 8, 8, 8, 8, 8, 8, 8, 8, 8, 8, 8, 8, 8, 8, 8, 8, 8, 8, 8, 8, 8, 8, 8, 8, 8, 8, 8, 8, 8, 8, 8, 8, 8, 8, 8, 8, 8, 8, 8, 8, 8, 8, 8, 8, 8, 8, 8, 8, 8, 8, 8, 8, 8, 8, 8, 8, 8, 8, 8, 8, 8, 8, 8, 8, 8, 8, 8, 8, 8, 8, 8, 8, 8, 8, 8, 8, 8, 8, 8, 8, 8, 8, 8, 8, 8, 8, 8, 8, 8]⟩ : ByteArray) ((a0 / 65536) % 256)))))) else (none)) else (none))) else (if a0 ≥ 256 then (if 0 ≤ ((a0 / 256) % 256) then (if ((a0 / 256) % 256) < 256 then (some (wrap64 ((0 + 8) + (wrap64 (bt (⟨#[0, 1, 2, 2, 3, 3, 3, 3, 4, 4, 4, 4, 4, 4, 4, 4, 5, 5, 5, 5, 5, 5, 5, 5, 5, 5, 5, 5, 5, 5, 5, 5, 6, 6, 6, 6, 6, 6, 6, 6, 6, 6, 6, 6, 6, 6, 6, 6, 6, 6, 6, 6, 6, 6, 6, 6, 6, 6, 6, 6, 6, 6, 6, 6, 7, 7, 7, 7, 7, 7, 7, 7, 7, 7, 7, 7, 7, 7, 7, 7, 7, 7, 7, 7, 7, 7, 7, 7, 7, 7, 7, 7, 7, 7, 7, 7, 7, 7, 7, 7, 7, 7, 7, 7, 7, 7, 7, 7, 7, 7, 7, 7, 7, 7, 7, 7, 7, 7, 7, 7, 7, 7, 7, 7, 7, 7, 7, 7, 8, 8, 8, 8, 8, 8, 8, 8, 8, 8, 8, 8, 8, 8, 8, 8, 8, 8, 8, 8, 8, 8, 8, 8, 8, 8, 8, 8, 8, 8, 8, 8, 8, 8, 8, 8, 8, 8, 8, 8, 8, 8, 8, 8, 8, 8, 8, 8, 8, 8, 8, 8, 8, 8, 8, 8, 8, 8, 8, 8, 8, 8, 8, 8, 8, 8, 8, 8, 8, 8, 8, 8, 8, 8, 8, 8, 8, 8, 8, 8, 8, 8, 8, 8, 8, 8, 8, 8, 8, 8, 8, 8, 8, 8, 8, 8, 8, 8, 8, 8, 8, 8, 8, 8, 8, 8, 8, 8, 8, 8, 8, 8, 8, 8, 8, 8, 8, 8, 8, 8, 8, 8, 8, 8, 8, 8, 8, 8]⟩ : ByteArray) ((a0 / 256) % 256)))))) else (none)) else (none)) else (if 0 ≤ ((a0) % 256) then (if ((a0) % 256) < 256 then (some (wrap64 (0 + (wrap64 (bt (⟨#[0, 1, 2, 2, 3, 3, 3, 3, 4, 4, 4, 4, 4, 4, 4, 4, 5, 5, 5, 5, 5, 5, 5, 5, 5, 5, 5, 5, 5, 5, 5, 5, 6, 6, 6, 6, 6, 6, 6, 6, 6, 6, 6, 6, 6, 6, 6, 6, 6, 6, 6, 6, 6, 6, 6, 6, 6, 6, 6, 6, 6, 6, 6, 6, 7, 7, 7, 7, 7, 7, 7, 7, 7, 7, 7, 7, 7, 7, 7, 7, 7, 7, 7, 7, 7, 7, 7, 7, 7, 7, 7, 7, 7, 7, 7, 7, 7, 7, 7, 7, 7, 7, 7, 7, 7, 7, 7, 7, 7, 7, 7, 7, 7, 7, 7, 7, 7, 7, 7, 7, 7, 7, 7, 7, 7, 7, 7, 7, 8, 8, 8, 8, 8, 8, 8, 8, 8, 8, 8, 8, 8, 8, 8, 8, 8, 8, 8, 8, 8, 8, 8, 8, 8, 8, 8, 8, 8, 8, 8, 8, 8, 8, 8, 8, 8, 8, 8, 8, 8, 8, 8, 8, 8, 8, 8, 8, 8, 8, 8, 8, 8, 8, 8, 8, 8, 8, 8, 8, 8, 8, 8, 8, 8, 8, 8, 8, 8, 8, 8, 8, 8, 8, 8, 8, 8, 8, 8, 8, 8, 8, 8, 8, 8, 8, 8, 8, 8, 8, 8, 8, 8, 8, 8, 8, 8, 8, 8, 8, 8, 8, 8, 8, 8, 8, 8, 8, 8, 8, 8, 8, 8, 8, 8, 8, 8, 8, 8, 8, 8, 8, 8, 8, 8, 8, 8, 8]⟩ : ByteArray) ((a0) % 256)))))) else (none)) else (none)))) = some r := h
  clear h
  by_cases c2 : a0 ≥ 65536
  · rw [if_pos c2] at H
    have c2b0 : decide (65536 ≤ a0) = true := decide_eq_true c2
    clear c2
    by_cases c3 : (a0 / 65536) ≥ 256
    · rw [if_pos c3] at H
      have c3b0 : decide (256 ≤ (a0 / 65536)) = true := decide_eq_true c3
      clear c3
      obtain ⟨ji4, hji4⟩ : ∃ j_ : Int, (((a0 / 65536) / 256) % 256) = j_ := ⟨_, rfl⟩
      replace H : (if 0 ≤ (ji4) then (if (ji4) < 256 then (some (wrap64 ((16 + 8) + (wrap64 (bt (⟨#[0, 1, 2, 2, 3, 3, 3, 3, 4, 4, 4, 4, 4, 4, 4, 4, 5, 5, 5, 5, 5, 5, 5, 5, 5, 5, 5, 5, 5, 5, 5, 5, 6, 6, 6, 6, 6, 6, 6, 6, 6, 6, 6, 6, 6, 6, 6, 6, 6, 6, 6, 6, 6, 6, 6, 6, 6, 6, 6, 6, 6, 6, 6, 6, 7, 7, 7, 7, 7, 7, 7, 7, 7, 7, 7, 7, 7, 7, 7, 7, 7, 7, 7, 7, 7, 7, 7, 7, 7, 7, 7, 7, 7, 7, 7, 7, 7, 7, 7, 7, 7, 7, 7, 7, 7, 7, 7, 7, 7, 7, 7, 7, 7, 7, 7, 7, 7, 7, 7, 7, 7, 7, 7, 7, 7, 7, 7, 7, 8, 8, 8, 8, 8, 8, 8, 8, 8, 8, 8, 8, 8, 8, 8, 8, 8, 8, 8, 8, 8, 8, 8, 8, 8, 8, 8, 8, 8, 8, 8, 8, 8, 8, 8, 8, 8, 8, 8, 8, 8, 8, 8, 8, 8, 8, 8, 8, 8, 8, 8, 8, 8, 8, 8, 8, 8, 8, 8, 8, 8, 8, 8, 8, 8, 8, 8, 8, 8, 8, 8, 8, 8, 8, 8, 8, 8, 8, 8, 8, 8, 8, 8, 8, 8, 8, 8, 8, 8, 8, 8, 8, 8, 8, 8, 8, 8, 8, 8, 8, 8, 8, 8, 8, 8, 8, 8, 8, 8, 8, 8, 8, 8, 8, 8, 8, 8, 8, 8, 8, 8, 8, 8, 8, 8, 8, 8, 8]⟩ : ByteArray) (ji4)))))) else (none)) else (none)) = some r := by first | (rw [hji4] at H; exact H) | (simp only [hji4] at H ⊢; exact H)
      by_cases c5 : 0 ≤ (ji4)
      · rw [if_pos c5] at H
        have c5b0 : decide (0 ≤ (ji4)) = true := decide_eq_true c5
        clear c5
        by_cases c6 : (ji4) < 256
        · rw [if_pos c6] at H
          have c6b0 : decide ((ji4) < 256) = true := decide_eq_true c6
          clear c6
          obtain rfl := Option.some.inj H
          have p7 : 0 ≤ ((ji4) : Int) := of_decide_eq_true (by first | (with_reducible assumption) | assumption)
          have q7 : (ji4) < (256 : Int) := of_decide_eq_true (by first | (with_reducible assumption) | assumption)
          have hx7 := bt_at (⟨#[0, 1, 2, 2, 3, 3, 3, 3, 4, 4, 4, 4, 4, 4, 4, 4, 5, 5, 5, 5, 5, 5, 5, 5, 5, 5, 5, 5, 5, 5, 5, 5, 6, 6, 6, 6, 6, 6, 6, 6, 6, 6, 6, 6, 6, 6, 6, 6, 6, 6, 6, 6, 6, 6, 6, 6, 6, 6, 6, 6, 6, 6, 6, 6, 7, 7, 7, 7, 7, 7, 7, 7, 7, 7, 7, 7, 7, 7, 7, 7, 7, 7, 7, 7, 7, 7, 7, 7, 7, 7, 7, 7, 7, 7, 7, 7, 7, 7, 7, 7, 7, 7, 7, 7, 7, 7, 7, 7, 7, 7, 7, 7, 7, 7, 7, 7, 7, 7, 7, 7, 7, 7, 7, 7, 7, 7, 7, 7, 8, 8, 8, 8, 8, 8, 8, 8, 8, 8, 8, 8, 8, 8, 8, 8, 8, 8, 8, 8, 8, 8, 8, 8, 8, 8, 8, 8, 8, 8, 8, 8, 8, 8, 8, 8, 8, 8, 8, 8, 8, 8, 8, 8, 8, 8, 8, 8, 8, 8, 8, 8, 8, 8, 8, 8, 8, 8, 8, 8, 8, 8, 8, 8, 8, 8, 8, 8, 8, 8, 8, 8, 8, 8, 8, 8, 8, 8, 8, 8, 8, 8, 8, 8, 8, 8, 8, 8, 8, 8, 8, 8, 8, 8, 8, 8, 8, 8, 8, 8, 8, 8, 8, 8, 8, 8, 8, 8, 8, 8, 8, 8, 8, 8, 8, 8, 8, 8, 8, 8, 8, 8, 8, 8, 8, 8, 8, 8]⟩ : ByteArray) (ji4)
          replace p7 := eq_true p7
          replace q7 := eq_true q7
          go_enter Try.func129, Try.ntmps129
          go_wp2
          go_ret
          exact ⟨by first | rfl | (simp; done) | (simp only [← hji4] <;> (first | rfl | simp)) | (simp [*]; done), by repeat (first | exact Drawn0.refl _ | apply Drawn0.step)⟩
        · rw [if_neg c6] at H
          exact absurd H (by simp)
      · rw [if_neg c5] at H
        exact absurd H (by simp)
    · rw [if_neg c3] at H
      have c3b0 : decide (256 ≤ (a0 / 65536)) = false := decide_eq_false c3
      clear c3
      obtain ⟨ji8, hji8⟩ : ∃ j_ : Int, ((a0 / 65536) % 256) = j_ := ⟨_, rfl⟩
      replace H : (if 0 ≤ (ji8) then (if (ji8) < 256 then (some (wrap64 (16 + (wrap64 (bt (⟨#[0, 1, 2, 2, 3, 3, 3, 3, 4, 4, 4, 4, 4, 4, 4, 4, 5, 5, 5, 5, 5, 5, 5, 5, 5, 5, 5, 5, 5, 5, 5, 5, 6, 6, 6, 6, 6, 6, 6, 6, 6, 6, 6, 6, 6, 6, 6, 6, 6, 6, 6, 6, 6, 6, 6, 6, 6, 6, 6, 6, 6, 6, 6, 6, 7, 7, 7, 7, 7, 7, 7, 7, 7, 7, 7, 7, 7, 7, 7, 7, 7, 7, 7, 7, 7, 7, 7, 7, 7, 7, 7, 7, 7, 7, 7, 7, 7, 7, 7, 7, 7, 7, 7, 7, 7, 7, 7, 7, 7, 7, 7, 7, 7, 7, 7, 7, 7, 7, 7, 7, 7, 7, 7, 7, 7, 7, 7, 7, 8, 8, 8, 8, 8, 8, 8, 8, 8, 8, 8, 8, 8, 8, 8, 8, 8, 8, 8, 8, 8, 8, 8, 8, 8, 8, 8, 8, 8, 8, 8, 8, 8, 8, 8, 8, 8, 8, 8, 8, 8, 8, 8, 8, 8, 8, 8, 8, 8, 8, 8, 8, 8, 8, 8, 8, 8, 8, 8, 8, 8, 8, 8, 8, 8, 8, 8, 8, 8, 8, 8, 8, 8, 8, 8, 8, 8, 8, 8, 8, 8, 8, 8, 8, 8, 8, 8, 8, 8, 8, 8, 8, 8, 8, 8, 8, 8, 8, 8, 8, 8, 8, 8, 8, 8, 8, 8, 8, 8, 8, 8, 8, 8, 8, 8, 8, 8, 8, 8, 8, 8, 8, 8, 8, 8, 8, 8, 8]⟩ : ByteArray) (ji8)))))) else (none)) else (none)) = some r := by first | (rw [hji8] at H; exact H) | (simp only [hji8] at H ⊢; exact H)
      by_cases c9 : 0 ≤ (ji8)
      · rw [if_pos c9] at H
        have c9b0 : decide (0 ≤ (ji8)) = true := decide_eq_true c9
        clear c9
        by_cases c10 : (ji8) < 256
        · rw [if_pos c10] at H
          have c10b0 : decide ((ji8) < 256) = true := decide_eq_true c10
          clear c10
          obtain rfl := Option.some.inj H
          have p11 : 0 ≤ ((ji8) : Int) := of_decide_eq_true (by first | (with_reducible assumption) | assumption)
          have q11 : (ji8) < (256 : Int) := of_decide_eq_true (by first | (with_reducible assumption) | assumption)
          have hx11 := bt_at (⟨#[0, 1, 2, 2, 3, 3, 3, 3, 4, 4, 4, 4, 4, 4, 4, 4, 5, 5, 5, 5, 5, 5, 5, 5, 5, 5, 5, 5, 5, 5, 5, 5, 6, 6, 6, 6, 6, 6, 6, 6, 6, 6, 6, 6, 6, 6, 6, 6, 6, 6, 6, 6, 6, 6, 6, 6, 6, 6, 6, 6, 6, 6, 6, 6, 7, 7, 7, 7, 7, 7, 7, 7, 7, 7, 7, 7, 7, 7, 7, 7, 7, 7, 7, 7, 7, 7, 7, 7, 7, 7, 7, 7, 7, 7, 7, 7, 7, 7, 7, 7, 7, 7, 7, 7, 7, 7, 7, 7, 7, 7, 7, 7, 7, 7, 7, 7, 7, 7, 7, 7, 7, 7, 7, 7, 7, 7, 7, 7, 8, 8, 8, 8, 8, 8, 8, 8, 8, 8, 8, 8, 8, 8, 8, 8, 8, 8, 8, 8, 8, 8, 8, 8, 8, 8, 8, 8, 8, 8, 8, 8, 8, 8, 8, 8, 8, 8, 8, 8, 8, 8, 8, 8, 8, 8, 8, 8, 8, 8, 8, 8, 8, 8, 8, 8, 8, 8, 8, 8, 8, 8, 8, 8, 8, 8, 8, 8, 8, 8, 8, 8, 8, 8, 8, 8, 8, 8, 8, 8, 8, 8, 8, 8, 8, 8, 8, 8, 8, 8, 8, 8, 8, 8, 8, 8, 8, 8, 8, 8, 8, 8, 8, 8, 8, 8, 8, 8, 8, 8, 8, 8, 8, 8, 8, 8, 8, 8, 8, 8, 8, 8, 8, 8, 8, 8, 8, 8]⟩ : ByteArray) (ji8)
          replace p11 := eq_true p11
          replace q11 := eq_true q11
          go_enter Try.func129, Try.ntmps129
          go_wp2
          go_ret
          exact ⟨by first | rfl | (simp; done) | (simp only [← hji8] <;> (first | rfl | simp)) | (simp [*]; done), by repeat (first | exact Drawn0.refl _ | apply Drawn0.step)⟩
        · rw [if_neg c10] at H
          exact absurd H (by simp)
      · rw [if_neg c9] at H
        exact absurd H (by simp)
  · rw [if_neg c2] at H
    have c2b0 : decide (65536 ≤ a0) = false := decide_eq_false c2
    clear c2
    by_cases c12 : a0 ≥ 256
    · rw [if_pos c12] at H
      have c12b0 : decide (256 ≤ a0) = true := decide_eq_true c12
      clear c12
      obtain ⟨ji13, hji13⟩ : ∃ j_ : Int, ((a0 / 256) % 256) = j_ := ⟨_, rfl⟩
      replace H : (if 0 ≤ (ji13) then (if (ji13) < 256 then (some (wrap64 ((0 + 8) + (wrap64 (bt (⟨#[0, 1, 2, 2, 3, 3, 3, 3, 4, 4, 4, 4, 4, 4, 4, 4, 5, 5, 5, 5, 5, 5, 5, 5, 5, 5, 5, 5, 5, 5, 5, 5, 6, 6, 6, 6, 6, 6, 6, 6, 6, 6, 6, 6, 6, 6, 6, 6, 6, 6, 6, 6, 6, 6, 6, 6, 6, 6, 6, 6, 6, 6, 6, 6, 7, 7, 7, 7, 7, 7, 7, 7, 7, 7, 7, 7, 7, 7, 7, 7, 7, 7, 7, 7, 7, 7, 7, 7, 7, 7, 7, 7, 7, 7, 7, 7, 7, 7, 7, 7, 7, 7, 7, 7, 7, 7, 7, 7, 7, 7, 7, 7, 7, 7, 7, 7, 7, 7, 7, 7, 7, 7, 7, 7, 7, 7, 7, 7, 8, 8, 8, 8, 8, 8, 8, 8, 8, 8, 8, 8, 8, 8, 8, 8, 8, 8, 8, 8, 8, 8, 8, 8, 8, 8, 8, 8, 8, 8, 8, 8, 8, 8, 8, 8, 8, 8, 8, 8, 8, 8, 8, 8, 8, 8, 8, 8, 8, 8, 8, 8, 8, 8, 8, 8, 8, 8, 8, 8, 8, 8, 8, 8, 8, 8, 8, 8, 8, 8, 8, 8, 8, 8, 8, 8, 8, 8, 8, 8, 8, 8, 8, 8, 8, 8, 8, 8, 8, 8, 8, 8, 8, 8, 8, 8, 8, 8, 8, 8, 8, 8, 8, 8, 8, 8, 8, 8, 8, 8, 8, 8, 8, 8, 8, 8, 8, 8, 8, 8, 8, 8, 8, 8, 8, 8, 8, 8]⟩ : ByteArray) (ji13)))))) else (none)) else (none)) = some r := by first | (rw [hji13] at H; exact H) | (simp only [hji13] at H ⊢; exact H)
      by_cases c14 : 0 ≤ (ji13)
      · rw [if_pos c14] at H
        have c14b0 : decide (0 ≤ (ji13)) = true := decide_eq_true c14
        clear c14
        by_cases c15 : (ji13) < 256
        · rw [if_pos c15] at H
          have c15b0 : decide ((ji13) < 256) = true := decide_eq_true c15
          clear c15
          obtain rfl := Option.some.inj H
          have p16 : 0 ≤ ((ji13) : Int) := of_decide_eq_true (by first | (with_reducible assumption) | assumption)
          have q16 : (ji13) < (256 : Int) := of_decide_eq_true (by first | (with_reducible assumption) | assumption)
          have hx16 := bt_at (⟨#[0, 1, 2, 2, 3, 3, 3, 3, 4, 4, 4, 4, 4, 4, 4, 4, 5, 5, 5, 5, 5, 5, 5, 5, 5, 5, 5, 5, 5, 5, 5, 5, 6, 6, 6, 6, 6, 6, 6, 6, 6, 6, 6, 6, 6, 6, 6, 6, 6, 6, 6, 6, 6, 6, 6, 6, 6, 6, 6, 6, 6, 6, 6, 6, 7, 7, 7, 7, 7, 7, 7, 7, 7, 7, 7, 7, 7, 7, 7, 7, 7, 7, 7, 7, 7, 7, 7, 7, 7, 7, 7, 7, 7, 7, 7, 7, 7, 7, 7, 7, 7, 7, 7, 7, 7, 7, 7, 7, 7, 7, 7, 7, 7, 7, 7, 7, 7, 7, 7, 7, 7, 7, 7, 7, 7, 7, 7, 7, 8, 8, 8, 8, 8, 8, 8, 8, 8, 8, 8, 8, 8, 8, 8, 8, 8, 8, 8, 8, 8, 8, 8, 8, 8, 8, 8, 8, 8, 8, 8, 8, 8, 8, 8, 8, 8, 8, 8, 8, 8, 8, 8, 8, 8, 8, 8, 8, 8, 8, 8, 8, 8, 8, 8, 8, 8, 8, 8, 8, 8, 8, 8, 8, 8, 8, 8, 8, 8, 8, 8, 8, 8, 8, 8, 8, 8, 8, 8, 8, 8, 8, 8, 8, 8, 8, 8, 8, 8, 8, 8, 8, 8, 8, 8, 8, 8, 8, 8, 8, 8, 8, 8, 8, 8, 8, 8, 8, 8, 8, 8, 8, 8, 8, 8, 8, 8, 8, 8, 8, 8, 8, 8, 8, 8, 8, 8, 8]⟩ : ByteArray) (ji13)
          replace p16 := eq_true p16
          replace q16 := eq_true q16
          go_enter Try.func129, Try.ntmps129
          go_wp2
          go_ret
          exact ⟨by first | rfl | (simp; done) | (simp only [← hji13] <;> (first | rfl | simp)) | (simp [*]; done), by repeat (first | exact Drawn0.refl _ | apply Drawn0.step)⟩
        · rw [if_neg c15] at H
          exact absurd H (by simp)
      · rw [if_neg c14] at H
        exact absurd H (by simp)
    · rw [if_neg c12] at H
      have c12b0 : decide (256 ≤ a0) = false := decide_eq_false c12
      clear c12
      obtain ⟨ji17, hji17⟩ : ∃ j_ : Int, ((a0) % 256) = j_ := ⟨_, rfl⟩
      replace H : (if 0 ≤ (ji17) then (if (ji17) < 256 then (some (wrap64 (0 + (wrap64 (bt (⟨#[0, 1, 2, 2, 3, 3, 3, 3, 4, 4, 4, 4, 4, 4, 4, 4, 5, 5, 5, 5, 5, 5, 5, 5, 5, 5, 5, 5, 5, 5, 5, 5, 6, 6, 6, 6, 6, 6, 6, 6, 6, 6, 6, 6, 6, 6, 6, 6, 6, 6, 6, 6, 6, 6, 6, 6, 6, 6, 6, 6, 6, 6, 6, 6, 7, 7, 7, 7, 7, 7, 7, 7, 7, 7, 7, 7, 7, 7, 7, 7, 7, 7, 7, 7, 7, 7, 7, 7, 7, 7, 7, 7, 7, 7, 7, 7, 7, 7, 7, 7, 7, 7, 7, 7, 7, 7, 7, 7, 7, 7, 7, 7, 7, 7, 7, 7, 7, 7, 7, 7, 7, 7, 7, 7, 7, 7, 7, 7, 8, 8, 8, 8, 8, 8, 8, 8, 8, 8, 8, 8, 8, 8, 8, 8, 8, 8, 8, 8, 8, 8, 8, 8, 8, 8, 8, 8, 8, 8, 8, 8, 8, 8, 8, 8, 8, 8, 8, 8, 8, 8, 8, 8, 8, 8, 8, 8, 8, 8, 8, 8, 8, 8, 8, 8, 8, 8, 8, 8, 8, 8, 8, 8, 8, 8, 8, 8, 8, 8, 8, 8, 8, 8, 8, 8, 8, 8, 8, 8, 8, 8, 8, 8, 8, 8, 8, 8, 8, 8, 8, 8, 8, 8, 8, 8, 8, 8, 8, 8, 8, 8, 8, 8, 8, 8, 8, 8, 8, 8, 8, 8, 8, 8, 8, 8, 8, 8, 8, 8, 8, 8, 8, 8, 8, 8, 8, 8]⟩ : ByteArray) (ji17)))))) else (none)) else (none)) = some r := by first | (rw [hji17] at H; exact H) | (simp only [hji17] at H ⊢; exact H)
      by_cases c18 : 0 ≤ (ji17)
      · rw [if_pos c18] at H
        have c18b0 : decide (0 ≤ (ji17)) = true := decide_eq_true c18
        clear c18
        by_cases c19 : (ji17) < 256
        · rw [if_pos c19] at H
          have c19b0 : decide ((ji17) < 256) = true := decide_eq_true c19
          clear c19
          obtain rfl := Option.some.inj H
          have p20 : 0 ≤ ((ji17) : Int) := of_decide_eq_true (by first | (with_reducible assumption) | assumption)
          have q20 : (ji17) < (256 : Int) := of_decide_eq_true (by first | (with_reducible assumption) | assumption)
          have hx20 := bt_at (⟨#[0, 1, 2, 2, 3, 3, 3, 3, 4, 4, 4, 4, 4, 4, 4, 4, 5, 5, 5, 5, 5, 5, 5, 5, 5, 5, 5, 5, 5, 5, 5, 5, 6, 6, 6, 6, 6, 6, 6, 6, 6, 6, 6, 6, 6, 6, 6, 6, 6, 6, 6, 6, 6, 6, 6, 6, 6, 6, 6, 6, 6, 6, 6, 6, 7, 7, 7, 7, 7, 7, 7, 7, 7, 7, 7, 7, 7, 7, 7, 7, 7, 7, 7, 7, 7, 7, 7, 7, 7, 7, 7, 7, 7, 7, 7, 7, 7, 7, 7, 7, 7, 7, 7, 7, 7, 7, 7, 7, 7, 7, 7, 7, 7, 7, 7, 7, 7, 7, 7, 7, 7, 7, 7, 7, 7, 7, 7, 7, 8, 8, 8, 8, 8, 8, 8, 8, 8, 8, 8, 8, 8, 8, 8, 8, 8, 8, 8, 8, 8, 8, 8, 8, 8, 8, 8, 8, 8, 8, 8, 8, 8, 8, 8, 8, 8, 8, 8, 8, 8, 8, 8, 8, 8, 8, 8, 8, 8, 8, 8, 8, 8, 8, 8, 8, 8, 8, 8, 8, 8, 8, 8, 8, 8, 8, 8, 8, 8, 8, 8, 8, 8, 8, 8, 8, 8, 8, 8, 8, 8, 8, 8, 8, 8, 8, 8, 8, 8, 8, 8, 8, 8, 8, 8, 8, 8, 8, 8, 8, 8, 8, 8, 8, 8, 8, 8, 8, 8, 8, 8, 8, 8, 8, 8, 8, 8, 8, 8, 8, 8, 8, 8, 8, 8, 8, 8, 8]⟩ : ByteArray) (ji17)
          replace p20 := eq_true p20
          replace q20 := eq_true q20
          go_enter Try.func129, Try.ntmps129
          go_wp2
          go_ret
          exact ⟨by first | rfl | (simp; done) | (simp only [← hji17] <;> (first | rfl | simp)) | (simp [*]; done), by repeat (first | exact Drawn0.refl _ | apply Drawn0.step)⟩
        · rw [if_neg c19] at H
          exact absurd H (by simp)
      · rw [if_neg c18] at H
        exact absurd H (by simp)
end Go.Proofs.Ytlifengbicpppaa.G
end
section
namespace Go.Proofs.Ytlifengbicpppaa.G
open Go.RowKit Go.Proofs.YtlifengbicpppaaW.PrintWords Go.Proofs.YtlifengbicpppaaW.PrintLast Go.Proofs.YtlifengbicpppaaW.PrintMore
attribute [local go_sem] max2_int min2_int max_two min_two max_three min_three max_four min_four   -- for this text's walks alone
set_option linter.unusedVariables false
set_option linter.unusedSimpArgs false
def bits_LeadingZeros32.f (a0 : Int) : Option (Int) := (bits_Len32.f a0).bind fun t111 => (some (wrap64 (32 - t111)))
set_option maxHeartbeats 8000000 in
set_option maxRecDepth 100000 in
theorem bits_LeadingZeros32.calls (a0 : Int) (r : Int) (w : World) (h : bits_LeadingZeros32.f a0 = some r) :
    Calls Try.prog 116 #[.int .u32 a0] w fun e w' => e = .returned (.int .i64 r) ∧ Drawn0 w w' := by
  have H : ((bits_Len32.f a0).bind fun t111 => (some (wrap64 (32 - t111)))) = some r := h
  clear h
  replace H := Option.bind_eq_some_iff.mp H
  obtain ⟨t111, A20, H⟩ := H
  replace H : (some (wrap64 (32 - t111))) = some r := H
  have A2 := Aside0.mk A20
  clear A20
  obtain rfl := Option.some.inj H
  go_enter Try.func116, Try.ntmps116
  go_wp2_with (first | ((with_reducible refine gate_callee (f := 129) rfl ?_); refine goesL_ (some 4) rfl rfl Try.func129 (by kernel_rfl) rfl #[.int .u32 a0] rfl (by (try simp only [List.map_toArray, List.map_cons, List.map_nil]); first | done | rfl | (simp only [List.length_drop, List.length_take]; rfl)) ?_; (with_reducible refine (bits_Len32.calls a0 t111 _ A2.out).mono ?_); rintro e w' ⟨rfl, ⟨nd, rfl⟩⟩; refine ⟨_, rfl, ?_⟩))
  go_ret
  exact ⟨by first | rfl | (simp; done) | (simp [*]; done), by repeat (first | exact Drawn0.refl _ | apply Drawn0.step)⟩
end Go.Proofs.Ytlifengbicpppaa.G
end
section
namespace Go.Proofs.Ytlifengbicpppaa.G
open Go.RowKit Go.Proofs.YtlifengbicpppaaW.PrintWords Go.Proofs.YtlifengbicpppaaW.PrintLast Go.Proofs.YtlifengbicpppaaW.PrintMore
def tab8 : ByteArray := (⟨#[0, 1, 2, 2, 3, 3, 3, 3, 4, 4, 4, 4, 4, 4, 4, 4, 5, 5, 5, 5, 5, 5, 5, 5, 5, 5, 5, 5, 5, 5, 5, 5, 6, 6, 6, 6, 6, 6, 6, 6, 6, 6, 6, 6, 6, 6, 6, 6, 6, 6, 6, 6, 6, 6, 6, 6, 6, 6, 6, 6, 6, 6, 6, 6, 7, 7, 7, 7, 7, 7, 7, 7, 7, 7, 7, 7, 7, 7, 7, 7, 7, 7, 7, 7, 7, 7, 7, 7, 7, 7, 7, 7, 7, 7, 7, 7, 7, 7, 7, 7, 7, 7, 7, 7, 7, 7, 7, 7, 7, 7, 7, 7, 7, 7, 7, 7, 7, 7, 7, 7, 7, 7, 7, 7, 7, 7, 7, 7, 8, 8, 8, 8, 8, 8, 8, 8, 8, 8, 8, 8, 8, 8, 8, 8, 8, 8, 8, 8, 8, 8, 8, 8, 8, 8, 8, 8, 8, 8, 8, 8, 8, 8, 8, 8, 8, 8, 8, 8, 8, 8, 8, 8, 8, 8, 8, 8, 8, 8, 8, 8, 8, 8, 8, 8, 8, 8, 8, 8, 8, 8, 8, 8, 8, 8, 8, 8, 8, 8, 8, 8, 8, 8, 8, 8, 8, 8, 8, 8, 8, 8, 8, 8, 8, 8, 8, 8, 8, 8, 8, 8, 8, 8, 8, 8, 8, 8, 8, 8, 8, 8, 8, 8, 8, 8, 8, 8, 8, 8, 8, 8, 8, 8, 8, 8, 8, 8, 8, 8, 8, 8, 8, 8, 8, 8, 8, 8]⟩ : ByteArray)
/-- How long a number of eight bits is. -/
def okLen (x t : Int) : Bool := decide (0 ≤ t ∧ t ≤ 8 ∧ x < 2 ^ t.toNat ∧ (t = 0 ∨ 2 ^ (t.toNat - 1) ≤ x))
set_option maxRecDepth 100000 in
theorem tab8_all : (List.range 256).all (fun x => okLen (x : Int) (bt tab8 (x : Int))) = true := by decide +kernel
theorem tab8_ok (x : Int) (h0 : 0 ≤ x) (h1 : x < 256) : 0 ≤ bt tab8 x ∧ bt tab8 x ≤ 8 ∧ x < 2 ^ (bt tab8 x).toNat ∧ (bt tab8 x = 0 ∨ 2 ^ ((bt tab8 x).toNat - 1) ≤ x) := by
  have := List.all_eq_true.1 tab8_all x.toNat (List.mem_range.2 (by omega))
  rw [Int.toNat_of_nonneg h0] at this
  exact of_decide_eq_true this
theorem len32_eq (a0 : Int) : bits_Len32.f a0 = if a0 ≥ 65536 then (if (a0 / 65536) ≥ 256 then (if 0 ≤ (((a0 / 65536) / 256) % 256) then (if (((a0 / 65536) / 256) % 256) < 256 then (some (wrap64 ((16 + 8) + (wrap64 (bt tab8 (((a0 / 65536) / 256) % 256)))))) else (none)) else (none)) else (if 0 ≤ ((a0 / 65536) % 256) then (if ((a0 / 65536) % 256) < 256 then (some (wrap64 (16 + (wrap64 (bt tab8 ((a0 / 65536) % 256)))))) else (none)) else (none))) else (if a0 ≥ 256 then (if 0 ≤ ((a0 / 256) % 256) then (if ((a0 / 256) % 256) < 256 then (some (wrap64 ((0 + 8) + (wrap64 (bt tab8 ((a0 / 256) % 256)))))) else (none)) else (none)) else (if 0 ≤ ((a0) % 256) then (if ((a0) % 256) < 256 then (some (wrap64 (0 + (wrap64 (bt tab8 ((a0) % 256)))))) else (none)) else (none))) := rfl
/-- L is how many bits x has. -/
def IsLen (x L : Int) : Prop := 0 ≤ L ∧ x < 2 ^ L.toNat ∧ (L = 0 ∨ 2 ^ (L.toNat - 1) ≤ x)
theorem isLen_shift {x t : Int} {k : Nat} (h0 : 0 ≤ t) (h2 : x / 2 ^ k < 2 ^ t.toNat) (h3 : t = 0 ∨ 2 ^ (t.toNat - 1) ≤ x / 2 ^ k) (hne : t ≠ 0) : IsLen x (t + k) := by
  have hp : (0 : Int) < 2 ^ k := Int.pow_pos (by decide)
  have e : (t + (k : Int)).toNat = t.toNat + k := by omega
  refine ⟨by omega, ?_, .inr ?_⟩
  · rw [e, Int.pow_add]
    exact Int.lt_mul_of_ediv_lt hp h2
  · rw [e, show t.toNat + k - 1 = (t.toNat - 1) + k by omega, Int.pow_add]
    rcases h3 with h | h
    · exact absurd h hne
    · exact (Int.le_ediv_iff_mul_le hp).1 h
theorem len32_spec (x : Int) (h0 : 0 ≤ x) (h1 : x < 4294967296) : ∃ L, bits_Len32.f x = some L ∧ L ≤ 32 ∧ IsLen x L := by
  rw [len32_eq]
  split
  · split
    · have hy : x / 65536 / 256 % 256 = x / 2 ^ 24 := by omega
      rw [hy]
      have ht := tab8_ok (x / 2 ^ 24) (by omega) (by omega)
      rw [if_pos (by omega), if_pos (by omega)]
      refine ⟨_, rfl, ?_⟩
      generalize bt tab8 (x / 2 ^ 24) = t at *
      have e : wrap64 (16 + 8 + wrap64 t) = t + (24 : Nat) := by simp only [wrap64]; omega
      rw [e]
      refine ⟨by omega, isLen_shift ht.1 ht.2.2.1 ht.2.2.2 (fun h => ?_)⟩
      subst h
      have := ht.2.2.1
      simp at this
      omega
    · have hy : x / 65536 % 256 = x / 2 ^ 16 := by omega
      rw [hy]
      have ht := tab8_ok (x / 2 ^ 16) (by omega) (by omega)
      rw [if_pos (by omega), if_pos (by omega)]
      refine ⟨_, rfl, ?_⟩
      generalize bt tab8 (x / 2 ^ 16) = t at *
      have e : wrap64 (16 + wrap64 t) = t + (16 : Nat) := by simp only [wrap64]; omega
      rw [e]
      refine ⟨by omega, isLen_shift ht.1 ht.2.2.1 ht.2.2.2 (fun h => ?_)⟩
      subst h
      have := ht.2.2.1
      simp at this
      omega
  · split
    · have hy : x / 256 % 256 = x / 2 ^ 8 := by omega
      rw [hy]
      have ht := tab8_ok (x / 2 ^ 8) (by omega) (by omega)
      rw [if_pos (by omega), if_pos (by omega)]
      refine ⟨_, rfl, ?_⟩
      generalize bt tab8 (x / 2 ^ 8) = t at *
      have e : wrap64 (0 + 8 + wrap64 t) = t + (8 : Nat) := by simp only [wrap64]; omega
      rw [e]
      refine ⟨by omega, isLen_shift ht.1 ht.2.2.1 ht.2.2.2 (fun h => ?_)⟩
      subst h
      have := ht.2.2.1
      simp at this
      omega
    · have hy : x % 256 = x := by omega
      rw [hy]
      have ht := tab8_ok x (by omega) (by omega)
      rw [if_pos (by omega), if_pos (by omega)]
      refine ⟨_, rfl, ?_⟩
      generalize bt tab8 x = t at *
      have e : wrap64 (0 + wrap64 t) = t := by simp only [wrap64]; omega
      rw [e]
      exact ⟨by omega, ht.1, ht.2.2.1, ht.2.2.2⟩
/-- How many noughts lead: the limb, so shifted, has its highest bit set. -/
theorem lz32_spec (x : Int) (h0 : 0 < x) (h1 : x < 4294967296) : ∃ s : Nat, bits_LeadingZeros32.f x = some (s : Int) ∧ s < 32 ∧ 2147483648 ≤ x * 2 ^ s ∧ x * 2 ^ s < 4294967296 := by
  obtain ⟨L, h, hL, h2, h3, h4⟩ := len32_spec x (by omega) h1
  have hL1 : L ≠ 0 := fun e => by
    subst e
    simp at h3
    omega
  refine ⟨(32 - L).toNat, ?_, by omega, ?_, ?_⟩
  · unfold bits_LeadingZeros32.f
    rw [h]
    simp only [Option.bind_some, wrap64]
    congr 1
    omega
  · rcases h4 with h4 | h4
    · exact absurd h4 hL1
    · have hp : (0 : Int) < 2 ^ (32 - L).toNat := Int.pow_pos (by decide)
      have := Int.mul_le_mul_of_nonneg_right h4 (Int.le_of_lt hp)
      rw [← Int.pow_add, show L.toNat - 1 + (32 - L).toNat = 31 by omega] at this
      simpa using this
  · have hp : (0 : Int) < 2 ^ (32 - L).toNat := Int.pow_pos (by decide)
    have := Int.mul_lt_mul_of_pos_right h3 hp
    rw [← Int.pow_add, show L.toNat + (32 - L).toNat = 32 by omega] at this
    simpa using this
end Go.Proofs.Ytlifengbicpppaa.G
end
section
namespace Go.Proofs.Ytlifengbicpppaa.G
open Go
section
variable {P : Program} {md : Region.Mode} {ops : Array Oper} {Q : Exit → Act → World → Prop}
/-- Q, where the way on is the only one. -/
def OnlyN (Q : Exit → Act → World → Prop) : Exit → Act → World → Prop
  | .normal, a, w => Q .normal a w
  | _, _, _ => False
theorem onlyN {a : Act} {w : World} (h : Q .normal a w) : OnlyN Q .normal a w := h
def noDefer (ops : Array Oper) : Bool := ops.all fun o => match o.op with | .defer .. => false | _ => true
theorem noDefer_spec (h : noDefer ops = true) (j : Nat) (o : Oper) (ho : ops[j]? = some o) : ∀ c, o.op ≠ .defer c := by
  intro c heq
  have := Array.all_eq_true_iff_forall_mem.1 h o (Array.mem_of_getElem? ho)
  simp [heq] at this
theorem rows_inRound {n l : Nat} {row : String} {args : Array Value} {w : World} {R : Value → World → Prop} (h : Rows P row args w R) : RowsIn (Fence.wide.inRound l) n P row args w R := fun c cs _ =>
  let ⟨v, w', r, s⟩ := h c cs
  ⟨v, w', r, stepsIn_wide.2 s⟩
theorem wpOpIn_of {n l i : Nat} {a : Act} {w : World} {K : Act → World → Prop} (hnd : noDefer ops = true) (h : wpOp P ops (OnlyN Q) i K a w) : wpOpIn (Fence.wide.inRound l) (n + 1) P ops (OnlyN Q) i K a w := by
  unfold wpOp at h
  unfold wpOpIn
  cases ho : ops[i]? with
  | none => simp only [ho] at h ⊢; exact h
  | some o =>
    simp only [ho] at h ⊢
    split at h
    · rename_i hw
      rw [if_pos hw]
      rcases h with h | ⟨_, a', w', h⟩
      · refine ⟨fun _ _ => trivial, ?_⟩
        rw [Oper.semAt_plain _ _ _ (noDefer_spec hnd i o ho)]
        unfold Oper.wp at h
        generalize (execOp a.eval o).run P w = r at *
        cases r with
        | ok x w' =>
          cases x <;> simp only [Oper.upon, Oper.uponIn] at h ⊢
          case value u => exact h
          case skip => exact h
          case defer d => exact h
          case enter f args => exact ⟨(fun h' => by cases h'), CallsIn.inRound l (callsIn_wide.2 h)⟩
          case row row args => exact ⟨(fun h' => by cases h'), rows_inRound h⟩
        | halt x w' =>
          cases x <;> simp only [Oper.upon, Oper.uponIn] at h ⊢
          case panic u => exact h
      · exact h.elim
    · rename_i hw
      rw [if_neg hw]
      exact ⟨fun _ _ => trivial, h⟩
theorem wpAnyIn_of {n l : Nat} (hnd : noDefer ops = true) : ∀ (fuel : Nat) (listed : Array Bool) (a : Act) (w : World), wpAny P md ops (OnlyN Q) fuel listed a w → wpAnyIn (Fence.wide.inRound l) (n + 1) P md ops (OnlyN Q) fuel listed a w
  | 0, _, _, _, h => h
  | fuel + 1, _, _, _, h => ⟨h.1, fun i hi => wpOpIn_of hnd (wpOp_mono (fun a' w' h' => wpAnyIn_of hnd fuel _ a' w' h') (h.2 i hi))⟩
/-- A region that draws, in a round. -/
theorem wpIn_region_TL {n l id st : Nat} {a : Act} {w : World} {ol : List Oper} (S : World → Prop) (hm : P.follows .mixedOrders = true) (hnd : noDefer ol.toArray = true) (h : wpTL P ol.toArray (OnlyN Q) S st ol 0 a w.drew) :
    (Code.region id ol.toArray true).wpIn (Fence.wide.inRound l) (n + 1) P Q a w := by
  refine Code.wpIn_mono (Q := OnlyN Q) (fun e a w h => ?_) (wpIn_region_any hm (wpAnyIn_of hnd _ _ _ _ (wpAny_of_T (S := S) (st := st) _ _ _ _ ?_)))
  · cases e <;> first | exact h | exact (h : False).elim
  · have h := h rfl
    unfold wpT at h
    rw [Nat.sub_zero, pre_zero] at h
    exact h
/-- .. and outside of one, where the way on is the only one. -/
theorem wp_region_TN {id st : Nat} {a : Act} {w : World} {ol : List Oper} (S : World → Prop) (hm : P.follows .mixedOrders = true) (h : wpTL P ol.toArray (OnlyN Q) S st ol 0 a w.drew) : (Code.region id ol.toArray true).wp P Q a w := by
  refine Code.wp_mono (Q := OnlyN Q) (fun e a w h => ?_) (wp_region_TL S st hm h)
  cases e <;> first | exact h | exact (h : False).elim
end
end Go.Proofs.Ytlifengbicpppaa.G
end
section
namespace Go.Proofs.Ytlifengbicpppaa.G
open Go.RowKit Go.Proofs.YtlifengbicpppaaW.PrintWords Go.Proofs.YtlifengbicpppaaW.PrintLast Go.Proofs.YtlifengbicpppaaW.PrintMore
open Go.Proofs.Ytlifengbicpppaa.Num
/-- The head of what is divided is less than what divides. -/
theorem start_lt {us vs l0 : List Int} {m N : Nat} {z : Int} (hul : us.length = N + m + 1) (h0 : l0.length = m + N) (d0 : Dg 4294967296 l0) (hv : Dg 4294967296 vs) (hvl : vs.length = m + 1)
    (huv : (val 4294967296 us : Int) = (val 4294967296 l0 : Int) * z) (hz : z ≤ 2147483648) (hf : 2147483648 ≤ rd vs (m : Nat)) : (win us N (m + 1) : Int) < (val 4294967296 vs : Int) := by
  have hU : (val 4294967296 us : Int) = (win us 0 N : Int) + ((4294967296 ^ N : Nat) : Int) * (win us N (m + 1) : Int) := by
    rw [val_win, hul, Nat.add_assoc, win_split us N (m + 1) (by omega)]
    simp
  have hX := val_lt d0
  rw [h0, Nat.pow_add] at hX
  have hX' : (val 4294967296 l0 : Int) < ((4294967296 ^ m : Nat) : Int) * ((4294967296 ^ N : Nat) : Int) := by
    have := Int.ofNat_lt.2 hX
    simpa using this
  have hV : (val 4294967296 vs : Int) = (win vs 0 m : Int) + ((4294967296 ^ m : Nat) : Int) * rd vs ((m : Nat) : Int) := by
    have := win_top vs 0 m (by omega) hv
    rw [Nat.zero_add] at this
    rw [val_win, hvl, this]
  have p1 := pw_pos m
  have p2 := pw_pos N
  have w0 : 0 ≤ (win us 0 N : Int) := by omega
  have w1 : 0 ≤ (win vs 0 m : Int) := by omega
  have x0 : 0 ≤ (val 4294967296 l0 : Int) := by omega
  generalize (val 4294967296 l0 : Int) = X at *
  generalize (win us N (m + 1) : Int) = H at *
  generalize ((4294967296 ^ m : Nat) : Int) = M at *
  generalize ((4294967296 ^ N : Nat) : Int) = B at *
  have e1 : X * z ≤ X * 2147483648 := Int.mul_le_mul_of_nonneg_left hz x0
  have e2 : M * 2147483648 ≤ M * rd vs ((m : Nat) : Int) := Int.mul_le_mul_of_nonneg_left hf (Int.le_of_lt p1)
  have e3 : H * B < (M * 2147483648) * B := by
    have : B * H ≤ X * 2147483648 := by omega
    have h4 : X * 2147483648 < M * B * 2147483648 := Int.mul_lt_mul_of_pos_right hX' (by decide)
    have h5 : M * B * 2147483648 = (M * 2147483648) * B := by grind
    have h6 : B * H = H * B := Int.mul_comm _ _
    omega
  have := mul_lt_cancel p2 e3
  omega
/-- What divides, shifted: its highest limb. -/
theorem vs_top {vs l1 : List Int} {m s : Nat} (hs : s < 32) (hm : l1.length = m + 1) (d1 : Dg 4294967296 l1) (hvl : vs.length = l1.length + 1) (hvd : Dg 4294967296 vs) (hvv : (val 4294967296 vs : Int) = (val 4294967296 l1 : Int) * 2 ^ s)
    (hsl : 2147483648 ≤ rd l1 (m : Nat) * 2 ^ s) (hsu : rd l1 (m : Nat) * 2 ^ s < 4294967296) : 2147483648 ≤ rd (vs.take (m + 1)) (m : Nat) ∧ (val 4294967296 (vs.take (m + 1)) : Int) = (val 4294967296 l1 : Int) * 2 ^ s := by
  have hp : (0 : Int) < 2 ^ s := Int.pow_pos (by decide)
  have e : (4294967296 : Int) = 2 ^ (32 - s) * 2 ^ s := by rw [← Int.pow_add, show 32 - s + s = 32 by omega]; rfl
  have hY : (val 4294967296 l1 : Int) = (win l1 0 m : Int) + ((4294967296 ^ m : Nat) : Int) * rd l1 ((m : Nat) : Int) := by
    have := win_top l1 0 m (by omega) d1
    rw [Nat.zero_add] at this
    rw [val_win, hm, this]
  have hV : (val 4294967296 vs : Int) = (win vs 0 (m + 1) : Int) + ((4294967296 ^ (m + 1) : Nat) : Int) * rd vs ((m + 1 : Nat) : Int) := by
    have := win_top vs 0 (m + 1) (by omega) hvd
    rw [Nat.zero_add] at this
    rw [val_win, hvl, hm, this]
  have hT : (win vs 0 (m + 1) : Int) = (win vs 0 m : Int) + ((4294967296 ^ m : Nat) : Int) * rd vs ((m : Nat) : Int) := by
    have := win_top vs 0 m (by omega) hvd
    rwa [Nat.zero_add] at this
  have hW : val 4294967296 (vs.take (m + 1)) = win vs 0 (m + 1) := by unfold win; rw [List.drop_zero]
  have hr : rd (vs.take (m + 1)) ((m : Nat) : Int) = rd vs ((m : Nat) : Int) := by simp [rd, List.getD_eq_getElem?_getD, List.getElem?_take]
  have l1b := win_lti d1 0 m
  have l2b := win_lti hvd 0 m
  have l3b := win_lti hvd 0 (m + 1)
  have t0 := rdb hvd ((m + 1 : Nat) : Int)
  have p0 := pw_pos m
  have p1 := pw_pos (m + 1)
  have hq := pw_succ m
  have hx : (rd l1 ((m : Nat) : Int) + 1) * 2 ^ s ≤ 4294967296 := by
    rw [e] at hsu
    have h1 : rd l1 ((m : Nat) : Int) < 2 ^ (32 - s) := Int.lt_of_mul_lt_mul_right hsu (Int.le_of_lt hp)
    rw [e]
    exact Int.mul_le_mul_of_nonneg_right (by omega) (Int.le_of_lt hp)
  have w0 : 0 ≤ (win l1 0 m : Int) := by omega
  have w1 : 0 ≤ (win vs 0 m : Int) := by omega
  have w2 : 0 ≤ (win vs 0 (m + 1) : Int) := by omega
  rw [hW, hr]
  rw [hq] at hV l3b p1
  generalize rd vs ((m + 1 : Nat) : Int) = top at *
  generalize rd vs ((m : Nat) : Int) = f at *
  generalize rd l1 ((m : Nat) : Int) = g at *
  generalize (win vs 0 (m + 1) : Int) = V at *
  generalize (win vs 0 m : Int) = v at *
  generalize (win l1 0 m : Int) = y at *
  generalize (val 4294967296 l1 : Int) = Y at *
  generalize (val 4294967296 vs : Int) = A at *
  generalize ((4294967296 ^ m : Nat) : Int) = M at *
  generalize (2 : Int) ^ s = z at *
  have hA : Y * z < M * 4294967296 := by
    have h1 : Y < M * (g + 1) := by grind
    have h2 : Y * z < M * (g + 1) * z := Int.mul_lt_mul_of_pos_right h1 hp
    have h3 : M * ((g + 1) * z) ≤ M * 4294967296 := Int.mul_le_mul_of_nonneg_left hx (Int.le_of_lt p0)
    have h4 : M * (g + 1) * z = M * ((g + 1) * z) := Int.mul_assoc _ _ _
    omega
  have ht : top = 0 := by
    by_cases h : top = 0
    · exact h
    · exfalso
      have : M * 4294967296 * 1 ≤ M * 4294967296 * top := Int.mul_le_mul_of_nonneg_left (by omega) (Int.le_of_lt p1)
      omega
  subst ht
  rw [Int.mul_zero, Int.add_zero] at hV
  refine ⟨?_, by omega⟩
  have h1 : g * z * M < (f + 1) * M := by
    have h2 : 0 ≤ y * z := Int.mul_nonneg w0 (Int.le_of_lt hp)
    have h3 : Y * z = y * z + g * z * M := by rw [hY, Int.add_mul, Int.mul_assoc M g z, Int.mul_comm M]
    have h4 : (f + 1) * M = M * f + M := by rw [Int.add_mul, Int.one_mul, Int.mul_comm]
    omega
  have := mul_lt_cancel p0 h1
  omega
end Go.Proofs.Ytlifengbicpppaa.G
end
section
namespace Go.Proofs.Ytlifengbicpppaa.G
open Go.RowKit Go.Proofs.YtlifengbicpppaaW.PrintWords Go.Proofs.YtlifengbicpppaaW.PrintLast Go.Proofs.YtlifengbicpppaaW.PrintMore
open Go.Proofs.Ytlifengbicpppaa.Num
/-- A limb of the rest, out of two. -/
def rl (a b : Int) (s : Nat) : Int := (a * 4294967296 + b) / 2 ^ s % 4294967296
theorem rl_spec (a b : Int) (s : Nat) (hs : s < 32) (h2 : 0 ≤ b) (h3 : b < 4294967296) :
    0 ≤ rl a b s ∧ rl a b s < 4294967296 ∧ rl a b s * 2 ^ s = b - b % 2 ^ s + (a % 2 ^ s) * 4294967296 := by
  have e : (4294967296 : Int) = 2 ^ (32 - s) * 2 ^ s := by rw [← Int.pow_add, show 32 - s + s = 32 by omega]; rfl
  have hp : (0 : Int) < 2 ^ s := Int.pow_pos (by decide)
  have hp2 : (0 : Int) < 2 ^ (32 - s) := Int.pow_pos (by decide)
  have ha := Int.emod_nonneg a (show (2 : Int) ^ s ≠ 0 by omega)
  have ha' := Int.emod_lt_of_pos a hp
  have hb := Int.emod_nonneg b (show (2 : Int) ^ s ≠ 0 by omega)
  have hb' := Int.emod_lt_of_pos b hp
  have ea := Int.mul_ediv_add_emod a (2 ^ s)
  have eb := Int.mul_ediv_add_emod b (2 ^ s)
  have hq0 : 0 ≤ b / 2 ^ s := Int.ediv_nonneg h2 (Int.le_of_lt hp)
  have hq1 : b / 2 ^ s < 2 ^ (32 - s) := Int.ediv_lt_of_lt_mul hp (by omega)
  have hm : (a % 2 ^ s + 1) * 2 ^ (32 - s) ≤ 2 ^ s * 2 ^ (32 - s) := Int.mul_le_mul_of_nonneg_right (by omega) (Int.le_of_lt hp2)
  have hm0 : 0 ≤ a % 2 ^ s * 2 ^ (32 - s) := Int.mul_nonneg ha (Int.le_of_lt hp2)
  have e' : (2 : Int) ^ s * 2 ^ (32 - s) = 4294967296 := by rw [Int.mul_comm]; exact e.symm
  have key : (a * 4294967296 + b) / 2 ^ s = a * 2 ^ (32 - s) + b / 2 ^ s := by
    have : a * 4294967296 + b = b + (a * 2 ^ (32 - s)) * 2 ^ s := by rw [Int.mul_assoc, ← e]; omega
    rw [this, Int.add_mul_ediv_right _ _ (by omega)]
    omega
  have key2 : rl a b s = b / 2 ^ s + a % 2 ^ s * 2 ^ (32 - s) := by
    unfold rl
    rw [key]
    have h4 : a * 2 ^ (32 - s) = a % 2 ^ s * 2 ^ (32 - s) + 4294967296 * (a / 2 ^ s) := by
      have : a * 2 ^ (32 - s) = (2 ^ s * (a / 2 ^ s) + a % 2 ^ s) * 2 ^ (32 - s) := by rw [ea]
      rw [this, Int.add_mul]
      have : 2 ^ s * (a / 2 ^ s) * 2 ^ (32 - s) = 2 ^ s * 2 ^ (32 - s) * (a / 2 ^ s) := by
        rw [Int.mul_assoc, Int.mul_comm (a / 2 ^ s), ← Int.mul_assoc]
      rw [this, e']
      omega
    rw [h4]
    rw [Int.add_mul] at hm
    omega
  rw [key2]
  rw [Int.add_mul] at hm
  refine ⟨by omega, by omega, ?_⟩
  rw [Int.add_mul, Int.mul_assoc, ← e]
  have : b / 2 ^ s * 2 ^ s = 2 ^ s * (b / 2 ^ s) := Int.mul_comm _ _
  omega
/-- The first i limbs of the rest are there. -/
structure RS (us r : List Int) (s m i : Nat) : Prop where
  len : r.length = m + 1
  dg : Dg 4294967296 r
  sum : (win r 0 i : Int) * 2 ^ s + rd us ((0 : Nat) : Int) % 2 ^ s = (win us 0 i : Int) + ((4294967296 ^ i : Nat) : Int) * (rd us ((i : Nat) : Int) % 2 ^ s)
theorem RS.zero (us : List Int) (s m : Nat) : RS us (List.replicate (m + 1) 0) s m 0 :=
  ⟨by simp, Dg.replicate (by decide) _, by rw [win_zero, win_zero]; simp⟩
theorem RS.step {us r : List Int} {s m i : Nat} (h : RS us r s m i) (hs : s < 32) (hi : i ≤ m) (hu : Dg 4294967296 us) (hl : i < us.length) :
    RS us (r.set i (rl (rd us ((i + 1 : Nat) : Int)) (rd us ((i : Nat) : Int)) s)) s m (i + 1) := by
  have b0 := rdb hu ((i : Nat) : Int)
  obtain ⟨r0, r1, r2⟩ := rl_spec (rd us ((i + 1 : Nat) : Int)) _ s hs b0.1 b0.2
  have hlen := h.len
  have hd := h.dg.set i r0 r1
  refine ⟨by simp [hlen], hd, ?_⟩
  have hsum := h.sum
  rw [win_topi _ _ (by simp; omega) hd, rd_set _ _ _ (by omega),
    win_congr (us' := r.set i _) (us := r) (fun k _ hk => by rw [List.getElem?_set_ne (by omega)]), win_topi us i hl hu,
    show ((4294967296 ^ (i + 1) : Nat) : Int) = ((4294967296 ^ i : Nat) : Int) * 4294967296 by rw [Nat.pow_succ]; simp]
  generalize rl (rd us ((i + 1 : Nat) : Int)) (rd us ((i : Nat) : Int)) s = t at *
  generalize rd us ((i + 1 : Nat) : Int) % 2 ^ s = a at *
  generalize rd us ((i : Nat) : Int) % 2 ^ s = b' at *
  generalize rd us ((i : Nat) : Int) = b at *
  generalize rd us ((0 : Nat) : Int) % 2 ^ s = c at *
  generalize ((4294967296 ^ i : Nat) : Int) = M at *
  generalize (win us 0 i : Int) = U at *
  generalize (win r 0 i : Int) = R at *
  generalize (2 : Int) ^ s = z at *
  clear hd r0 r1 b0 h hu
  grind
/-- What is divided is the quotient times what divides, and the rest. -/
theorem rest_done {us us' vs qs r l0 l1 : List Int} {s m N : Nat} (h : RS us' r s m (m + 1)) (hST : ST us vs us' qs m N N) (hN : 1 ≤ N) (hul : us.length = N + m + 1)
    (hq : Dg 4294967296 qs) (hx : (val 4294967296 us : Int) = (val 4294967296 l0 : Int) * 2 ^ s) (hy : (val 4294967296 vs : Int) = (val 4294967296 l1 : Int) * 2 ^ s) :
    strip qs = digs 4294967296 (val 4294967296 l0 / val 4294967296 l1) ∧ strip r = digs 4294967296 (val 4294967296 l0 % val 4294967296 l1) := by
  have hp : (0 : Int) < 2 ^ s := Int.pow_pos (by decide)
  obtain ⟨e1, e2, -, e4⟩ := hST
  have htop := e4 hN
  rw [Nat.sub_self, Nat.zero_add] at e1 htop
  rw [Nat.sub_self] at e2
  have hsum := h.sum
  rw [htop] at hsum
  have hw : (val 4294967296 us : Int) = (win us 0 (N + m + 1) : Int) := by rw [val_win, hul]
  have hr : (val 4294967296 r : Int) = (win r 0 (m + 1) : Int) := by rw [val_win, h.len]
  have hc0 := Int.emod_nonneg (rd us' ((0 : Nat) : Int)) (show (2 : Int) ^ s ≠ 0 by omega)
  have hc1 := Int.emod_lt_of_pos (rd us' ((0 : Nat) : Int)) hp
  rw [← hw, hx, hy] at e1
  rw [hy] at e2
  rw [← hr, Int.zero_emod, Int.mul_zero, Int.add_zero] at hsum
  have hqz := digs_val (b := 4294967296) (by decide) hq
  have hrz := digs_val (b := 4294967296) (by decide) h.dg
  rw [← hqz, ← hrz]
  generalize rd us' ((0 : Nat) : Int) % 2 ^ s = c at *
  generalize (win us' 0 (m + 1) : Int) = W at *
  generalize (2 : Int) ^ s = z at *
  have ec : c = (((val 4294967296 l0 : Int) - (val 4294967296 qs : Int) * (val 4294967296 l1 : Int)) - (val 4294967296 r : Int)) * z := by
    rw [Int.sub_mul, Int.sub_mul, Int.mul_assoc (val 4294967296 qs : Int)]
    omega
  have ec0 : ((val 4294967296 l0 : Int) - (val 4294967296 qs : Int) * (val 4294967296 l1 : Int)) - (val 4294967296 r : Int) = 0 := by
    generalize ((val 4294967296 l0 : Int) - (val 4294967296 qs : Int) * (val 4294967296 l1 : Int)) - (val 4294967296 r : Int) = d at *
    rcases Int.lt_trichotomy d 0 with h1 | h1 | h1
    · have : d * z ≤ (-1) * z := Int.mul_le_mul_of_nonneg_right (by omega) (Int.le_of_lt hp)
      omega
    · exact h1
    · have : 1 * z ≤ d * z := Int.mul_le_mul_of_nonneg_right (by omega) (Int.le_of_lt hp)
      omega
  rw [ec0, Int.zero_mul] at ec
  have e5 : (val 4294967296 r : Int) * z < (val 4294967296 l1 : Int) * z := by omega
  have e6 : (val 4294967296 r : Int) < (val 4294967296 l1 : Int) := Int.lt_of_mul_lt_mul_right e5 (Int.le_of_lt hp)
  have e7 : val 4294967296 l0 = val 4294967296 r + val 4294967296 l1 * val 4294967296 qs := by
    have : (val 4294967296 l0 : Int) = ((val 4294967296 r + val 4294967296 l1 * val 4294967296 qs : Nat) : Int) := by
      simp only [Int.natCast_add, Int.natCast_mul]
      rw [Int.mul_comm (val 4294967296 l1 : Int)]
      omega
    exact Int.ofNat_inj.1 this
  have e8 : val 4294967296 r < val 4294967296 l1 := by omega
  constructor
  · rw [e7, Nat.add_mul_div_left _ _ (by omega), Nat.div_eq_of_lt e8, Nat.zero_add]
  · rw [e7, Nat.add_mul_mod_self_left, Nat.mod_eq_of_lt e8]
end Go.Proofs.Ytlifengbicpppaa.G
end
