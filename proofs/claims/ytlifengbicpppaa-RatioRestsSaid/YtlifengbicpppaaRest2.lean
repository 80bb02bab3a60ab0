/- Part 2 of the texts for the claim RatioRests: Go functions of the program and of the document's answers, each with a proof that its calls come to a Lean function's answers, and plain laws about these. Joined by wip/merge.py of the claimant's repo out of its texts and of what the kit's print wrote for this claim. -/
import Derived.Test.YtlifengbicpppaaProg
import Derived.Below
import Derived.Deep.Draws
import Derived.Deep.AppendLies
import Derived.Maps.AppendAt
import Derived.OwnWalk
import Derived.Laws.BytesArg
import Derived.Laws.MakeOwn
import Derived.Laws.OwnMore
import Derived.Deep.OwnRows
import Derived.Tactics
import Derived.Lib.ConvBytes
import Derived.Laws.Slices
import Derived.WalkKit
import Derived.KernelRfl
import Derived.RowKit3
import Derived.Deep.LoopGhost
import Derived.Deep.QuietTactic
import Derived.BigQuiet
import Derived.WideLaws
import Derived.Deep.DeepCutAuto
import Derived.Deep.CutBlock
import Derived.Deep.RegionHeld3
import Derived.Laws.Rows
import Derived.Lib.AppendStr
import Derived.ArgAppend
import Derived.Laws.IdiomCopy
import Derived.OrdersHeld
import Derived.Laws.BitsLemmas
import Derived.RowKit
import Derived.Test.YtlifengbicpppaaRest1
import Derived.Laws.StructEq
import Derived.WalkSpells
import Derived.RangeFuncNested
import Derived.RangeFuncBound
import Derived.RangeFuncCalls
import Derived.RangeFuncLeaves
import Derived.Shelf.Abstract
import Derived.Shelf.RegionOpen
import Derived.OwnWalkIn
import Derived.TacticsInMore
import Derived.LoopNIn
import Derived.LoopIn
import Derived.WalkMore
import Derived.Laws.BitsAllLaws
set_option linter.unusedVariables false
set_option linter.unusedSimpArgs false
section
namespace Go.Proofs.Ytlifengbicpppaa.G
open Go.RowKit Go.Proofs.YtlifengbicpppaaW.PrintWords Go.Proofs.YtlifengbicpppaaW.PrintLast Go.Proofs.YtlifengbicpppaaW.PrintMore
attribute [local go_sem] max2_int min2_int max_two min_two max_three min_three max_four min_four   -- for this text's walks alone
set_option linter.unusedVariables false
set_option linter.unusedSimpArgs false
def errW : Option Int → Value
  | none => .nilIface
  | some c => .iface 0 (.int .i64 c)
theorem errW_none : errW none = .nilIface := rfl
theorem errW_some (c : Int) : errW (some c) = .iface 0 (.int .i64 c) := rfl
theorem info3 : (Try.prog.info? 3).map (fun i => (i.zero, i.size, i.bytes)) = some (some (.int .i64 0), 1, 8) := by kernel_rfl
theorem info5 : (Try.prog.info? 5).map (fun i => (i.zero, i.size, i.bytes)) = some (some (.int .u8 0), 1, 1) := by kernel_rfl
theorem info75 : (Try.prog.info? 75).map (fun i => (i.zero, i.size, i.bytes)) = some (some (.int .u32 0), 1, 4) := by kernel_rfl
def rd_L2 (xs : List (List Int)) (i : Int) : (List Int) := xs.getD i.toNat ([] : List Int)
theorem at_L2 {w : World} {A : Option Addr} {n : Nat} {xs : List (List Int)} (h : Kd.C (Kd.slice 75 (Kd.int .u32)) w A n xs) (i : Int) (h0 : 0 ≤ i) (h1 : i < n) : ∃ ad A0 c0, A = some ad ∧ w.cell? (ad.add i.toNat) = some (.slice A0 (rd_L2 xs i).length c0) ∧ (rd_L2 xs i).length ≤ c0 ∧ (Kd.int .u32).C w A0 (rd_L2 xs i).length (rd_L2 xs i) := by
  obtain ⟨ad, c, e, _, hK, hc0⟩ := Kd.C_get h ([] : List Int) i h0 h1
  have hc : ∀ j u, c[j]? = some u → w.cell? (ad.add (i.toNat * 1 + j)) = some u := hc0
  obtain ⟨A0, c0, rfl, l0, g0⟩ := hK
  exact ⟨ad, A0, c0, e, by have hq := hc 0 _ rfl; rwa [Nat.mul_one, Nat.add_zero] at hq, l0, g0⟩
end Go.Proofs.Ytlifengbicpppaa.G
end
section
namespace Go.Proofs.Ytlifengbicpppaa.G
open Go.RowKit Go.Proofs.YtlifengbicpppaaW.PrintWords Go.Proofs.YtlifengbicpppaaW.PrintLast Go.Proofs.YtlifengbicpppaaW.PrintMore
attribute [local go_sem] max2_int min2_int max_two min_two max_three min_three max_four min_four   -- for this text's walks alone
set_option linter.unusedVariables false
set_option linter.unusedSimpArgs false
def api_Nat_uint32_92.l0 : Nat → List Int → Int → Option (List Int)
  | 0, _, _ => none
  | k + 1, x0, x3 => if (x0.length : Int) > 0 then (if 0 ≤ (wrap64 ((x0.length : Int) - 1)) then (if (wrap64 ((x0.length : Int) - 1)) < (x0.length : Int) then (if (rd x0 (wrap64 ((x0.length : Int) - 1))) = x3 then (if (wrap64 ((x0.length : Int) - 1)) ≤ (x0.length : Int) then (api_Nat_uint32_92.l0 k (x0.take ((wrap64 ((x0.length : Int) - 1)) : Int).toNat) x3) else (none)) else (some x0)) else (none)) else (none)) else (some x0)
def api_Nat_uint32_92.f (k : Nat) (l0 : List Int) : Option (List Int) := api_Nat_uint32_92.l0 k l0 0
set_option maxHeartbeats 8000000 in
set_option maxRecDepth 100000 in
theorem api_Nat_uint32_92.calls (k : Nat) (P0_ : Nat → Prop) (A0 : Option Addr) (c0 : Nat) (l0 : List Int) (r : List Int) (w : World) (hs0 : Kd.V (Kd.int .u32) 75 w w.heap.size (fun k_ => P0_ k_) (.slice A0 l0.length c0) l0) (h : api_Nat_uint32_92.f k l0 = some r) :
    Calls Try.prog 92 #[.slice A0 l0.length c0] w fun e w' => ∃ v0_ : Value, e = .returned (v0_) ∧ Kd.V (Kd.int .u32) 75 w' w.heap.size (fun k_ => (P0_ k_ ∨ w.heap.size ≤ k_)) v0_ r ∧ Below w.heap.size w w' := by
  have HO0 := Aside0.mk (show Kd.V (Kd.int .u32) 75 w w.heap.size (fun k_ => (P0_ k_ ∨ w.heap.size ≤ k_)) (.slice A0 l0.length c0) l0 from Kd.V_mono hs0 (fun k_ hk => .inl hk))
  have HB := Aside0.mk (Below.refl w.heap.size w)
  have H : (api_Nat_uint32_92.l0 k l0 0) = some r := h
  clear h
  have H' := Aside0.mk H
  clear H
  go_enter Try.func92, Try.ntmps92
  go_wp2
  go_loopg [0] k (fun kq v0 w' => ∃ (x0_1 : List Int), Aside0 (api_Nat_uint32_92.l0 kq x0_1 0 = some r) ∧ Aside0 (kq ≤ k) ∧ Aside0 (Kd.V (Kd.int .u32) 75 w' w.heap.size (fun k_ => (P0_ k_ ∨ w.heap.size ≤ k_)) v0 x0_1) ∧ Aside0 (Below w.heap.size w w'))
  case atStart => exact ⟨(l0), H', ⟨Nat.le_refl _⟩, ⟨by (with_reducible repeat (first | apply Kd.V_alloc | apply Kd.V_drewN | apply Kd.V_drew)); exact HO0.out⟩, ⟨by repeat (first | (with_reducible first | exact HB.out | apply below_alloc | apply pw_below_drewN | apply below_drew1) | exact HB.out)⟩⟩
  case round =>
    clear H'
    obtain ⟨x0_1, HA, HK1, HO_0, HB⟩ := hrel
    cases gk with
    | zero => exact absurd HA.out (by simp [api_Nat_uint32_92.l0])
    | succ k1 =>
      have H := HA.out
      clear HA
      simp only [api_Nat_uint32_92.l0] at H
      by_cases c2 : (x0_1.length : Int) > 0
      · rw [if_pos c2] at H
        have c2b0 : decide (0 < (x0_1.length : Int)) = true := decide_eq_true c2
        have c2b1 : decide (0 < x0_1.length) = true := decide_eq_true (by omega)
        clear c2
        obtain ⟨ji3, hji3⟩ : ∃ j_ : Int, (wrap64 ((x0_1.length : Int) - 1)) = j_ := ⟨_, rfl⟩
        replace H : (if 0 ≤ (ji3) then (if (ji3) < (x0_1.length : Int) then (if (rd x0_1 (ji3)) = 0 then (if (ji3) ≤ (x0_1.length : Int) then (api_Nat_uint32_92.l0 k1 (x0_1.take ((ji3) : Int).toNat) 0) else (none)) else (some x0_1)) else (none)) else (none)) = some r := by first | (rw [hji3] at H; exact H) | (simp only [hji3] at H ⊢; exact H)
        have hji3w : (IntKind.i64.wrap ((x0_1.length : Int) - 1)) = ji3 := (i64_w _).trans hji3
        by_cases c4 : 0 ≤ (ji3)
        · rw [if_pos c4] at H
          have c4b0 : decide (0 ≤ (ji3)) = true := decide_eq_true c4
          clear c4
          by_cases c5 : (ji3) < (x0_1.length : Int)
          · rw [if_pos c5] at H
            have c5b0 : decide ((ji3) < (x0_1.length : Int)) = true := decide_eq_true c5
            clear c5
            by_cases c6 : (rd x0_1 (ji3)) = 0
            · rw [if_pos c6] at H
              have c6b0 : ((rd x0_1 (ji3)) == 0) = true := beq_iff_eq.mpr c6
              have c6b1 : ((rd x0_1 (ji3)) != 0) = false := bne_eq_false_iff_eq.mpr c6
              clear c6
              have c7b0 := eq_true (of_decide_eq_true (by first | (with_reducible assumption) | assumption) : 0 ≤ (ji3))
              by_cases c8 : (ji3) ≤ (x0_1.length : Int)
              · rw [if_pos c8] at H
                have c8b0 := eq_true c8
                have c8b1 : decide ((ji3) ≤ (x0_1.length : Int)) = true := decide_eq_true c8
                clear c8
                obtain ⟨y102, hy102⟩ : ∃ y_ : List Int, y_ = (x0_1.take ((ji3) : Int).toNat) := ⟨_, rfl⟩
                replace H : (api_Nat_uint32_92.l0 k1 y102 0) = some r := by first | (rw [hy102]; with_reducible exact H) | (have H2_ := (Option.bind_some _ _).symm.trans H; rw [hy102]; with_reducible exact H2_) | (have H2_ := (Option.bind_some _ _).symm.trans H; with_reducible exact H2_) | with_reducible exact H | (rw [hy102]; exact H) | exact H
                have Ny102 := Aside0.mk hy102
                clear hy102
                have H' := Aside0.mk H
                clear H
                obtain ⟨Ao9, co9, eo9⟩ := Kd.V_slice HO_0.out
                subst eo9
                have p101 : 0 ≤ ((ji3) : Int) := of_decide_eq_true (by first | (with_reducible assumption) | assumption)
                have q101 : (ji3) < (x0_1.length : Int) := of_decide_eq_true (by first | (with_reducible assumption) | assumption)
                obtain ⟨ad101, e101, hx101_0⟩ := Kd.at_int (Kd.V_reads' HO_0.out).2.2 (ji3) p101 q101
                cases e101
                replace p101 := eq_true p101
                replace q101 := eq_true q101
                have q10 : ((ji3) : Int) ≤ ((x0_1.length : Int) : Int) := of_decide_eq_true (by first | (with_reducible assumption) | assumption)
                obtain ⟨i010, hi010, _, hsz10, _⟩ := info_parts info75
                have hroom10 : x0_1.length ≤ co9 := (Kd.V_reads' HO_0.out).2.1
                have hC10 : Kd.F (Kd.int .u32) _ _ (some ad101) x0_1.length x0_1 := (Kd.V_at (base := w.heap.size) HO_0.out).2.2
                have hcut10 := cut_to (P := Try.prog) 46 75 .i64 Try.underlying46 hi010 (some ad101) x0_1.length co9 (ji3) (of_decide_eq_true (by first | (with_reducible assumption) | assumption)) q10 hroom10
                have hr10 := Kd.F_take (m := ((ji3) : Int).toNat) hC10 (by omega)
                have hy10 : y102.length = ((ji3) : Int).toNat := (by rw [Ny102.out, List.length_take]; omega)
                rw [← Ny102.out] at hr10
                rw [← hy10] at hcut10
                have HO106 := Aside0.mk (show Kd.V (Kd.int .u32) 75 _ w.heap.size _ (.slice (some ad101) y102.length co9) y102 from Kd.V_mk (by omega) hr10)
                have HC106 := Aside0.mk (show y102.length ≤ co9 from by omega)
                clear hr10 hC10 hroom10 hi010 hsz10
                have KY10 := Aside0.mk hy10
                clear hy10
                replace q10 := eq_true q10
                go_wp2
                go_roundg k1
                case measure => have := HK1.out; omega
                case rel => exact ⟨(y102), H', ⟨by have := HK1.out; omega⟩, ⟨by (with_reducible repeat (first | apply Kd.V_alloc | apply Kd.V_drewN | apply Kd.V_drew)); exact HO106.out⟩, ⟨by repeat (first | (with_reducible first | exact HB.out | apply below_alloc | apply pw_below_drewN | apply below_drew1) | exact HB.out)⟩⟩
              · rw [if_neg c8] at H
                exact absurd H (by simp)
            · rw [if_neg c6] at H
              have c6b0 : ((rd x0_1 (ji3)) == 0) = false := beq_eq_false_iff_ne.mpr c6
              have c6b1 : ((rd x0_1 (ji3)) != 0) = true := bne_iff_ne.mpr c6
              obtain rfl := Option.some.inj H
              obtain ⟨Ao11, co11, eo11⟩ := Kd.V_slice HO_0.out
              subst eo11
              have p101 : 0 ≤ ((ji3) : Int) := of_decide_eq_true (by first | (with_reducible assumption) | assumption)
              have q101 : (ji3) < (x0_1.length : Int) := of_decide_eq_true (by first | (with_reducible assumption) | assumption)
              obtain ⟨ad101, e101, hx101_0⟩ := Kd.at_int (Kd.V_reads' HO_0.out).2.2 (ji3) p101 q101
              cases e101
              replace p101 := eq_true p101
              replace q101 := eq_true q101
              go_wp2
              go_ret
              exact ⟨_, by first | rfl | (simp [errW_none, errW_some] <;> rfl) | (simp only [← hji3]; first | rfl | (simp [errW_none, errW_some] <;> rfl)) | (simp [*, errW_none, errW_some] <;> rfl), by (with_reducible repeat (first | apply Kd.V_alloc | apply Kd.V_drewN | apply Kd.V_drew)); exact HO_0.out, by repeat (first | (with_reducible first | exact HB.out | apply below_alloc | apply pw_below_drewN | apply below_drew1) | exact HB.out)⟩
          · rw [if_neg c5] at H
            exact absurd H (by simp)
        · rw [if_neg c4] at H
          exact absurd H (by simp)
      · rw [if_neg c2] at H
        have c2b0 : decide (0 < (x0_1.length : Int)) = false := decide_eq_false c2
        have c2b1 : decide (0 < x0_1.length) = false := decide_eq_false (by omega)
        clear c2
        obtain rfl := Option.some.inj H
        obtain ⟨Ao12, co12, eo12⟩ := Kd.V_slice HO_0.out
        subst eo12
        go_wp2
        go_ret
        exact ⟨_, by first | rfl | (simp [errW_none, errW_some] <;> rfl) | (simp [*, errW_none, errW_some] <;> rfl), by (with_reducible repeat (first | apply Kd.V_alloc | apply Kd.V_drewN | apply Kd.V_drew)); exact HO_0.out, by repeat (first | (with_reducible first | exact HB.out | apply below_alloc | apply pw_below_drewN | apply below_drew1) | exact HB.out)⟩
end Go.Proofs.Ytlifengbicpppaa.G
end
section
namespace Go.Proofs.Ytlifengbicpppaa.Num
/-- The number that digits are. -/
def val (b : Nat) : List Int → Nat
  | [] => 0
  | x :: l => x.toNat + b * val b l
def digsF (b : Nat) : Nat → Nat → List Int
  | 0, _ => []
  | f + 1, n => if n = 0 then [] else ((n % b : Nat) : Int) :: digsF b f (n / b)
/-- A number's digits, without noughts at the end. -/
def digs (b n : Nat) : List Int := digsF b n n
/-- Digits that may be. -/
def Dg (b : Nat) (l : List Int) : Prop := ∀ x ∈ l, 0 ≤ x ∧ x < (b : Int)
/-- Digits without the noughts at the end. -/
def strip : List Int → List Int
  | [] => []
  | x :: l => if strip l = [] ∧ x = 0 then [] else x :: strip l
section
variable {b : Nat}
theorem Dg.nil : Dg b [] := fun _ h => by simp at h
theorem Dg.cons {x : Int} {l : List Int} (h0 : 0 ≤ x) (h1 : x < b) (h : Dg b l) : Dg b (x :: l) := fun y hy => by
  rcases List.mem_cons.1 hy with rfl | hy
  · exact ⟨h0, h1⟩
  · exact h y hy
theorem Dg.head {x : Int} {l : List Int} (h : Dg b (x :: l)) : 0 ≤ x ∧ x < b := h x (by simp)
theorem Dg.tail {x : Int} {l : List Int} (h : Dg b (x :: l)) : Dg b l := fun y hy => h y (by simp [hy])
theorem Dg.append {l m : List Int} (h : Dg b l) (h' : Dg b m) : Dg b (l ++ m) := fun y hy => by
  rcases List.mem_append.1 hy with hy | hy
  · exact h y hy
  · exact h' y hy
theorem Dg.take {l : List Int} (h : Dg b l) (n : Nat) : Dg b (l.take n) := fun y hy => h y (List.mem_of_mem_take hy)
theorem Dg.set {l : List Int} (h : Dg b l) (n : Nat) {x : Int} (h0 : 0 ≤ x) (h1 : x < b) : Dg b (l.set n x) := fun y hy => by
  rcases List.mem_or_eq_of_mem_set hy with hy | rfl
  · exact h y hy
  · exact ⟨h0, h1⟩
theorem Dg.getD {l : List Int} (h : Dg b l) (hb : 0 < b) (i : Nat) : 0 ≤ l.getD i 0 ∧ l.getD i 0 < b := by
  rw [List.getD_eq_getElem?_getD]
  by_cases hi : i < l.length
  · rw [List.getElem?_eq_getElem hi]; exact h _ (List.getElem_mem hi)
  · rw [List.getElem?_eq_none (by omega)]; simp; omega
theorem Dg.replicate (hb : 0 < b) (n : Nat) : Dg b (List.replicate n 0) := fun y hy => by
  have := List.eq_of_mem_replicate hy; omega
theorem val_nil : val b [] = 0 := rfl
theorem val_cons (x : Int) (l : List Int) : val b (x :: l) = x.toNat + b * val b l := rfl
theorem val_append (l m : List Int) : val b (l ++ m) = val b l + b ^ l.length * val b m := by
  induction l with
  | nil => simp [val]
  | cons x l ih => simp only [List.cons_append, val_cons, ih, List.length_cons, Nat.pow_succ]; grind
theorem val_snoc (l : List Int) (x : Int) : val b (l ++ [x]) = val b l + b ^ l.length * x.toNat := by
  rw [val_append]; simp [val]
theorem val_lt {l : List Int} (h : Dg b l) : val b l < b ^ l.length := by
  induction l with
  | nil => simp [val]
  | cons x l ih =>
    have h1 := ih h.tail
    have h2 := h.head
    rw [val_cons, List.length_cons, Nat.pow_succ]
    have h3 : x.toNat < b := by omega
    have h4 : b * (val b l + 1) ≤ b * b ^ l.length := Nat.mul_le_mul_left b h1
    rw [Nat.mul_comm (b ^ l.length) b]
    rw [Nat.mul_add] at h4
    omega
theorem val_zeros (n : Nat) : val b (List.replicate n 0) = 0 := by
  induction n with
  | zero => rfl
  | succ n ih => rw [List.replicate_succ, val_cons, ih]; simp
theorem digsF_eq (hb : 2 ≤ b) : ∀ (f n : Nat), n ≤ f → digsF b f n = digsF b n n := by
  intro f
  induction f using Nat.strongRecOn with
  | _ f ih =>
    intro n hn
    cases n with
    | zero => cases f <;> simp [digsF]
    | succ n =>
      cases f with
      | zero => omega
      | succ f =>
        have hd : (n + 1) / b ≤ n := by
          have := Nat.div_lt_self (n := n + 1) (k := b) (by omega) (by omega)
          omega
        simp only [digsF]
        rw [if_neg (by omega), if_neg (by omega)]
        rw [ih f (by omega) _ (by omega)]
        by_cases h : n + 1 < f + 1
        · rw [ih n (by omega) _ hd]
        · have : f = n := by omega
          subst this
          rw [ih f (by omega) _ hd]
theorem digs_zero : digs b 0 = [] := rfl
theorem digs_pos (hb : 2 ≤ b) {n : Nat} (hn : 0 < n) : digs b n = ((n % b : Nat) : Int) :: digs b (n / b) := by
  obtain ⟨m, rfl⟩ : ∃ m, n = m + 1 := ⟨n - 1, by omega⟩
  unfold digs
  simp only [digsF]
  rw [if_neg (by omega), digsF_eq hb m _ (by have := Nat.div_lt_self (n := m + 1) (k := b) (by omega) (by omega); omega)]
theorem val_digs (hb : 2 ≤ b) (n : Nat) : val b (digs b n) = n := by
  induction n using Nat.strongRecOn with
  | _ n ih =>
    rcases Nat.eq_zero_or_pos n with rfl | hn
    · rfl
    · rw [digs_pos hb hn, val_cons, ih _ (Nat.div_lt_self hn (by omega))]
      simp only [Int.toNat_natCast]
      exact Nat.mod_add_div n b
theorem digs_Dg (hb : 2 ≤ b) (n : Nat) : Dg b (digs b n) := by
  induction n using Nat.strongRecOn with
  | _ n ih =>
    rcases Nat.eq_zero_or_pos n with rfl | hn
    · exact Dg.nil
    · rw [digs_pos hb hn]
      refine Dg.cons (by omega) ?_ (ih _ (Nat.div_lt_self hn (by omega)))
      have := Nat.mod_lt n (show 0 < b by omega)
      omega
theorem digs_eq_nil (hb : 2 ≤ b) {n : Nat} : digs b n = [] ↔ n = 0 := by
  rcases Nat.eq_zero_or_pos n with rfl | hn
  · simp [digs_zero]
  · rw [digs_pos hb hn]; simp; omega
theorem digs_val (hb : 2 ≤ b) {l : List Int} (h : Dg b l) : digs b (val b l) = strip l := by
  induction l with
  | nil => rfl
  | cons x l ih =>
    have ih := ih h.tail
    have hx := h.head
    rw [strip, val_cons]
    rcases Nat.eq_zero_or_pos (x.toNat + b * val b l) with h0 | h0
    · rw [h0, digs_zero]
      have h1 : x.toNat = 0 := by omega
      have h2 : b * val b l = 0 := by omega
      have h3 : val b l = 0 := by
        rcases Nat.mul_eq_zero.1 h2 with h | h
        · omega
        · exact h
      rw [h3, digs_zero] at ih
      rw [if_pos ⟨ih.symm, by omega⟩]
    · rw [digs_pos hb h0]
      have e1 : (x.toNat + b * val b l) % b = x.toNat := by
        rw [Nat.add_mul_mod_self_left]; exact Nat.mod_eq_of_lt (by omega)
      have e2 : (x.toNat + b * val b l) / b = val b l := by
        rw [Nat.add_mul_div_left _ _ (by omega), Nat.div_eq_of_lt (by omega)]; omega
      rw [e1, e2, ih, if_neg]
      · congr 1; omega
      · rintro ⟨h1, h2⟩
        rw [h1] at ih
        have := (digs_eq_nil hb).1 ih
        rw [this] at h0
        omega
theorem digs_len (hb : 2 ≤ b) (n k : Nat) : (digs b n).length ≤ k ↔ n < b ^ k := by
  induction k generalizing n with
  | zero =>
    have := digs_eq_nil hb (n := n)
    constructor
    · intro h
      have := this.1 (List.eq_nil_of_length_eq_zero (by omega))
      simp; omega
    · intro h
      have := this.2 (by simp at h; omega)
      rw [this]; simp
  | succ k ih =>
    rcases Nat.eq_zero_or_pos n with rfl | hn
    · rw [digs_zero]; simp; exact Nat.pow_pos (by omega)
    · rw [digs_pos hb hn, List.length_cons, Nat.succ_le_succ_iff, ih, Nat.pow_succ, Nat.div_lt_iff_lt_mul (by omega)]
theorem strip_Dg {l : List Int} (h : Dg b l) : Dg b (strip l) := by
  induction l with
  | nil => exact Dg.nil
  | cons x l ih =>
    rw [strip]
    split
    · exact Dg.nil
    · exact Dg.cons h.head.1 h.head.2 (ih h.tail)
theorem val_strip (l : List Int) : val b (strip l) = val b l := by
  induction l with
  | nil => rfl
  | cons x l ih =>
    rw [strip]
    split
    · rename_i h
      rw [h.1] at ih
      rw [val_cons, ← ih, h.2]; rfl
    · rw [val_cons, val_cons, ih]
theorem strip_digs (hb : 2 ≤ b) (n : Nat) : strip (digs b n) = digs b n := by
  rw [← digs_val hb (digs_Dg hb n), val_digs hb]
end
theorem strip_snoc_zero (l : List Int) : strip (l ++ [0]) = strip l := by
  induction l with
  | nil => rfl
  | cons x l ih => simp only [List.cons_append, strip, ih]
theorem strip_snoc (l : List Int) {x : Int} (hx : x ≠ 0) : strip (l ++ [x]) = l ++ [x] := by
  induction l with
  | nil => simp [strip, hx]
  | cons y l ih =>
    simp only [List.cons_append, strip, ih]
    rw [if_neg]
    simp
theorem strip_length (l : List Int) : (strip l).length ≤ l.length := by
  induction l with
  | nil => simp [strip]
  | cons x l ih =>
    rw [strip]; split
    · simp
    · simp; exact ih
theorem strip_prefix (l : List Int) : strip l = l.take (strip l).length := by
  induction l with
  | nil => rfl
  | cons x l ih =>
    rw [strip]; split
    · simp
    · simp only [List.length_cons, List.take_succ_cons]
      rw [← ih]
theorem strip_strip (l : List Int) : strip (strip l) = strip l := by
  induction l with
  | nil => rfl
  | cons x l ih =>
    rw [strip]
    split
    · rfl
    · rename_i h
      rw [strip, ih, if_neg h]
theorem strip_last {l : List Int} (h : strip l ≠ []) : (strip l).getLast h ≠ 0 := by
  intro h0
  have h1 : strip l = (strip l).dropLast ++ [0] := by
    conv => lhs; rw [← List.dropLast_concat_getLast h]
    rw [h0]
  have h2 := strip_strip l
  rw [h1, strip_snoc_zero] at h2
  have h3 := strip_length (strip l).dropLast
  rw [h2] at h3
  simp at h3
  omega
end Go.Proofs.Ytlifengbicpppaa.Num
end
section
namespace Go.Proofs.Ytlifengbicpppaa.G
open Go.RowKit Go.Proofs.YtlifengbicpppaaW.PrintWords Go.Proofs.YtlifengbicpppaaW.PrintLast Go.Proofs.YtlifengbicpppaaW.PrintMore
open Go.Proofs.Ytlifengbicpppaa.Num
theorem take_snoc_int (l : List Int) (m : Nat) (h : m < l.length) : l.take (m + 1) = l.take m ++ [rd l m] := by
  rw [List.take_succ_eq_append_getElem h]
  simp [rd, h]
set_option maxHeartbeats 1000000 in
set_option maxRecDepth 100000 in
theorem bare_exact (A : Option Addr) (c : Nat) (l : List Int) (w : World) (hr : Kd.C (Kd.int .u32) w A l.length l) (hc : l.length ≤ c) :
    Calls Try.prog 92 #[.slice A l.length c] w fun e w' => e = .returned (.slice A (strip l).length c) ∧ w = w' := by
  have hm := hr.2.1
  have HR := Aside0.mk hr
  clear hr
  go_enter Try.func92, Try.ntmps92
  go_wp2
  go_loop [0] (fun v => ∃ k : Nat, v = .slice A k c ∧ k ≤ l.length ∧ Aside0 (strip l = strip (l.take k))) (fun v => match v with | .slice _ n _ => n | _ => 0)
  case atStart => exact ⟨l.length, rfl, Nat.le_refl _, ⟨by rw [List.take_length]⟩⟩
  case round =>
    obtain ⟨k, rfl, hk, HA⟩ := hrel
    rcases Nat.eq_zero_or_pos k with rfl | hpos
    · go_wp2
      go_ret
      have := HA.out
      simp only [List.take_zero, strip] at this
      exact ⟨by rw [this]; rfl, rfl⟩
    · obtain ⟨m, rfl⟩ : ∃ m, k = m + 1 := ⟨k - 1, by omega⟩
      obtain ⟨ad, rfl, hcell⟩ := Kd.at_int HR.out (m : Int) (by omega) (by omega)
      simp only [Int.toNat_natCast] at hcell
      have HT := Aside0.mk (take_snoc_int l m (by omega))
      by_cases hx : rd l m = 0
      · have e1 : (rd l m == 0) = true := by simp [hx]
        have HX := Aside0.mk hx
        clear hx
        go_wp2
        go_round
        case rel => exact ⟨m, rfl, by omega, ⟨by rw [HA.out, HT.out, HX.out, strip_snoc_zero]⟩⟩
        case measure => simp
      · have e1 : (rd l m == 0) = false := by simp [hx]
        have HX := Aside0.mk hx
        clear hx
        go_wp2
        go_ret
        refine ⟨?_, rfl⟩
        rw [HA.out, HT.out, strip_snoc _ HX.out]
        simp only [List.length_append, List.length_take, List.length_cons, List.length_nil]
        rw [Nat.min_eq_left (by omega)]
        rfl
set_option maxHeartbeats 1000000 in
set_option maxRecDepth 100000 in
theorem rbare_exact (A : Option Addr) (c : Nat) (l : List Int) (w : World) (hr : Kd.C (Kd.int .u32) w A l.length l) (hc : l.length ≤ c) :
    Calls Try.prog 120 #[.slice A l.length c] w fun e w' => e = .returned (.slice A (strip l).length c) ∧ w = w' := by
  have hm := hr.2.1
  have HR := Aside0.mk hr
  clear hr
  go_enter Try.func120, Try.ntmps120
  go_wp2
  go_loop [0] (fun v => ∃ k : Nat, v = .slice A k c ∧ k ≤ l.length ∧ Aside0 (strip l = strip (l.take k))) (fun v => match v with | .slice _ n _ => n | _ => 0)
  case atStart => exact ⟨l.length, rfl, Nat.le_refl _, ⟨by rw [List.take_length]⟩⟩
  case round =>
    obtain ⟨k, rfl, hk, HA⟩ := hrel
    rcases Nat.eq_zero_or_pos k with rfl | hpos
    · go_wp2
      go_ret
      have := HA.out
      simp only [List.take_zero, strip] at this
      exact ⟨by rw [this]; rfl, rfl⟩
    · obtain ⟨m, rfl⟩ : ∃ m, k = m + 1 := ⟨k - 1, by omega⟩
      obtain ⟨ad, rfl, hcell⟩ := Kd.at_int HR.out (m : Int) (by omega) (by omega)
      simp only [Int.toNat_natCast] at hcell
      have HT := Aside0.mk (take_snoc_int l m (by omega))
      by_cases hx : rd l m = 0
      · have e1 : (rd l m == 0) = true := by simp [hx]
        have HX := Aside0.mk hx
        clear hx
        go_wp2
        go_round
        case rel => exact ⟨m, rfl, by omega, ⟨by rw [HA.out, HT.out, HX.out, strip_snoc_zero]⟩⟩
        case measure => simp
      · have e1 : (rd l m == 0) = false := by simp [hx]
        have HX := Aside0.mk hx
        clear hx
        go_wp2
        go_ret
        refine ⟨?_, rfl⟩
        rw [HA.out, HT.out, strip_snoc _ HX.out]
        simp only [List.length_append, List.length_take, List.length_cons, List.length_nil]
        rw [Nat.min_eq_left (by omega)]
        rfl
theorem C_strip {w : World} {A : Option Addr} {l : List Int} (h : Kd.C (Kd.int .u32) w A l.length l) : Kd.C (Kd.int .u32) w A (strip l).length (strip l) := by
  have := Kd.C_take (m := (strip l).length) h (strip_length l)
  rw [← strip_prefix] at this
  exact this
/-- A slice that is only read. -/
theorem bare_read (A0 : Option Addr) (c0 : Nat) (l0 : List Int) (w : World) (hr0 : Kd.C (Kd.int .u32) w A0 l0.length l0) (hc0 : l0.length ≤ c0) :
    Calls Try.prog 92 #[.slice A0 l0.length c0] w fun e w' => ∃ A c, e = .returned (.slice A (strip l0).length c) ∧ (strip l0).length ≤ c ∧ Kd.C (Kd.int .u32) w' A (strip l0).length (strip l0) ∧ Below w.heap.size w w' := by
  refine (bare_exact A0 c0 l0 w hr0 hc0).mono ?_
  rintro e w' ⟨rfl, rfl⟩
  exact ⟨A0, c0, rfl, Nat.le_trans (strip_length l0) hc0, C_strip hr0, Below.refl _ _⟩
/-- A slice of naturals that is read. -/
def rdLL (xs : List (List Int)) (i : Int) : (List Int) := xs.getD i.toNat ([] : List Int)
theorem atLL {w : World} {A : Option Addr} {n : Nat} {xs : List (List Int)} (h : Kd.C (Kd.slice 75 (Kd.int .u32)) w A n xs) (i : Int) (h0 : 0 ≤ i) (h1 : i < n) :
    ∃ ad A0 c0, A = some ad ∧ w.cell? (ad.add i.toNat) = some (.slice A0 (rdLL xs i).length c0) ∧ (rdLL xs i).length ≤ c0 ∧ (Kd.int .u32).C w A0 (rdLL xs i).length (rdLL xs i) := by
  obtain ⟨ad, c, e, _, hK, hc0⟩ := Kd.C_get h ([] : List Int) i h0 h1
  have hc : ∀ j u, c[j]? = some u → w.cell? (ad.add (i.toNat * 1 + j)) = some u := hc0
  obtain ⟨A0, c0, rfl, l0, g0⟩ := hK
  exact ⟨ad, A0, c0, e, by have hq := hc 0 _ rfl; rwa [Nat.mul_one, Nat.add_zero] at hq, l0, g0⟩
/-- A row of one's own, cut at its end. -/
theorem R_strip {w : World} {base : Nat} {ok : Nat → Prop} {A : Option Addr} {c : Nat} {l : List Int} (h : Kd.R (Kd.int .u32) 75 w base ok (.slice A l.length c) l) : Kd.R (Kd.int .u32) 75 w base ok (.slice A (strip l).length c) (strip l) := by
  have := Kd.R_take (m := (strip l).length) h (strip_length l)
  rw [← strip_prefix] at this
  exact this
end Go.Proofs.Ytlifengbicpppaa.G
end
section
namespace Go.Proofs.Ytlifengbicpppaa.G
open Go.RowKit Go.Proofs.YtlifengbicpppaaW.PrintWords Go.Proofs.YtlifengbicpppaaW.PrintLast Go.Proofs.YtlifengbicpppaaW.PrintMore
open Go.Proofs.Ytlifengbicpppaa.Num
def nat_checked.f (l0 : List Int) : Option (List Int × Int) := some (if 256 < (strip l0).length then ([], 20) else (strip l0, 0))
/-- What is handed back of a slice: nil, or its begin. -/
def checkV (A : Option Addr) (c : Nat) (l : List Int) : Value := if 256 < (strip l).length then .tuple #[.slice none 0 0, .int .i64 20] else .tuple #[.slice A (strip l).length c, .int .i64 0]
set_option maxHeartbeats 400000 in
set_option maxRecDepth 100000 in
theorem checked_exact (A : Option Addr) (c : Nat) (l : List Int) (w : World) (hr : Kd.C (Kd.int .u32) w A l.length l) (hc : l.length ≤ c) :
    Calls Try.prog 110 #[.slice A l.length c] w fun e w' => e = .returned (checkV A c l) ∧ w = w' := by
  have HB := Aside0.mk (bare_exact A c l w hr hc)
  clear hr hc
  by_cases h : 256 < (strip l).length
  · have e : checkV A c l = .tuple #[.slice none 0 0, .int .i64 20] := by unfold checkV; rw [if_pos h]
    rw [e]
    have d : decide ((256 : Int) < ((strip l).length : Int)) = true := decide_eq_true (by omega)
    clear e h
    go_enter Try.func110, Try.ntmps110
    go_wp2_with (go_at_call 92; refine HB.out.mono ?_; rintro e w1 ⟨rfl, rfl⟩)
    go_ret2
    exact ⟨rfl, rfl⟩
  · have e : checkV A c l = .tuple #[.slice A (strip l).length c, .int .i64 0] := by unfold checkV; rw [if_neg h]
    rw [e]
    have d : decide ((256 : Int) < ((strip l).length : Int)) = false := decide_eq_false (by omega)
    clear e h
    go_enter Try.func110, Try.ntmps110
    go_wp2_with (go_at_call 92; refine HB.out.mono ?_; rintro e w1 ⟨rfl, rfl⟩)
    go_ret2
    exact ⟨rfl, rfl⟩
theorem checked_big (A : Option Addr) (c : Nat) (l : List Int) (w : World) (hr : Kd.C (Kd.int .u32) w A l.length l) (hc : l.length ≤ c) (h : 256 < (strip l).length) :
    Calls Try.prog 110 #[.slice A l.length c] w fun e w' => e = .returned (.tuple #[.slice none 0 0, .int .i64 20]) ∧ w = w' :=
  (checked_exact A c l w hr hc).mono fun _ _ ⟨h1, h2⟩ => ⟨by rw [h1]; unfold checkV; rw [if_pos h], h2⟩
theorem checked_fit (A : Option Addr) (c : Nat) (l : List Int) (w : World) (hr : Kd.C (Kd.int .u32) w A l.length l) (hc : l.length ≤ c) (h : ¬ 256 < (strip l).length) :
    Calls Try.prog 110 #[.slice A l.length c] w fun e w' => e = .returned (.tuple #[.slice A (strip l).length c, .int .i64 0]) ∧ w = w' :=
  (checked_exact A c l w hr hc).mono fun _ _ ⟨h1, h2⟩ => ⟨by rw [h1]; unfold checkV; rw [if_neg h], h2⟩
theorem nat_checked.calls (P0_ : Nat → Prop) (u9000_ : Value) (l0 : List Int) (r1 : List Int) (r2 : Int) (w0 w : World) (hB : Below w0.heap.size w0 w) (ho0 : Kd.R (Kd.int .u32) 75 w w0.heap.size P0_ u9000_ l0) (h : nat_checked.f l0 = some (r1, r2)) :
    Calls Try.prog 110 #[u9000_] w fun e w' => ∃ v0_ : Value, e = .returned (.tuple #[v0_, .int .i64 r2]) ∧ Kd.R (Kd.int .u32) 75 w' w0.heap.size (fun k_ => (P0_ k_ ∨ w.heap.size ≤ k_)) v0_ r1 ∧ Below w0.heap.size w0 w' ∧ Kept w w' (fun k_ => P0_ k_) := by
  obtain ⟨A, c, rfl⟩ := Kd.R_slice ho0
  have hr := Kd.R_reads' ho0
  refine (checked_exact A c l0 w hr.2.2 hr.2.1).mono ?_
  rintro e w' ⟨rfl, rfl⟩
  unfold nat_checked.f at h
  have h := Option.some.inj h
  by_cases hl : 256 < (strip l0).length
  · rw [if_pos hl] at h
    cases h
    exact ⟨_, by unfold checkV; rw [if_pos hl], Kd.R_nil _ _ _ _ _, hB, Kept.refl _ _⟩
  · rw [if_neg hl] at h
    cases h
    exact ⟨_, by unfold checkV; rw [if_neg hl], Kd.R_mono (R_strip ho0) (fun _ hk => .inl hk), hB, Kept.refl _ _⟩
def nat_Of.f (a0 : Int) : Option (List Int) := some (strip [a0 % 4294967296, (a0 / 4294967296) % 4294967296])
set_option maxHeartbeats 400000 in
set_option maxRecDepth 100000 in
theorem nat_Of.calls (a0 : Int) (r : List Int) (w : World) (h : nat_Of.f a0 = some r) :
    Calls Try.prog 47 #[.int .u64 a0] w fun e w' => ∃ v0_ : Value, e = .returned (v0_) ∧ Kd.R (Kd.int .u32) 75 w' w.heap.size (fun _ => True) v0_ r ∧ Below w.heap.size w w' := by
  obtain rfl := Option.some.inj h
  clear h
  go_enter Try.func47, Try.ntmps47
  have ho : Kd.R (Kd.int .u32) 75 (w.alloc (.cells #[.int .u32 (a0 % 4294967296), .int .u32 (a0 / 4294967296 % 4294967296)] 75)) w.heap.size (fun _ => True) (.slice (some ⟨w.heap.size, 0, none⟩) [a0 % 4294967296, a0 / 4294967296 % 4294967296].length 2) [a0 % 4294967296, a0 / 4294967296 % 4294967296] :=
    Kd.R_of_own (own_lit w w.heap.size 75 .u32 [a0 % 4294967296, a0 / 4294967296 % 4294967296] (Nat.le_refl _) (by simp)) (fun _ _ => trivial)
  have HO := Aside0.mk ho
  have HB := Aside0.mk (bare_exact (some ⟨w.heap.size, 0, none⟩) 2 [a0 % 4294967296, a0 / 4294967296 % 4294967296] _ (Kd.R_reads' ho).2.2 (by simp))
  clear ho
  go_wp2_with (go_at_call 92; refine HB.out.mono ?_; rintro e w1 ⟨rfl, rfl⟩)
  go_ret
  exact ⟨_, rfl, R_strip HO.out, (Below.refl _ _).alloc (Nat.le_refl _) _⟩
end Go.Proofs.Ytlifengbicpppaa.G
end
section
namespace Go.Proofs.Ytlifengbicpppaa.G
open Go.RowKit Go.Proofs.YtlifengbicpppaaW.PrintWords Go.Proofs.YtlifengbicpppaaW.PrintLast Go.Proofs.YtlifengbicpppaaW.PrintMore
def api_Nat_uint32_103.f (l0 : List Int) : Option (List Int) := if l0.length < 35184372088832 then some l0 else none
set_option maxHeartbeats 800000 in
set_option maxRecDepth 100000 in
theorem api_Nat_uint32_103.calls (A0 : Option Addr) (c0 : Nat) (l0 : List Int) (r : List Int) (w : World) (hr0 : Kd.C (Kd.int .u32) w A0 l0.length l0) (_hc0 : l0.length ≤ c0) (h : api_Nat_uint32_103.f l0 = some r) :
    Calls Try.prog 103 #[.slice A0 l0.length c0] w fun e w' => ∃ v0_ : Value, e = .returned (v0_) ∧ Kd.R (Kd.int .u32) 75 w' w.heap.size (fun _ => True) v0_ r ∧ Below w.heap.size w w' := by
  unfold api_Nat_uint32_103.f at h
  by_cases hl : l0.length < 35184372088832
  · rw [if_pos hl] at h
    obtain rfl := Option.some.inj h
    have LM := Aside0.mk hl
    have HR0 := Aside0.mk hr0
    clear hr0 hl h _hc0
    have HB := Aside0.mk (Below.refl w.heap.size w)
    cases A0 with
    | none =>
      have hn : l0.length = 0 := by
        rcases Nat.eq_zero_or_pos l0.length with h0 | h0
        · exact h0
        · obtain ⟨ad, e, _⟩ := HR0.out.2.2 h0
          cases e
      obtain rfl : l0 = [] := List.eq_nil_of_length_eq_zero hn
      clear hn
      have he := fun (n c n' c' : Nat) (w : World) => Lib.run_eql_slice_nil (P := Try.prog) w 46 75 none n c n' c' Try.underlying46
      go_enter Try.func103, Try.ntmps103
      go_wp2
      go_ret
      exact ⟨_, rfl, Kd.R_nil _ _ _ _ _, Below.refl _ _⟩
    | some a0 =>
      have he := fun (n c n' c' : Nat) (w : World) => Lib.run_eql_slice_nil (P := Try.prog) w 46 75 (some a0) n c n' c' Try.underlying46
      go_enter Try.func103, Try.ntmps103
      go_wp2_with (first
        | ((with_reducible refine gate_dst (N := 5) rfl ?_); refine Kd.R_lit (Kd.int .u32) _ 75 ?hg (N := 5) ?hd (xs := ([] : List Int)) (inner := []) (ok := fun _ => True) (okp := fun _ => True) ?hr ?hp (fun _ hk => hk) trivial (Below.refl _ _) (Nat.le_refl _) (by simp) ?_; (case hd => rfl); (case hg => rfl); (case hr => first | (go_simp; done) | (go_simp; rfl)); (case hp => exact (Reps.none _ _)); intro v1 w1 ho7 hb hg_ hnew_; clear hg_ hnew_; have HO1 := Aside0.mk ho7; have HB1 := Aside0.mk hb; clear hb ho7)
        | ((with_reducible refine gate_builtin (b := .append) (xs := #[.tmp 5, .tmp 6]) rfl ?_); at_builtin; refine Kd.R_append_rows (Kd.int .u32) (w0 := w) w.heap.size rfl (.tmp 5) (.tmp 6) 46 75 (.int .u32 0) 4 rfl Try.underlying46 info75 rfl (by decide) (by omega) v1 [] l0 _ _ _ (fun _ => True) (fun _ => False) rfl rfl ?aO ?aR (fun _ _ h => h) (fun _ h => h.elim) ?aF ?aB ?aS ?aL ?_; (case aR => exact Kd.C_below HR0.out HB1.out); (case aB => exact HB1.out); (case aF => exact (fun _ _ => trivial)); (case aO => exact HO1.out); (case aS => exact HB1.out.size); (case aL => have := LM.out; simp; omega); intro v2 w2 ho hb hg hat; have HB2 := Aside0.mk hb; have HO2 := Aside0.mk ho; clear ho hb hg hat))
      go_ret
      exact ⟨_, rfl, by simpa using HO2.out, HB2.out⟩
  · rw [if_neg hl] at h
    cases h
end Go.Proofs.Ytlifengbicpppaa.G
end
section
namespace Go.Proofs.Ytlifengbicpppaa.G
open Go.RowKit Go.Proofs.YtlifengbicpppaaW.PrintWords Go.Proofs.YtlifengbicpppaaW.PrintLast Go.Proofs.YtlifengbicpppaaW.PrintMore
attribute [local go_sem] max2_int min2_int max_two min_two max_three min_three max_four min_four   -- for this text's walks alone
set_option linter.unusedVariables false
set_option linter.unusedSimpArgs false
def nat_Trim.f (k : Nat) (l0 : List Int) : Option (List Int × Int) := (api_Nat_uint32_92.f k l0).bind fun t232 => ((api_Nat_uint32_103.f t232).bind fun t235 => ((nat_checked.f t235).bind fun bt238 => (some (bt238.1, bt238.2))))
set_option maxHeartbeats 8000000 in
set_option maxRecDepth 100000 in
theorem nat_Trim.calls (k : Nat) (A0 : Option Addr) (c0 : Nat) (l0 : List Int) (r1 : List Int) (r2 : Int) (w : World) (hr0 : Kd.C (Kd.int .u32) w A0 l0.length l0) (hc0 : l0.length ≤ c0) (h : nat_Trim.f k l0 = some (r1, r2)) :
    Calls Try.prog 86 #[.slice A0 l0.length c0] w fun e w' => ∃ v0_ : Value, e = .returned (.tuple #[v0_, .int .i64 r2]) ∧ Kd.R (Kd.int .u32) 75 w' w.heap.size (fun _ => True) v0_ r1 ∧ Below w.heap.size w w' := by
  have HR0 := Aside0.mk hr0
  have HC0 := Aside0.mk hc0
  clear hr0 hc0
  have HB := Aside0.mk (Below.refl w.heap.size w)
  have H : ((api_Nat_uint32_92.f k l0).bind fun t232 => ((api_Nat_uint32_103.f t232).bind fun t235 => ((nat_checked.f t235).bind fun bt238 => (some (bt238.1, bt238.2))))) = some (r1, r2) := h
  clear h
  replace H := Option.bind_eq_some_iff.mp H
  obtain ⟨t232, A20, H⟩ := H
  replace H : ((api_Nat_uint32_103.f t232).bind fun t235 => ((nat_checked.f t235).bind fun bt238 => (some (bt238.1, bt238.2)))) = some (r1, r2) := H
  have A2 := Aside0.mk A20
  clear A20
  replace H := Option.bind_eq_some_iff.mp H
  obtain ⟨t235, A30, H⟩ := H
  replace H : ((nat_checked.f t235).bind fun bt238 => (some (bt238.1, bt238.2))) = some (r1, r2) := H
  have A3 := Aside0.mk A30
  clear A30
  replace H := Option.bind_eq_some_iff.mp H
  obtain ⟨⟨t238, t241⟩, A40, H⟩ := H
  replace H : (some (t238, t241)) = some (r1, r2) := H
  have A4 := Aside0.mk A40
  clear A40
  simp only [Option.some.injEq, Prod.mk.injEq] at H
  obtain ⟨rfl, rfl⟩ := H
  go_enter Try.func86, Try.ntmps86
  go_wp2_with (first | ((with_reducible refine gate_callee (f := 92) rfl ?_); refine goesL_ (some 5) rfl rfl Try.func92 (by kernel_rfl) rfl #[.slice A0 l0.length c0] rfl (by (try simp only [List.map_toArray, List.map_cons, List.map_nil]); first | done | rfl | (simp only [List.length_drop, List.length_take]; rfl)) ?_; (with_reducible refine (api_Nat_uint32_92.calls k (fun k_ => k_ < w.heap.size) _ _ l0 t232 _ ?side1 A2.out).mono ?_); (case side1 => exact Kd.V_mk HC0.out (Kd.F_below (Kd.C_F (Kd.heap_int .u32) HR0.out) (by repeat (first | (with_reducible first | exact HB.out | apply below_alloc | apply pw_below_drewN | apply below_drew1) | exact HB.out)))); rintro e w5 ⟨v233, rfl, ho0, hb⟩; refine ⟨_, rfl, ?_⟩; have n0_ := Aside0.mk (Kd.V_lower (Kd.V_mono (ok' := fun k_ => True) ho0 (fun k_ hk_ => trivial)) (below_size (by repeat (first | (with_reducible first | exact HB.out | apply below_alloc | apply pw_below_drewN | apply below_drew1) | exact HB.out)))); have n1_ := Aside0.mk (below_step (by repeat (first | (with_reducible first | exact HB.out | apply below_alloc | apply pw_below_drewN | apply below_drew1) | exact HB.out)) hb); clear HB; have HO234 := n0_; have HB := n1_; clear n0_ n1_; (try clear hb); (try clear hb2); (try clear hk); (try clear hi); (try clear ho0); obtain ⟨Ao6, co6, eo6⟩ := Kd.V_slice HO234.out; subst eo6) | ((with_reducible refine gate_callee (f := 103) rfl ?_); refine goesL_ (some 6) rfl rfl Try.func103 (by kernel_rfl) rfl #[.slice Ao6 t232.length co6] rfl (by (try simp only [List.map_toArray, List.map_cons, List.map_nil]); first | done | rfl | (simp only [List.length_drop, List.length_take]; rfl)) ?_; (with_reducible refine (api_Nat_uint32_103.calls _ _ t232 t235 _ ?side1 ?side2 A3.out).mono ?_); (case side1 => repeat (first | exact (Kd.V_reads' HO234.out).2.2 | (with_reducible refine Kd.C_alloc ?_ _) | (with_reducible refine Kd.C_drewN ?_ _) | (with_reducible refine Kd.C_drew ?_))); (case side2 => exact (Kd.V_reads' HO234.out).2.1); rintro e w7 ⟨v236, rfl, ho0, hb⟩; refine ⟨_, rfl, ?_⟩; have n0_ := Aside0.mk (Kd.V_elder' (by (with_reducible repeat (first | apply Kd.V_alloc | apply Kd.V_drewN | apply Kd.V_drew)); exact HO234.out) (Kd.R_base ho0) hb); have n1_ := Aside0.mk (Kd.R_lower ho0 (below_size (by repeat (first | (with_reducible first | exact HB.out | apply below_alloc | apply pw_below_drewN | apply below_drew1) | exact HB.out)))); have n2_ := Aside0.mk (below_step (by repeat (first | (with_reducible first | exact HB.out | apply below_alloc | apply pw_below_drewN | apply below_drew1) | exact HB.out)) hb); clear HO234; clear HB; have HO234 := n0_; have HO237 := n1_; have HB := n2_; clear n0_ n1_ n2_; (try clear hb); (try clear hb2); (try clear hk); (try clear hi); (try clear ho0); obtain ⟨Ao8, co8, eo8⟩ := Kd.R_slice HO237.out; subst eo8) | ((with_reducible refine gate_callee (f := 110) rfl ?_); refine goesL_ (some 7) rfl rfl Try.func110 (by kernel_rfl) rfl #[.slice Ao8 t235.length co8] rfl (by (try simp only [List.map_toArray, List.map_cons, List.map_nil]); first | done | rfl | (simp only [List.length_drop, List.length_take]; rfl)) ?_; (with_reducible refine (nat_checked.calls (fun k_ => some k_ = (.slice Ao8 t235.length co8 : Value).ownBlock) (.slice Ao8 t235.length co8) t235 t238 t241 w _ ?side1 ?side2 A4.out).mono ?_); (case side1 => repeat (first | (with_reducible first | exact HB.out | apply below_alloc | apply pw_below_drewN | apply below_drew1) | exact HB.out)); (case side2 => exact Kd.R_tight rfl HO237.out); rintro e w9 ⟨v239, rfl, ho0, hb, hkp⟩; refine ⟨_, rfl, ?_⟩; have n0_ := Aside0.mk (Kd.V_mono (ok' := fun k_ => some k_ ≠ (v239 : Value).ownBlock) (Kd.V_keptB (HO234.out) hkp (fun k_ hk_ hs_ => (hk_.2) hs_)) (fun k_ hk_ => fun e_ => Or.elim (ho0.1 k_ e_.symm) (fun hs_ => hk_.2.1 hs_) (fun hn_ => Nat.not_le.2 hk_.2.2 hn_))); have n1_ := Aside0.mk (Kd.R_mono (ok' := fun k_ => True) ho0 (fun k_ hk_ => trivial)); have n2_ := Aside0.mk (hb); clear HO234; clear HB; clear HO237; have HO234 := n0_; have HO240 := n1_; have HB := n2_; clear n0_ n1_ n2_; (try clear hb); (try clear hkp); (try clear ho0)))
  go_ret2
  exact ⟨_, by first | rfl | (simp [errW_none, errW_some] <;> rfl) | (simp [*, errW_none, errW_some] <;> rfl), by (with_reducible repeat (first | apply Kd.R_alloc | apply Kd.R_drewN | apply Kd.R_drew)); exact HO240.out, by repeat (first | (with_reducible first | exact HB.out | apply below_alloc | apply pw_below_drewN | apply below_drew1) | exact HB.out)⟩
end Go.Proofs.Ytlifengbicpppaa.G
end
section
namespace Go.Proofs.Ytlifengbicpppaa.G
open Go.RowKit Go.Proofs.YtlifengbicpppaaW.PrintWords Go.Proofs.YtlifengbicpppaaW.PrintLast Go.Proofs.YtlifengbicpppaaW.PrintMore
attribute [local go_sem] max2_int min2_int max_two min_two max_three min_three max_four min_four   -- for this text's walks alone
set_option linter.unusedVariables false
set_option linter.unusedSimpArgs false
def postmarkref02_Short.l0 : Nat → List Int → Int → Option (List Int)
  | 0, _, _ => none
  | k + 1, x0, x3 => if x3 > 0 then (if 0 ≤ (wrap64 (x3 - 1)) then (if (wrap64 (x3 - 1)) < (x0.length : Int) then (if (rd x0 (wrap64 (x3 - 1))) = 0 then (postmarkref02_Short.l0 k x0 (wrap64 (x3 - 1))) else (if 0 ≤ x3 then (if x3 ≤ (x0.length : Int) then (some (x0.take (x3 : Int).toNat)) else (none)) else (none))) else (none)) else (none)) else (if 0 ≤ x3 then (if x3 ≤ (x0.length : Int) then (some (x0.take (x3 : Int).toNat)) else (none)) else (none))
def postmarkref02_Short.f (k : Nat) (l0 : List Int) : Option (List Int) := postmarkref02_Short.l0 k l0 (l0.length : Int)
set_option maxHeartbeats 8000000 in
set_option maxRecDepth 100000 in
theorem postmarkref02_Short.calls (k : Nat) (P0_ : Nat → Prop) (u9000_ : Value) (l0 : List Int) (r : List Int) (w0 w : World) (hB : Below w0.heap.size w0 w) (ho0 : Kd.R (Kd.int .i64) 3 w w0.heap.size P0_ u9000_ l0) (h : postmarkref02_Short.f k l0 = some r) :
    Calls Try.prog 115 #[u9000_] w fun e w' => ∃ v0_ : Value, e = .returned (v0_) ∧ Kd.R (Kd.int .i64) 3 w' w0.heap.size (fun k_ => (P0_ k_ ∨ w.heap.size ≤ k_)) v0_ r ∧ Below w0.heap.size w0 w' ∧ Kept w w' (fun k_ => P0_ k_) := by
  have HO0 := Aside0.mk (show Kd.R (Kd.int .i64) 3 w w0.heap.size (fun k_ => (P0_ k_ ∨ w.heap.size ≤ k_)) u9000_ l0 from Kd.R_mono ho0 (fun k_ hk => (.inl hk)))
  have HK := Aside0.mk (Kept.refl w (fun k_ => P0_ k_))
  have HW0 := Aside0.mk hB.size
  have HB := Aside0.mk hB
  clear hB
  have H : (postmarkref02_Short.l0 k l0 (l0.length : Int)) = some r := h
  clear h
  have H' := Aside0.mk H
  clear H
  obtain ⟨Ao2, co2, eo2⟩ := Kd.R_slice HO0.out
  subst eo2
  go_enter Try.func115, Try.ntmps115
  go_wp2
  go_loopg [3] k (fun kq v3 w' => ∃ (x3_1 : Int), v3 = .int .i64 x3_1 ∧ Aside0 (postmarkref02_Short.l0 kq l0 x3_1 = some r) ∧ Aside0 (kq ≤ k) ∧ Aside0 (Kd.R (Kd.int .i64) 3 w' w0.heap.size (fun k_ => (P0_ k_ ∨ w.heap.size ≤ k_)) (.slice Ao2 l0.length co2) l0) ∧ Aside0 (Kept w w' (fun k_ => P0_ k_)) ∧ Aside0 (Below w0.heap.size w0 w'))
  case atStart => exact ⟨((l0.length : Int)), (by first | rfl | (simp; done) | (simp [*]; done)), H', ⟨Nat.le_refl _⟩, ⟨by (with_reducible repeat (first | apply Kd.R_alloc | apply Kd.R_drewN | apply Kd.R_drew)); exact HO0.out⟩, ⟨by repeat (first | (with_reducible first | exact HK.out | apply Kept.alloc | apply Kept.drewN | apply Kept.drew) | exact HK.out)⟩, ⟨by repeat (first | (with_reducible first | exact HB.out | apply below_alloc | apply pw_below_drewN | apply below_drew1) | exact HB.out)⟩⟩
  case round =>
    clear H'
    try clear c1
    try clear p2
    obtain ⟨x3_1, rfl, HA, HK1, HO_0, HK, HB⟩ := hrel
    cases gk with
    | zero => exact absurd HA.out (by simp [postmarkref02_Short.l0])
    | succ k1 =>
      have H := HA.out
      clear HA
      simp only [postmarkref02_Short.l0] at H
      by_cases c3 : x3_1 > 0
      · rw [if_pos c3] at H
        have c3b0 : decide (0 < x3_1) = true := decide_eq_true c3
        clear c3
        obtain ⟨ji4, hji4⟩ : ∃ j_ : Int, (wrap64 (x3_1 - 1)) = j_ := ⟨_, rfl⟩
        replace H : (if 0 ≤ (ji4) then (if (ji4) < (l0.length : Int) then (if (rd l0 (ji4)) = 0 then (postmarkref02_Short.l0 k1 l0 ji4) else (if 0 ≤ x3_1 then (if x3_1 ≤ (l0.length : Int) then (some (l0.take (x3_1 : Int).toNat)) else (none)) else (none))) else (none)) else (none)) = some r := by first | (rw [hji4] at H; exact H) | (simp only [hji4] at H ⊢; exact H)
        have hji4w : (IntKind.i64.wrap (x3_1 - 1)) = ji4 := (i64_w _).trans hji4
        by_cases c5 : 0 ≤ (ji4)
        · rw [if_pos c5] at H
          have c5b0 : decide (0 ≤ (ji4)) = true := decide_eq_true c5
          clear c5
          by_cases c6 : (ji4) < (l0.length : Int)
          · rw [if_pos c6] at H
            have c6b0 : decide ((ji4) < (l0.length : Int)) = true := decide_eq_true c6
            clear c6
            by_cases c7 : (rd l0 (ji4)) = 0
            · rw [if_pos c7] at H
              have c7b0 : ((rd l0 (ji4)) == 0) = true := beq_iff_eq.mpr c7
              have c7b1 : ((rd l0 (ji4)) != 0) = false := bne_eq_false_iff_eq.mpr c7
              clear c7
              have H' := Aside0.mk H
              clear H
              have p131 : 0 ≤ ((ji4) : Int) := of_decide_eq_true (by first | (with_reducible assumption) | assumption)
              have q131 : (ji4) < (l0.length : Int) := of_decide_eq_true (by first | (with_reducible assumption) | assumption)
              obtain ⟨ad131, e131, hx131_0⟩ := Kd.at_int (Kd.R_reads' HO_0.out).2.2 (ji4) p131 q131
              cases e131
              replace p131 := eq_true p131
              replace q131 := eq_true q131
              go_wp2
              go_roundg k1
              case measure => have := HK1.out; omega
              case rel => exact ⟨(ji4), (by first | rfl | (simp; done) | (simp only [← hji4] <;> (first | rfl | simp)) | (simp [*]; done)), H', ⟨by have := HK1.out; omega⟩, ⟨by (with_reducible repeat (first | apply Kd.R_alloc | apply Kd.R_drewN | apply Kd.R_drew)); exact HO_0.out⟩, ⟨by repeat (first | (with_reducible first | exact HK.out | apply Kept.alloc | apply Kept.drewN | apply Kept.drew) | exact HK.out)⟩, ⟨by repeat (first | (with_reducible first | exact HB.out | apply below_alloc | apply pw_below_drewN | apply below_drew1) | exact HB.out)⟩⟩
            · rw [if_neg c7] at H
              have c7b0 : ((rd l0 (ji4)) == 0) = false := beq_eq_false_iff_ne.mpr c7
              have c7b1 : ((rd l0 (ji4)) != 0) = true := bne_iff_ne.mpr c7
              by_cases c8 : 0 ≤ x3_1
              · rw [if_pos c8] at H
                have c8b0 := eq_true c8
                have c8b1 : decide (0 ≤ x3_1) = true := decide_eq_true c8
                clear c8
                by_cases c9 : x3_1 ≤ (l0.length : Int)
                · rw [if_pos c9] at H
                  have c9b0 := eq_true c9
                  have c9b1 : decide (x3_1 ≤ (l0.length : Int)) = true := decide_eq_true c9
                  clear c9
                  obtain ⟨y132, hy132⟩ : ∃ y_ : List Int, y_ = (l0.take (x3_1 : Int).toNat) := ⟨_, rfl⟩
                  replace H : (some y132) = some r := by first | (rw [hy132]; with_reducible exact H) | (have H2_ := (Option.bind_some _ _).symm.trans H; rw [hy132]; with_reducible exact H2_) | (have H2_ := (Option.bind_some _ _).symm.trans H; with_reducible exact H2_) | with_reducible exact H | (rw [hy132]; exact H) | exact H
                  have Ny132 := Aside0.mk hy132
                  clear hy132
                  obtain rfl := Option.some.inj H
                  have p131 : 0 ≤ ((ji4) : Int) := of_decide_eq_true (by first | (with_reducible assumption) | assumption)
                  have q131 : (ji4) < (l0.length : Int) := of_decide_eq_true (by first | (with_reducible assumption) | assumption)
                  obtain ⟨ad131, e131, hx131_0⟩ := Kd.at_int (Kd.R_reads' HO_0.out).2.2 (ji4) p131 q131
                  cases e131
                  replace p131 := eq_true p131
                  replace q131 := eq_true q131
                  have q10 : (x3_1 : Int) ≤ ((l0.length : Int) : Int) := of_decide_eq_true (by first | (with_reducible assumption) | assumption)
                  obtain ⟨i010, hi010, _, hsz10, _⟩ := info_parts info3
                  have hcut10 := cut_to (P := Try.prog) 100 3 .i64 Try.underlying100 hi010 (some ad131) l0.length co2 x3_1 (of_decide_eq_true (by first | (with_reducible assumption) | assumption)) q10 (Kd.R_reads' HO_0.out).2.1
                  have hr10 := Kd.R_take (m := (x3_1 : Int).toNat) HO_0.out (by omega)
                  have hy10 : y132.length = (x3_1 : Int).toNat := (by rw [Ny132.out, List.length_take]; omega)
                  rw [← Ny132.out] at hr10
                  rw [← hy10] at hr10 hcut10
                  clear hy10 hi010 hsz10 HO_0
                  have HO134 := Aside0.mk hr10
                  clear hr10
                  replace q10 := eq_true q10
                  go_wp2
                  go_ret
                  exact ⟨_, by first | rfl | (simp [errW_none, errW_some] <;> rfl) | (simp only [← hji4]; first | rfl | (simp [errW_none, errW_some] <;> rfl)) | (simp [*, errW_none, errW_some] <;> rfl), by (with_reducible repeat (first | apply Kd.R_alloc | apply Kd.R_drewN | apply Kd.R_drew)); exact HO134.out, by repeat (first | (with_reducible first | exact HB.out | apply below_alloc | apply pw_below_drewN | apply below_drew1) | exact HB.out), by repeat (first | (with_reducible first | exact HK.out | apply Kept.alloc | apply Kept.drewN | apply Kept.drew) | exact HK.out)⟩
                · rw [if_neg c9] at H
                  exact absurd H (by simp)
              · rw [if_neg c8] at H
                exact absurd H (by simp)
          · rw [if_neg c6] at H
            exact absurd H (by simp)
        · rw [if_neg c5] at H
          exact absurd H (by simp)
      · rw [if_neg c3] at H
        have c3b0 : decide (0 < x3_1) = false := decide_eq_false c3
        clear c3
        by_cases c11 : 0 ≤ x3_1
        · rw [if_pos c11] at H
          have c11b0 := eq_true c11
          have c11b1 : decide (0 ≤ x3_1) = true := decide_eq_true c11
          clear c11
          by_cases c12 : x3_1 ≤ (l0.length : Int)
          · rw [if_pos c12] at H
            have c12b0 := eq_true c12
            have c12b1 : decide (x3_1 ≤ (l0.length : Int)) = true := decide_eq_true c12
            clear c12
            obtain ⟨y135, hy135⟩ : ∃ y_ : List Int, y_ = (l0.take (x3_1 : Int).toNat) := ⟨_, rfl⟩
            replace H : (some y135) = some r := by first | (rw [hy135]; with_reducible exact H) | (have H2_ := (Option.bind_some _ _).symm.trans H; rw [hy135]; with_reducible exact H2_) | (have H2_ := (Option.bind_some _ _).symm.trans H; with_reducible exact H2_) | with_reducible exact H | (rw [hy135]; exact H) | exact H
            have Ny135 := Aside0.mk hy135
            clear hy135
            obtain rfl := Option.some.inj H
            have q13 : (x3_1 : Int) ≤ ((l0.length : Int) : Int) := of_decide_eq_true (by first | (with_reducible assumption) | assumption)
            obtain ⟨i013, hi013, _, hsz13, _⟩ := info_parts info3
            have hcut13 := cut_to (P := Try.prog) 100 3 .i64 Try.underlying100 hi013 Ao2 l0.length co2 x3_1 (of_decide_eq_true (by first | (with_reducible assumption) | assumption)) q13 (Kd.R_reads' HO_0.out).2.1
            have hr13 := Kd.R_take (m := (x3_1 : Int).toNat) HO_0.out (by omega)
            have hy13 : y135.length = (x3_1 : Int).toNat := (by rw [Ny135.out, List.length_take]; omega)
            rw [← Ny135.out] at hr13
            rw [← hy13] at hr13 hcut13
            clear hy13 hi013 hsz13 HO_0
            have HO137 := Aside0.mk hr13
            clear hr13
            replace q13 := eq_true q13
            go_wp2
            go_ret
            exact ⟨_, by first | rfl | (simp [errW_none, errW_some] <;> rfl) | (simp [*, errW_none, errW_some] <;> rfl), by (with_reducible repeat (first | apply Kd.R_alloc | apply Kd.R_drewN | apply Kd.R_drew)); exact HO137.out, by repeat (first | (with_reducible first | exact HB.out | apply below_alloc | apply pw_below_drewN | apply below_drew1) | exact HB.out), by repeat (first | (with_reducible first | exact HK.out | apply Kept.alloc | apply Kept.drewN | apply Kept.drew) | exact HK.out)⟩
          · rw [if_neg c12] at H
            exact absurd H (by simp)
        · rw [if_neg c11] at H
          exact absurd H (by simp)
end Go.Proofs.Ytlifengbicpppaa.G
end
section
namespace Go.Proofs.Ytlifengbicpppaa.G
open Go.RowKit Go.Proofs.YtlifengbicpppaaW.PrintWords Go.Proofs.YtlifengbicpppaaW.PrintLast Go.Proofs.YtlifengbicpppaaW.PrintMore
attribute [local go_sem] max2_int min2_int max_two min_two max_three min_three max_four min_four   -- for this text's walks alone
set_option linter.unusedVariables false
set_option linter.unusedSimpArgs false
mutual
def postmarkref02_Digits.l0 : Nat → List Int → List Int → Int → Option (List Int)
  | 0, _, _, _ => none
  | k + 1, x0, x3, x4 => if x4 < (x0.length : Int) then (if 0 ≤ x4 then (postmarkref02_Digits.l1 k x0 x3 x4 (wrap64 (rd x0 x4)) 0) else (none)) else ((postmarkref02_Short.f k x3).bind fun t183 => (some t183))
def postmarkref02_Digits.l1 : Nat → List Int → List Int → Int → Int → Int → Option (List Int)
  | 0, _, _, _, _, _ => none
  | k + 1, x0, x3, x4, x5, x6 => if x6 < 4 then (if x3.length < 17592186044416 then (postmarkref02_Digits.l1 k x0 (x3 ++ [Int.tmod x5 256]) x4 (wrap64 (Int.tdiv x5 256)) (wrap64 (x6 + 1))) else (none)) else (postmarkref02_Digits.l0 k x0 x3 (wrap64 (x4 + 1)))
end
def postmarkref02_Digits.f (k : Nat) (l0 : List Int) : Option (List Int) := postmarkref02_Digits.l0 k l0 ([] : List Int) 0
set_option maxHeartbeats 8000000 in
set_option maxRecDepth 100000 in
theorem postmarkref02_Digits.calls (k : Nat) (A0 : Option Addr) (c0 : Nat) (l0 : List Int) (r : List Int) (w : World) (hr0 : Kd.C (Kd.int .u32) w A0 l0.length l0) (hc0 : l0.length ≤ c0) (h : postmarkref02_Digits.f k l0 = some r) :
    Calls Try.prog 76 #[.slice A0 l0.length c0] w fun e w' => ∃ v0_ : Value, e = .returned (v0_) ∧ Kd.R (Kd.int .i64) 3 w' w.heap.size (fun _ => True) v0_ r ∧ Below w.heap.size w w' := by
  have HR0 := Aside0.mk hr0
  have HC0 := Aside0.mk hc0
  clear hr0 hc0
  have HB := Aside0.mk (Below.refl w.heap.size w)
  have H : (postmarkref02_Digits.l0 k l0 ([] : List Int) 0) = some r := h
  clear h
  have H' := Aside0.mk H
  clear H
  go_enter Try.func76, Try.ntmps76
  go_wp2
  go_loopg [3, 4] k (fun kq v3 v4 w' => ∃ (x3_1 : List Int) (x4_1 : Int), v4 = .int .i64 x4_1 ∧ Aside0 (postmarkref02_Digits.l0 kq l0 x3_1 x4_1 = some r) ∧ Aside0 (kq ≤ k) ∧ Aside0 (Kd.R (Kd.int .i64) 3 w' w.heap.size (fun _ => True) v3 x3_1) ∧ Aside0 (Below w.heap.size w w'))
  case atStart => exact ⟨(([] : List Int)), (0), (by first | rfl | (simp; done) | (simp [*]; done)), H', ⟨Nat.le_refl _⟩, ⟨by first | exact Kd.R_nil _ _ _ _ _ | exact Kd.N_nil _ _ _ _ _ | exact Kd.V_nil _ _ _ _ _ | exact Kd.Q_nil _ _ _ _ _ | exact Kd.S_nil _ _ _ _ _⟩, ⟨by repeat (first | (with_reducible first | exact HB.out | apply below_alloc | apply pw_below_drewN | apply below_drew1) | exact HB.out)⟩⟩
  case round =>
    clear H'
    obtain ⟨x3_1, x4_1, rfl, HA, HK1, HO_3, HB⟩ := hrel
    cases gk with
    | zero => exact absurd HA.out (by simp [postmarkref02_Digits.l0])
    | succ k1 =>
      have H := HA.out
      clear HA
      simp only [postmarkref02_Digits.l0] at H
      by_cases c2 : x4_1 < (l0.length : Int)
      · rw [if_pos c2] at H
        have c2b0 : decide (x4_1 < (l0.length : Int)) = true := decide_eq_true c2
        clear c2
        by_cases c3 : 0 ≤ x4_1
        · rw [if_pos c3] at H
          have c3b0 : decide (0 ≤ x4_1) = true := decide_eq_true c3
          clear c3
          have H' := Aside0.mk H
          clear H
          have p186 : 0 ≤ (x4_1 : Int) := of_decide_eq_true (by first | (with_reducible assumption) | assumption)
          have q186 : x4_1 < (l0.length : Int) := of_decide_eq_true (by first | (with_reducible assumption) | assumption)
          obtain ⟨ad186, e186, hx186_0⟩ := Kd.at_int HR0.out x4_1 p186 q186
          cases e186
          replace hx186_0 := (HB.out.cell (World.block_lt_of_cell? w _ hx186_0)).trans hx186_0
          replace p186 := eq_true p186
          replace q186 := eq_true q186
          go_wp2
          go_loopg [3, 5, 6] k1 (fun kq v3 v5 v6 w' => ∃ (x3_2 : List Int) (x5_2 : Int) (x6_2 : Int), v5 = .int .i64 x5_2 ∧ v6 = .int .i64 x6_2 ∧ Aside0 (postmarkref02_Digits.l1 kq l0 x3_2 x4_1 x5_2 x6_2 = some r) ∧ Aside0 (kq ≤ k1) ∧ Aside0 (Kd.R (Kd.int .i64) 3 w' w.heap.size (fun _ => True) v3 x3_2) ∧ Aside0 (Below w.heap.size w w'))
          case atStart => exact ⟨(x3_1), (wrap64 (rd l0 x4_1)), (0), (by first | rfl | (simp; done) | (simp [*]; done)), (by first | rfl | (simp; done) | (simp [*]; done)), H', ⟨Nat.le_refl _⟩, ⟨by (with_reducible repeat (first | apply Kd.R_alloc | apply Kd.R_drewN | apply Kd.R_drew)); exact HO_3.out⟩, ⟨by repeat (first | (with_reducible first | exact HB.out | apply below_alloc | apply pw_below_drewN | apply below_drew1) | exact HB.out)⟩⟩
          case round =>
            clear H'
            try clear p1
            try clear q1
            try clear hx1
            try clear c2
            try clear c2b0
            try clear p2
            try clear c3
            try clear c3b0
            try clear hx186_0
            try clear p186
            try clear q186
            obtain ⟨x3_2, x5_2, x6_2, rfl, rfl, HA, HK2, HO_3, HB⟩ := hrel
            cases gk with
            | zero => exact absurd HA.out (by simp [postmarkref02_Digits.l1])
            | succ k2 =>
              have H := HA.out
              clear HA
              simp only [postmarkref02_Digits.l1] at H
              by_cases c4 : x6_2 < 4
              · rw [if_pos c4] at H
                have c4b0 : decide (x6_2 < 4) = true := decide_eq_true c4
                clear c4
                by_cases c5 : x3_2.length < 17592186044416
                · rw [if_pos c5] at H
                  have LMc5 := Aside0.mk c5
                  clear c5
                  obtain ⟨y187, hy187⟩ : ∃ y_ : List Int, y_ = (x3_2 ++ [Int.tmod x5_2 256]) := ⟨_, rfl⟩
                  replace H : (postmarkref02_Digits.l1 k2 l0 y187 x4_1 (wrap64 (Int.tdiv x5_2 256)) (wrap64 (x6_2 + 1))) = some r := by first | (rw [hy187]; with_reducible exact H) | (have H2_ := (Option.bind_some _ _).symm.trans H; rw [hy187]; with_reducible exact H2_) | (have H2_ := (Option.bind_some _ _).symm.trans H; with_reducible exact H2_) | with_reducible exact H | (rw [hy187]; exact H) | exact H
                  have Ny187 := Aside0.mk hy187
                  clear hy187
                  have H' := Aside0.mk H
                  clear H
                  go_wp2_with (first | ((with_reducible refine gate_builtin (b := .append) (xs := #[.tmp 22, .tmp 25]) rfl ?_); at_builtin; refine Kd.R_append (Kd.int .i64) (w0 := w) w.heap.size rfl (.tmp 22) (.tmp 25) 100 3 (.int .i64 0) 8 rfl Try.underlying100 info3 rfl (by decide) (by omega) u3 x3_2 (Int.tmod x5_2 256) [.int .i64 (Int.tmod x5_2 256)] (fun _ => True) (fun _ => False) rfl rfl ?aP (fun _ hk => hk.elim) ?aF ?aO ?aB ?aS ?aL ?_; (case aP => exact rfl); (case aB => exact (by repeat (first | (with_reducible first | exact HB.out | apply below_alloc | apply pw_below_drewN | apply below_drew1) | exact HB.out))); (case aF => exact (fun _ _ => trivial)); (case aO => exact (by (with_reducible repeat (first | apply Kd.R_alloc | apply Kd.R_drewN | apply Kd.R_drew)); exact HO_3.out)); (case aS => exact (below_size (by repeat (first | (with_reducible first | exact HB.out | apply below_alloc | apply pw_below_drewN | apply below_drew1) | exact HB.out)))); (case aL => have := LMc5.out; omega); intro v188 w6 ho hb hg hat; rw [← Ny187.out] at ho; have n0_ := Aside0.mk (hb); have n1_ := Aside0.mk (ho); clear HB; clear HO_3; have HB := n0_; have HO189 := n1_; clear n0_ n1_; clear ho hb hg hat))
                  go_roundg k2
                  case measure => have := HK1.out; have := HK2.out; omega
                  case rel => exact ⟨(y187), (wrap64 (Int.tdiv x5_2 256)), (wrap64 (x6_2 + 1)), (by first | rfl | (simp; done) | (simp [*]; done)), (by first | rfl | (simp; done) | (simp [*]; done)), H', ⟨by have := HK1.out; have := HK2.out; omega⟩, ⟨by (with_reducible repeat (first | apply Kd.R_alloc | apply Kd.R_drewN | apply Kd.R_drew)); exact HO189.out⟩, ⟨by repeat (first | (with_reducible first | exact HB.out | apply below_alloc | apply pw_below_drewN | apply below_drew1) | exact HB.out)⟩⟩
                · rw [if_neg c5] at H
                  exact absurd H (by simp)
              · rw [if_neg c4] at H
                have c4b0 : decide (x6_2 < 4) = false := decide_eq_false c4
                clear c4
                have H' := Aside0.mk H
                clear H
                go_wp2
                go_roundg k2
                case measure => have := HK1.out; have := HK2.out; omega
                case rel => exact ⟨(x3_2), (wrap64 (x4_1 + 1)), (by first | rfl | (simp; done) | (simp [*]; done)), H', ⟨by have := HK1.out; have := HK2.out; omega⟩, ⟨by (with_reducible repeat (first | apply Kd.R_alloc | apply Kd.R_drewN | apply Kd.R_drew)); exact HO_3.out⟩, ⟨by repeat (first | (with_reducible first | exact HB.out | apply below_alloc | apply pw_below_drewN | apply below_drew1) | exact HB.out)⟩⟩
        · rw [if_neg c3] at H
          exact absurd H (by simp)
      · rw [if_neg c2] at H
        have c2b0 : decide (x4_1 < (l0.length : Int)) = false := decide_eq_false c2
        clear c2
        replace H := Option.bind_eq_some_iff.mp H
        obtain ⟨t183, A70, H⟩ := H
        replace H : (some t183) = some r := H
        have A7 := Aside0.mk A70
        clear A70
        obtain rfl := Option.some.inj H
        obtain ⟨Ao8, co8, eo8⟩ := Kd.R_slice HO_3.out
        subst eo8
        go_wp2_with (first | ((with_reducible refine gate_callee (f := 115) rfl ?_); refine goesL_ (some 30) rfl rfl Try.func115 (by kernel_rfl) rfl #[.slice Ao8 x3_1.length co8] rfl (by (try simp only [List.map_toArray, List.map_cons, List.map_nil]); first | done | rfl | (simp only [List.length_drop, List.length_take]; rfl)) ?_; (with_reducible refine (postmarkref02_Short.calls k1 (fun k_ => some k_ = (.slice Ao8 x3_1.length co8 : Value).ownBlock) (.slice Ao8 x3_1.length co8) x3_1 t183 w _ ?side1 ?side2 A7.out).mono ?_); (case side1 => repeat (first | (with_reducible first | exact HB.out | apply below_alloc | apply pw_below_drewN | apply below_drew1) | exact HB.out)); (case side2 => exact Kd.R_tight rfl HO_3.out); rintro e w9 ⟨v184, rfl, ho0, hb, hkp⟩; refine ⟨_, rfl, ?_⟩; have n0_ := Aside0.mk (Kd.R_mono (ok' := fun k_ => True) ho0 (fun k_ hk_ => trivial)); have n1_ := Aside0.mk (hb); clear HB; clear HO_3; have HO185 := n0_; have HB := n1_; clear n0_ n1_; (try clear hb); (try clear hkp); (try clear ho0)))
        go_ret
        exact ⟨_, by first | rfl | (simp [errW_none, errW_some] <;> rfl) | (simp [*, errW_none, errW_some] <;> rfl), by (with_reducible repeat (first | apply Kd.R_alloc | apply Kd.R_drewN | apply Kd.R_drew)); exact HO185.out, by repeat (first | (with_reducible first | exact HB.out | apply below_alloc | apply pw_below_drewN | apply below_drew1) | exact HB.out)⟩
end Go.Proofs.Ytlifengbicpppaa.G
end
section
namespace Go.Proofs.Ytlifengbicpppaa.G
open Go.RowKit Go.Proofs.YtlifengbicpppaaW.PrintWords Go.Proofs.YtlifengbicpppaaW.PrintLast Go.Proofs.YtlifengbicpppaaW.PrintMore
attribute [local go_sem] max2_int min2_int max_two min_two max_three min_three max_four min_four   -- for this text's walks alone
set_option linter.unusedVariables false
set_option linter.unusedSimpArgs false
mutual
def postmarkref02_Limbs.l0 : Nat → List Int → List Int → Int → Option (List Int)
  | 0, _, _, _ => none
  | k + 1, x0, x3, x4 => if x4 < (x0.length : Int) then (postmarkref02_Limbs.l1 k x0 x3 x4 0 3) else (some x3)
def postmarkref02_Limbs.l1 : Nat → List Int → List Int → Int → Int → Int → Option (List Int)
  | 0, _, _, _, _, _ => none
  | k + 1, x0, x3, x4, x5, x6 => if x6 ≥ 0 then (if (wrap64 (x4 + x6)) < (x0.length : Int) then (if 0 ≤ (wrap64 (x4 + x6)) then (postmarkref02_Limbs.l1 k x0 x3 x4 (wrap64 ((wrap64 (256 * x5)) + (rd x0 (wrap64 (x4 + x6))))) (wrap64 (x6 - 1))) else (none)) else (postmarkref02_Limbs.l1 k x0 x3 x4 (wrap64 (256 * x5)) (wrap64 (x6 - 1)))) else (if x3.length < 35184372088832 then (postmarkref02_Limbs.l0 k x0 (x3 ++ [(x5) % 4294967296]) (wrap64 (x4 + 4))) else (none))
end
def postmarkref02_Limbs.f (k : Nat) (l0 : List Int) : Option (List Int) := (postmarkref02_Short.f k l0).bind fun t278 => (postmarkref02_Limbs.l0 k t278 ([] : List Int) 0)
set_option maxHeartbeats 8000000 in
set_option maxRecDepth 100000 in
theorem postmarkref02_Limbs.calls (k : Nat) (P0_ : Nat → Prop) (u9000_ : Value) (l0 : List Int) (r : List Int) (w0 w : World) (hB : Below w0.heap.size w0 w) (ho0 : Kd.R (Kd.int .i64) 3 w w0.heap.size P0_ u9000_ l0) (h : postmarkref02_Limbs.f k l0 = some r) :
    Calls Try.prog 80 #[u9000_] w fun e w' => ∃ v0_ : Value, e = .returned (v0_) ∧ Kd.R (Kd.int .u32) 75 w' w0.heap.size (fun k_ => (P0_ k_ ∨ w.heap.size ≤ k_)) v0_ r ∧ Below w0.heap.size w0 w' ∧ Kept w w' (fun k_ => P0_ k_) := by
  have HO0 := Aside0.mk (show Kd.R (Kd.int .i64) 3 w w0.heap.size (fun k_ => (P0_ k_ ∨ w.heap.size ≤ k_)) u9000_ l0 from Kd.R_mono ho0 (fun k_ hk => (.inl hk)))
  have HK := Aside0.mk (Kept.refl w (fun k_ => P0_ k_))
  have HW0 := Aside0.mk hB.size
  have HB := Aside0.mk hB
  clear hB
  have H : ((postmarkref02_Short.f k l0).bind fun t278 => (postmarkref02_Limbs.l0 k t278 ([] : List Int) 0)) = some r := h
  clear h
  replace H := Option.bind_eq_some_iff.mp H
  obtain ⟨t278, A20, H⟩ := H
  replace H : (postmarkref02_Limbs.l0 k t278 ([] : List Int) 0) = some r := H
  have A2 := Aside0.mk A20
  clear A20
  have H' := Aside0.mk H
  clear H
  obtain ⟨Ao3, co3, eo3⟩ := Kd.R_slice HO0.out
  subst eo3
  go_enter Try.func80, Try.ntmps80
  go_wp2_with (first | ((with_reducible refine gate_callee (f := 115) rfl ?_); refine goesL_ (some 8) rfl rfl Try.func115 (by kernel_rfl) rfl #[.slice Ao3 l0.length co3] rfl (by (try simp only [List.map_toArray, List.map_cons, List.map_nil]); first | done | rfl | (simp only [List.length_drop, List.length_take]; rfl)) ?_; (with_reducible refine (postmarkref02_Short.calls k (fun k_ => some k_ = (.slice Ao3 l0.length co3 : Value).ownBlock) (.slice Ao3 l0.length co3) l0 t278 w0 _ ?side1 ?side2 A2.out).mono ?_); (case side1 => repeat (first | (with_reducible first | exact HB.out | apply below_alloc | apply pw_below_drewN | apply below_drew1) | exact HB.out)); (case side2 => exact Kd.R_tight rfl HO0.out); rintro e w4 ⟨v279, rfl, ho0, hb, hkp⟩; refine ⟨_, rfl, ?_⟩; have n0_ := Aside0.mk (Kd.R_mono (ok' := fun k_ => (P0_ k_ ∨ w.heap.size ≤ k_)) ho0 (fun k_ hk_ => Or.elim hk_ (fun hs_ => (HO0.out.1 k_ (hs_).symm)) (fun hn_ => (.inr (Nat.le_trans (by first | exact HK.out.1 | exact (show Kept w _ (fun k_ => P0_ k_) from by repeat (first | (with_reducible first | exact HK.out | apply Kept.alloc | apply Kept.drewN | apply Kept.drew) | exact HK.out)).1) hn_))))); have n1_ := Aside0.mk (Kept.then_ (S := (fun k_ => P0_ k_)) (by repeat (first | (with_reducible first | exact HK.out | apply Kept.alloc | apply Kept.drewN | apply Kept.drew) | exact HK.out)) hkp (fun k_ hs_ => (fun e_ => (HO0.out.1 k_ e_.symm)) hs_)); have n2_ := Aside0.mk (hb); clear HK; clear HB; clear HO0; have HO280 := n0_; have HK := n1_; have HB := n2_; clear n0_ n1_ n2_; (try clear hb); (try clear hkp); (try clear ho0)))
  go_loopg [3, 4] k (fun kq v3 v4 w' => ∃ (x3_1 : List Int) (x4_1 : Int), v4 = .int .i64 x4_1 ∧ Aside0 (postmarkref02_Limbs.l0 kq t278 x3_1 x4_1 = some r) ∧ Aside0 (kq ≤ k) ∧ Aside0 (Kd.R (Kd.int .i64) 3 w' w0.heap.size (fun k_ => (P0_ k_ ∨ w.heap.size ≤ k_)) v279 t278) ∧ Aside0 (Kd.R (Kd.int .u32) 75 w' w0.heap.size (fun k_ => (P0_ k_ ∨ w.heap.size ≤ k_)) v3 x3_1) ∧ Aside0 (Kept w w' (fun k_ => P0_ k_)) ∧ Aside0 (Below w0.heap.size w0 w'))
  case atStart => exact ⟨(([] : List Int)), (0), (by first | rfl | (simp; done) | (simp [*]; done)), H', ⟨Nat.le_refl _⟩, ⟨by (with_reducible repeat (first | apply Kd.R_alloc | apply Kd.R_drewN | apply Kd.R_drew)); exact HO280.out⟩, ⟨by first | exact Kd.R_nil _ _ _ _ _ | exact Kd.N_nil _ _ _ _ _ | exact Kd.V_nil _ _ _ _ _ | exact Kd.Q_nil _ _ _ _ _ | exact Kd.S_nil _ _ _ _ _⟩, ⟨by repeat (first | (with_reducible first | exact HK.out | apply Kept.alloc | apply Kept.drewN | apply Kept.drew) | exact HK.out)⟩, ⟨by repeat (first | (with_reducible first | exact HB.out | apply below_alloc | apply pw_below_drewN | apply below_drew1) | exact HB.out)⟩⟩
  case round =>
    clear H'
    try clear c1
    try clear p2
    obtain ⟨x3_1, x4_1, rfl, HA, HK1, HO_0, HO_3, HK, HB⟩ := hrel
    cases gk with
    | zero => exact absurd HA.out (by simp [postmarkref02_Limbs.l0])
    | succ k1 =>
      have H := HA.out
      clear HA
      simp only [postmarkref02_Limbs.l0] at H
      by_cases c5 : x4_1 < (t278.length : Int)
      · rw [if_pos c5] at H
        have c5b0 : decide (x4_1 < (t278.length : Int)) = true := decide_eq_true c5
        clear c5
        have H' := Aside0.mk H
        clear H
        obtain ⟨Ao6, co6, eo6⟩ := Kd.R_slice HO_0.out
        subst eo6
        go_wp2
        go_loopg [5, 6] k1 (fun kq v5 v6 w' => ∃ (x5_2 : Int) (x6_2 : Int), v5 = .int .i64 x5_2 ∧ v6 = .int .i64 x6_2 ∧ Aside0 (postmarkref02_Limbs.l1 kq t278 x3_1 x4_1 x5_2 x6_2 = some r) ∧ Aside0 (kq ≤ k1) ∧ Aside0 (Kd.R (Kd.int .i64) 3 w' w0.heap.size (fun k_ => (P0_ k_ ∨ w.heap.size ≤ k_)) (.slice Ao6 t278.length co6) t278) ∧ Aside0 (Kd.R (Kd.int .u32) 75 w' w0.heap.size (fun k_ => (P0_ k_ ∨ w.heap.size ≤ k_)) u3 x3_1) ∧ Aside0 (Kept w w' (fun k_ => P0_ k_)) ∧ Aside0 (Below w0.heap.size w0 w'))
        case atStart => exact ⟨(0), (3), (by first | rfl | (simp; done) | (simp [*]; done)), (by first | rfl | (simp; done) | (simp [*]; done)), H', ⟨Nat.le_refl _⟩, ⟨by (with_reducible repeat (first | apply Kd.R_alloc | apply Kd.R_drewN | apply Kd.R_drew)); exact HO_0.out⟩, ⟨by (with_reducible repeat (first | apply Kd.R_alloc | apply Kd.R_drewN | apply Kd.R_drew)); exact HO_3.out⟩, ⟨by repeat (first | (with_reducible first | exact HK.out | apply Kept.alloc | apply Kept.drewN | apply Kept.drew) | exact HK.out)⟩, ⟨by repeat (first | (with_reducible first | exact HB.out | apply below_alloc | apply pw_below_drewN | apply below_drew1) | exact HB.out)⟩⟩
        case round =>
          clear H'
          try clear c1
          try clear p2
          try clear c5
          try clear c5b0
          try clear p2
          obtain ⟨x5_2, x6_2, rfl, rfl, HA, HK2, HO_0, HO_3, HK, HB⟩ := hrel
          cases gk with
          | zero => exact absurd HA.out (by simp [postmarkref02_Limbs.l1])
          | succ k2 =>
            have H := HA.out
            clear HA
            simp only [postmarkref02_Limbs.l1] at H
            by_cases c7 : x6_2 ≥ 0
            · rw [if_pos c7] at H
              have c7b0 : decide (0 ≤ x6_2) = true := decide_eq_true c7
              clear c7
              by_cases c8 : (wrap64 (x4_1 + x6_2)) < (t278.length : Int)
              · rw [if_pos c8] at H
                have c8b0 : decide ((wrap64 (x4_1 + x6_2)) < (t278.length : Int)) = true := decide_eq_true c8
                clear c8
                obtain ⟨ji9, hji9⟩ : ∃ j_ : Int, (wrap64 (x4_1 + x6_2)) = j_ := ⟨_, rfl⟩
                replace H : (if 0 ≤ (ji9) then (postmarkref02_Limbs.l1 k2 t278 x3_1 x4_1 (wrap64 ((wrap64 (256 * x5_2)) + (rd t278 (ji9)))) (wrap64 (x6_2 - 1))) else (none)) = some r := by first | (rw [hji9] at H; exact H) | (simp only [hji9] at H ⊢; exact H)
                (try rw [hji9] at c8b0)
                have hji9w : (IntKind.i64.wrap (x4_1 + x6_2)) = ji9 := (i64_w _).trans hji9
                by_cases c10 : 0 ≤ (ji9)
                · rw [if_pos c10] at H
                  have c10b0 : decide (0 ≤ (ji9)) = true := decide_eq_true c10
                  clear c10
                  have H' := Aside0.mk H
                  clear H
                  have p281 : 0 ≤ ((ji9) : Int) := of_decide_eq_true (by first | (with_reducible assumption) | assumption)
                  have q281 : (ji9) < (t278.length : Int) := of_decide_eq_true (by first | (with_reducible assumption) | assumption)
                  obtain ⟨ad281, e281, hx281_0⟩ := Kd.at_int (Kd.R_reads' HO_0.out).2.2 (ji9) p281 q281
                  cases e281
                  replace p281 := eq_true p281
                  replace q281 := eq_true q281
                  go_wp2
                  go_roundg k2
                  case measure => have := HK1.out; have := HK2.out; omega
                  case rel => exact ⟨(wrap64 ((wrap64 (256 * x5_2)) + (rd t278 (ji9)))), (wrap64 (x6_2 - 1)), (by first | rfl | (simp; done) | (simp only [← hji9] <;> (first | rfl | simp)) | (simp [*]; done)), (by first | rfl | (simp; done) | (simp [*]; done)), H', ⟨by have := HK1.out; have := HK2.out; omega⟩, ⟨by (with_reducible repeat (first | apply Kd.R_alloc | apply Kd.R_drewN | apply Kd.R_drew)); exact HO_0.out⟩, ⟨by (with_reducible repeat (first | apply Kd.R_alloc | apply Kd.R_drewN | apply Kd.R_drew)); exact HO_3.out⟩, ⟨by repeat (first | (with_reducible first | exact HK.out | apply Kept.alloc | apply Kept.drewN | apply Kept.drew) | exact HK.out)⟩, ⟨by repeat (first | (with_reducible first | exact HB.out | apply below_alloc | apply pw_below_drewN | apply below_drew1) | exact HB.out)⟩⟩
                · rw [if_neg c10] at H
                  exact absurd H (by simp)
              · rw [if_neg c8] at H
                have c8b0 : decide ((wrap64 (x4_1 + x6_2)) < (t278.length : Int)) = false := decide_eq_false c8
                clear c8
                have H' := Aside0.mk H
                clear H
                go_wp2
                go_roundg k2
                case measure => have := HK1.out; have := HK2.out; omega
                case rel => exact ⟨(wrap64 (256 * x5_2)), (wrap64 (x6_2 - 1)), (by first | rfl | (simp; done) | (simp [*]; done)), (by first | rfl | (simp; done) | (simp [*]; done)), H', ⟨by have := HK1.out; have := HK2.out; omega⟩, ⟨by (with_reducible repeat (first | apply Kd.R_alloc | apply Kd.R_drewN | apply Kd.R_drew)); exact HO_0.out⟩, ⟨by (with_reducible repeat (first | apply Kd.R_alloc | apply Kd.R_drewN | apply Kd.R_drew)); exact HO_3.out⟩, ⟨by repeat (first | (with_reducible first | exact HK.out | apply Kept.alloc | apply Kept.drewN | apply Kept.drew) | exact HK.out)⟩, ⟨by repeat (first | (with_reducible first | exact HB.out | apply below_alloc | apply pw_below_drewN | apply below_drew1) | exact HB.out)⟩⟩
            · rw [if_neg c7] at H
              have c7b0 : decide (0 ≤ x6_2) = false := decide_eq_false c7
              clear c7
              by_cases c11 : x3_1.length < 35184372088832
              · rw [if_pos c11] at H
                have LMc11 := Aside0.mk c11
                clear c11
                obtain ⟨y282, hy282⟩ : ∃ y_ : List Int, y_ = (x3_1 ++ [(x5_2) % 4294967296]) := ⟨_, rfl⟩
                replace H : (postmarkref02_Limbs.l0 k2 t278 y282 (wrap64 (x4_1 + 4))) = some r := by first | (rw [hy282]; with_reducible exact H) | (have H2_ := (Option.bind_some _ _).symm.trans H; rw [hy282]; with_reducible exact H2_) | (have H2_ := (Option.bind_some _ _).symm.trans H; with_reducible exact H2_) | with_reducible exact H | (rw [hy282]; exact H) | exact H
                have Ny282 := Aside0.mk hy282
                clear hy282
                have H' := Aside0.mk H
                clear H
                go_wp2_with (first | ((with_reducible refine gate_builtin (b := .append) (xs := #[.tmp 35, .tmp 38]) rfl ?_); at_builtin; refine Kd.R_append (Kd.int .u32) (w0 := w0) w0.heap.size rfl (.tmp 35) (.tmp 38) 46 75 (.int .u32 0) 4 rfl Try.underlying46 info75 rfl (by decide) (by omega) u3 x3_1 ((x5_2) % 4294967296) [.int .u32 ((x5_2) % 4294967296)] (fun k_ => (P0_ k_ ∨ w.heap.size ≤ k_)) (fun _ => False) rfl rfl ?aP (fun _ hk => hk.elim) ?aF ?aO ?aB ?aS ?aL ?_; (case aP => exact rfl); (case aB => exact (by repeat (first | (with_reducible first | exact HB.out | apply below_alloc | apply pw_below_drewN | apply below_drew1) | exact HB.out))); (case aF => exact (fun k_ hk => (.inr (Nat.le_trans (by first | exact HK.out.1 | exact (show Kept w _ (fun k_ => P0_ k_) from by repeat (first | (with_reducible first | exact HK.out | apply Kept.alloc | apply Kept.drewN | apply Kept.drew) | exact HK.out)).1) hk)))); (case aO => exact (by (with_reducible repeat (first | apply Kd.R_alloc | apply Kd.R_drewN | apply Kd.R_drew)); exact HO_3.out)); (case aS => exact (below_size (by repeat (first | (with_reducible first | exact HB.out | apply below_alloc | apply pw_below_drewN | apply below_drew1) | exact HB.out)))); (case aL => have := LMc11.out; omega); intro v283 w12 ho hb hg hat; rw [← Ny282.out] at ho; have n0_ := Aside0.mk (Kd.R_over' (by (with_reducible repeat (first | apply Kd.R_alloc | apply Kd.R_drewN | apply Kd.R_drew)); exact HO_0.out) (Kd.R_typed (by (with_reducible repeat (first | apply Kd.R_alloc | apply Kd.R_drewN | apply Kd.R_drew)); exact HO_3.out)) (by decide) hg); have n1_ := Aside0.mk (hb); have n2_ := Aside0.mk (Kept.of_grown (S := (fun k_ => P0_ k_)) hg (by repeat (first | (with_reducible first | exact HK.out | apply Kept.alloc | apply Kept.drewN | apply Kept.drew) | exact HK.out)) (fun k_ e_ => (HO_3.out.1 k_ e_))); have n3_ := Aside0.mk (ho); clear HO_0; clear HB; clear HK; clear HO_3; have HO_0 := n0_; have HB := n1_; have HK := n2_; have HO284 := n3_; clear n0_ n1_ n2_ n3_; clear ho hb hg hat))
                go_roundg k2
                case measure => have := HK1.out; have := HK2.out; omega
                case rel => exact ⟨(y282), (wrap64 (x4_1 + 4)), (by first | rfl | (simp; done) | (simp [*]; done)), H', ⟨by have := HK1.out; have := HK2.out; omega⟩, ⟨by (with_reducible repeat (first | apply Kd.R_alloc | apply Kd.R_drewN | apply Kd.R_drew)); exact HO_0.out⟩, ⟨by (with_reducible repeat (first | apply Kd.R_alloc | apply Kd.R_drewN | apply Kd.R_drew)); exact HO284.out⟩, ⟨by repeat (first | (with_reducible first | exact HK.out | apply Kept.alloc | apply Kept.drewN | apply Kept.drew) | exact HK.out)⟩, ⟨by repeat (first | (with_reducible first | exact HB.out | apply below_alloc | apply pw_below_drewN | apply below_drew1) | exact HB.out)⟩⟩
              · rw [if_neg c11] at H
                exact absurd H (by simp)
      · rw [if_neg c5] at H
        have c5b0 : decide (x4_1 < (t278.length : Int)) = false := decide_eq_false c5
        clear c5
        obtain rfl := Option.some.inj H
        obtain ⟨Ao13, co13, eo13⟩ := Kd.R_slice HO_0.out
        subst eo13
        go_wp2
        go_ret
        exact ⟨_, by first | rfl | (simp [errW_none, errW_some] <;> rfl) | (simp [*, errW_none, errW_some] <;> rfl), by (with_reducible repeat (first | apply Kd.R_alloc | apply Kd.R_drewN | apply Kd.R_drew)); exact HO_3.out, by repeat (first | (with_reducible first | exact HB.out | apply below_alloc | apply pw_below_drewN | apply below_drew1) | exact HB.out), by repeat (first | (with_reducible first | exact HK.out | apply Kept.alloc | apply Kept.drewN | apply Kept.drew) | exact HK.out)⟩
end Go.Proofs.Ytlifengbicpppaa.G
end
section
namespace Go.Proofs.Ytlifengbicpppaa.G
open Go.RowKit Go.Proofs.YtlifengbicpppaaW.PrintWords Go.Proofs.YtlifengbicpppaaW.PrintLast Go.Proofs.YtlifengbicpppaaW.PrintMore
attribute [local go_sem] max2_int min2_int max_two min_two max_three min_three max_four min_four   -- for this text's walks alone
set_option linter.unusedVariables false
set_option linter.unusedSimpArgs false
def postmarkref02_May.f (k : Nat) (l0 : List Int) (l1 : List Int) : Option (Bool) := (postmarkref02_Digits.f k l0).bind fun t272 => (if (t272.length : Int) ≤ 1024 then ((postmarkref02_Digits.f k l1).bind fun t275 => (some (decide ((t275.length : Int) ≤ 1024)))) else (some false))
set_option maxHeartbeats 8000000 in
set_option maxRecDepth 100000 in
theorem postmarkref02_May.calls (k : Nat) (A0 : Option Addr) (c0 : Nat) (l0 : List Int) (A1 : Option Addr) (c1 : Nat) (l1 : List Int) (r : Bool) (w : World) (hr0 : Kd.C (Kd.int .u32) w A0 l0.length l0) (hc0 : l0.length ≤ c0) (hr1 : Kd.C (Kd.int .u32) w A1 l1.length l1) (hc1 : l1.length ≤ c1) (h : postmarkref02_May.f k l0 l1 = some r) :
    Calls Try.prog 30 #[.slice A0 l0.length c0, .slice A1 l1.length c1] w fun e w' => e = .returned (.bool r) ∧ Below w.heap.size w w' := by
  have HR0 := Aside0.mk hr0
  have HC0 := Aside0.mk hc0
  clear hr0 hc0
  have HR1 := Aside0.mk hr1
  have HC1 := Aside0.mk hc1
  clear hr1 hc1
  have HB := Aside0.mk (Below.refl w.heap.size w)
  have H : ((postmarkref02_Digits.f k l0).bind fun t272 => (if (t272.length : Int) ≤ 1024 then ((postmarkref02_Digits.f k l1).bind fun t275 => (some (decide ((t275.length : Int) ≤ 1024)))) else (some false))) = some r := h
  clear h
  replace H := Option.bind_eq_some_iff.mp H
  obtain ⟨t272, A30, H⟩ := H
  replace H : (if (t272.length : Int) ≤ 1024 then ((postmarkref02_Digits.f k l1).bind fun t275 => (some (decide ((t275.length : Int) ≤ 1024)))) else (some false)) = some r := H
  have A3 := Aside0.mk A30
  clear A30
  by_cases c4 : (t272.length : Int) ≤ 1024
  · rw [if_pos c4] at H
    have c4b0 : decide ((t272.length : Int) ≤ 1024) = true := decide_eq_true c4
    have c4b1 : decide (t272.length ≤ 1024) = true := decide_eq_true (by omega)
    clear c4
    replace H := Option.bind_eq_some_iff.mp H
    obtain ⟨t275, A50, H⟩ := H
    replace H : (some (decide ((t275.length : Int) ≤ 1024))) = some r := H
    have A5 := Aside0.mk A50
    clear A50
    obtain rfl := Option.some.inj H
    go_enter Try.func30, Try.ntmps30
    go_wp2_with (first | ((with_reducible refine gate_callee (f := 76) rfl ?_); refine goesL_ (some 6) rfl rfl Try.func76 (by kernel_rfl) rfl #[.slice A0 l0.length c0] rfl (by (try simp only [List.map_toArray, List.map_cons, List.map_nil]); first | done | rfl | (simp only [List.length_drop, List.length_take]; rfl)) ?_; (with_reducible refine (postmarkref02_Digits.calls k _ _ l0 t272 _ ?side1 ?side2 A3.out).mono ?_); (case side1 => repeat (first | exact HR0.out | (with_reducible refine Kd.C_alloc ?_ _) | (with_reducible refine Kd.C_drewN ?_ _) | (with_reducible refine Kd.C_drew ?_))); (case side2 => exact HC0.out); rintro e w6 ⟨v273, rfl, ho0, hb⟩; refine ⟨_, rfl, ?_⟩; have n0_ := Aside0.mk (Kd.R_lower ho0 (below_size (by repeat (first | (with_reducible first | exact HB.out | apply below_alloc | apply pw_below_drewN | apply below_drew1) | exact HB.out)))); have n1_ := Aside0.mk (below_step (by repeat (first | (with_reducible first | exact HB.out | apply below_alloc | apply pw_below_drewN | apply below_drew1) | exact HB.out)) hb); clear HB; have HO274 := n0_; have HB := n1_; clear n0_ n1_; (try clear hb); (try clear hb2); (try clear hk); (try clear hi); (try clear ho0); obtain ⟨Ao7, co7, eo7⟩ := Kd.R_slice HO274.out; subst eo7) | (go_at_call 76; (with_reducible refine (postmarkref02_Digits.calls k _ _ l1 t275 _ ?side1 ?side2 A5.out).mono ?_); (case side1 => repeat (first | exact (Kd.C_below HR1.out HB.out) | (with_reducible refine Kd.C_alloc ?_ _) | (with_reducible refine Kd.C_drewN ?_ _) | (with_reducible refine Kd.C_drew ?_))); (case side2 => exact HC1.out); rintro e w8 ⟨v276, rfl, ho0, hb⟩; have n0_ := Aside0.mk (Kd.R_elder' (by (with_reducible repeat (first | apply Kd.R_alloc | apply Kd.R_drewN | apply Kd.R_drew)); exact HO274.out) (Kd.R_base ho0) hb); have n1_ := Aside0.mk (Kd.R_lower (Kd.R_new' ho0 (Kd.R_lt (by (with_reducible repeat (first | apply Kd.R_alloc | apply Kd.R_drewN | apply Kd.R_drew)); exact HO274.out))) (below_size (by repeat (first | (with_reducible first | exact HB.out | apply below_alloc | apply pw_below_drewN | apply below_drew1) | exact HB.out)))); have n2_ := Aside0.mk (below_step (by repeat (first | (with_reducible first | exact HB.out | apply below_alloc | apply pw_below_drewN | apply below_drew1) | exact HB.out)) hb); clear HO274; clear HB; have HO274 := n0_; have HO277 := n1_; have HB := n2_; clear n0_ n1_ n2_; (try clear hb); (try clear hb2); (try clear hk); (try clear hi); (try clear ho0); obtain ⟨Ao9, co9, eo9⟩ := Kd.R_slice HO277.out; subst eo9))
    go_ret
    exact ⟨by first | rfl | (simp [errW_none, errW_some] <;> rfl) | (simp [*, errW_none, errW_some] <;> rfl), by repeat (first | (with_reducible first | exact HB.out | apply below_alloc | apply pw_below_drewN | apply below_drew1) | exact HB.out)⟩
  · rw [if_neg c4] at H
    have c4b0 : decide ((t272.length : Int) ≤ 1024) = false := decide_eq_false c4
    have c4b1 : decide (t272.length ≤ 1024) = false := decide_eq_false (by omega)
    clear c4
    obtain rfl := Option.some.inj H
    go_enter Try.func30, Try.ntmps30
    go_wp2_with (first | ((with_reducible refine gate_callee (f := 76) rfl ?_); refine goesL_ (some 6) rfl rfl Try.func76 (by kernel_rfl) rfl #[.slice A0 l0.length c0] rfl (by (try simp only [List.map_toArray, List.map_cons, List.map_nil]); first | done | rfl | (simp only [List.length_drop, List.length_take]; rfl)) ?_; (with_reducible refine (postmarkref02_Digits.calls k _ _ l0 t272 _ ?side1 ?side2 A3.out).mono ?_); (case side1 => repeat (first | exact HR0.out | (with_reducible refine Kd.C_alloc ?_ _) | (with_reducible refine Kd.C_drewN ?_ _) | (with_reducible refine Kd.C_drew ?_))); (case side2 => exact HC0.out); rintro e w10 ⟨v273, rfl, ho0, hb⟩; refine ⟨_, rfl, ?_⟩; have n0_ := Aside0.mk (Kd.R_lower ho0 (below_size (by repeat (first | (with_reducible first | exact HB.out | apply below_alloc | apply pw_below_drewN | apply below_drew1) | exact HB.out)))); have n1_ := Aside0.mk (below_step (by repeat (first | (with_reducible first | exact HB.out | apply below_alloc | apply pw_below_drewN | apply below_drew1) | exact HB.out)) hb); clear HB; have HO274 := n0_; have HB := n1_; clear n0_ n1_; (try clear hb); (try clear hb2); (try clear hk); (try clear hi); (try clear ho0); obtain ⟨Ao11, co11, eo11⟩ := Kd.R_slice HO274.out; subst eo11))
    go_ret
    exact ⟨by first | rfl | (simp [errW_none, errW_some] <;> rfl) | (simp [*, errW_none, errW_some] <;> rfl), by repeat (first | (with_reducible first | exact HB.out | apply below_alloc | apply pw_below_drewN | apply below_drew1) | exact HB.out)⟩
end Go.Proofs.Ytlifengbicpppaa.G
end
section
namespace Go.Proofs.Ytlifengbicpppaa.G
open Go.RowKit Go.Proofs.YtlifengbicpppaaW.PrintWords Go.Proofs.YtlifengbicpppaaW.PrintLast Go.Proofs.YtlifengbicpppaaW.PrintMore
attribute [local go_sem] max2_int min2_int max_two min_two max_three min_three max_four min_four   -- for this text's walks alone
set_option linter.unusedVariables false
set_option linter.unusedSimpArgs false
def postmarkref06_twice.l0 : Nat → List Int → List Int → Int → Int → Option (List Int)
  | 0, _, _, _, _ => none
  | k + 1, x0, x3, x4, x5 => if x5 < (x0.length : Int) then (if 0 ≤ x5 then (if x3.length < 17592186044416 then (postmarkref06_twice.l0 k x0 (x3 ++ [Int.tmod (wrap64 (x4 + (wrap64 (2 * (rd x0 x5))))) 256]) (wrap64 (Int.tdiv (wrap64 (x4 + (wrap64 (2 * (rd x0 x5))))) 256)) (wrap64 (x5 + 1))) else (none)) else (none)) else (if x3.length < 17592186044416 then ((postmarkref02_Short.f k (x3 ++ [x4])).bind fun t172 => (some t172)) else (none))
def postmarkref06_twice.f (k : Nat) (l0 : List Int) : Option (List Int) := postmarkref06_twice.l0 k l0 ([] : List Int) 0 0
set_option maxHeartbeats 8000000 in
set_option maxRecDepth 100000 in
theorem postmarkref06_twice.calls (k : Nat) (A0 : Option Addr) (c0 : Nat) (l0 : List Int) (r : List Int) (w : World) (hr0 : Kd.C (Kd.int .i64) w A0 l0.length l0) (hc0 : l0.length ≤ c0) (h : postmarkref06_twice.f k l0 = some r) :
    Calls Try.prog 121 #[.slice A0 l0.length c0] w fun e w' => ∃ v0_ : Value, e = .returned (v0_) ∧ Kd.R (Kd.int .i64) 3 w' w.heap.size (fun _ => True) v0_ r ∧ Below w.heap.size w w' := by
  have HR0 := Aside0.mk hr0
  have HC0 := Aside0.mk hc0
  clear hr0 hc0
  have HB := Aside0.mk (Below.refl w.heap.size w)
  have H : (postmarkref06_twice.l0 k l0 ([] : List Int) 0 0) = some r := h
  clear h
  have H' := Aside0.mk H
  clear H
  go_enter Try.func121, Try.ntmps121
  go_wp2
  go_loopg [3, 4, 5] k (fun kq v3 v4 v5 w' => ∃ (x3_1 : List Int) (x4_1 : Int) (x5_1 : Int), v4 = .int .i64 x4_1 ∧ v5 = .int .i64 x5_1 ∧ Aside0 (postmarkref06_twice.l0 kq l0 x3_1 x4_1 x5_1 = some r) ∧ Aside0 (kq ≤ k) ∧ Aside0 (Kd.R (Kd.int .i64) 3 w' w.heap.size (fun _ => True) v3 x3_1) ∧ Aside0 (Below w.heap.size w w'))
  case atStart => exact ⟨(([] : List Int)), (0), (0), (by first | rfl | (simp; done) | (simp [*]; done)), (by first | rfl | (simp; done) | (simp [*]; done)), H', ⟨Nat.le_refl _⟩, ⟨by first | exact Kd.R_nil _ _ _ _ _ | exact Kd.N_nil _ _ _ _ _ | exact Kd.V_nil _ _ _ _ _ | exact Kd.Q_nil _ _ _ _ _ | exact Kd.S_nil _ _ _ _ _⟩, ⟨by repeat (first | (with_reducible first | exact HB.out | apply below_alloc | apply pw_below_drewN | apply below_drew1) | exact HB.out)⟩⟩
  case round =>
    clear H'
    try clear c1
    obtain ⟨x3_1, x4_1, x5_1, rfl, rfl, HA, HK1, HO_3, HB⟩ := hrel
    cases gk with
    | zero => exact absurd HA.out (by simp [postmarkref06_twice.l0])
    | succ k1 =>
      have H := HA.out
      clear HA
      simp only [postmarkref06_twice.l0] at H
      by_cases c2 : x5_1 < (l0.length : Int)
      · rw [if_pos c2] at H
        have c2b0 : decide (x5_1 < (l0.length : Int)) = true := decide_eq_true c2
        clear c2
        by_cases c3 : 0 ≤ x5_1
        · rw [if_pos c3] at H
          have c3b0 : decide (0 ≤ x5_1) = true := decide_eq_true c3
          clear c3
          by_cases c4 : x3_1.length < 17592186044416
          · rw [if_pos c4] at H
            have LMc4 := Aside0.mk c4
            clear c4
            obtain ⟨y166, hy166⟩ : ∃ y_ : List Int, y_ = (x3_1 ++ [Int.tmod (wrap64 (x4_1 + (wrap64 (2 * (rd l0 x5_1))))) 256]) := ⟨_, rfl⟩
            replace H : (postmarkref06_twice.l0 k1 l0 y166 (wrap64 (Int.tdiv (wrap64 (x4_1 + (wrap64 (2 * (rd l0 x5_1))))) 256)) (wrap64 (x5_1 + 1))) = some r := by first | (rw [hy166]; with_reducible exact H) | (have H2_ := (Option.bind_some _ _).symm.trans H; rw [hy166]; with_reducible exact H2_) | (have H2_ := (Option.bind_some _ _).symm.trans H; with_reducible exact H2_) | with_reducible exact H | (rw [hy166]; exact H) | exact H
            have Ny166 := Aside0.mk hy166
            clear hy166
            have H' := Aside0.mk H
            clear H
            have p165 : 0 ≤ (x5_1 : Int) := of_decide_eq_true (by first | (with_reducible assumption) | assumption)
            have q165 : x5_1 < (l0.length : Int) := of_decide_eq_true (by first | (with_reducible assumption) | assumption)
            obtain ⟨ad165, e165, hx165_0⟩ := Kd.at_int HR0.out x5_1 p165 q165
            cases e165
            replace hx165_0 := (HB.out.cell (World.block_lt_of_cell? w _ hx165_0)).trans hx165_0
            replace p165 := eq_true p165
            replace q165 := eq_true q165
            go_wp2_with (first | ((with_reducible refine gate_builtin (b := .append) (xs := #[.tmp 19, .tmp 22]) rfl ?_); at_builtin; refine Kd.R_append (Kd.int .i64) (w0 := w) w.heap.size rfl (.tmp 19) (.tmp 22) 100 3 (.int .i64 0) 8 rfl Try.underlying100 info3 rfl (by decide) (by omega) u3 x3_1 (Int.tmod (wrap64 (x4_1 + (wrap64 (2 * (rd l0 x5_1))))) 256) [.int .i64 (Int.tmod (wrap64 (x4_1 + (wrap64 (2 * (rd l0 x5_1))))) 256)] (fun _ => True) (fun _ => False) rfl rfl ?aP (fun _ hk => hk.elim) ?aF ?aO ?aB ?aS ?aL ?_; (case aP => exact rfl); (case aB => exact (by repeat (first | (with_reducible first | exact HB.out | apply below_alloc | apply pw_below_drewN | apply below_drew1) | exact HB.out))); (case aF => exact (fun _ _ => trivial)); (case aO => exact (by (with_reducible repeat (first | apply Kd.R_alloc | apply Kd.R_drewN | apply Kd.R_drew)); exact HO_3.out)); (case aS => exact (below_size (by repeat (first | (with_reducible first | exact HB.out | apply below_alloc | apply pw_below_drewN | apply below_drew1) | exact HB.out)))); (case aL => have := LMc4.out; omega); intro v167 w5 ho hb hg hat; rw [← Ny166.out] at ho; have n0_ := Aside0.mk (hb); have n1_ := Aside0.mk (ho); clear HB; clear HO_3; have HB := n0_; have HO168 := n1_; clear n0_ n1_; clear ho hb hg hat))
            go_roundg k1
            case measure => have := HK1.out; omega
            case rel => exact ⟨(y166), (wrap64 (Int.tdiv (wrap64 (x4_1 + (wrap64 (2 * (rd l0 x5_1))))) 256)), (wrap64 (x5_1 + 1)), (by first | rfl | (simp; done) | (simp [*]; done)), (by first | rfl | (simp; done) | (simp [*]; done)), H', ⟨by have := HK1.out; omega⟩, ⟨by (with_reducible repeat (first | apply Kd.R_alloc | apply Kd.R_drewN | apply Kd.R_drew)); exact HO168.out⟩, ⟨by repeat (first | (with_reducible first | exact HB.out | apply below_alloc | apply pw_below_drewN | apply below_drew1) | exact HB.out)⟩⟩
          · rw [if_neg c4] at H
            exact absurd H (by simp)
        · rw [if_neg c3] at H
          exact absurd H (by simp)
      · rw [if_neg c2] at H
        have c2b0 : decide (x5_1 < (l0.length : Int)) = false := decide_eq_false c2
        clear c2
        by_cases c6 : x3_1.length < 17592186044416
        · rw [if_pos c6] at H
          have LMc6 := Aside0.mk c6
          clear c6
          obtain ⟨y169, hy169⟩ : ∃ y_ : List Int, y_ = (x3_1 ++ [x4_1]) := ⟨_, rfl⟩
          replace H : ((postmarkref02_Short.f k1 y169).bind fun t172 => (some t172)) = some r := by first | (rw [hy169]; with_reducible exact H) | (have H2_ := (Option.bind_some _ _).symm.trans H; rw [hy169]; with_reducible exact H2_) | (have H2_ := (Option.bind_some _ _).symm.trans H; with_reducible exact H2_) | with_reducible exact H | (rw [hy169]; exact H) | exact H
          have Ny169 := Aside0.mk hy169
          clear hy169
          replace H := Option.bind_eq_some_iff.mp H
          obtain ⟨t172, A70, H⟩ := H
          replace H : (some t172) = some r := H
          have A7 := Aside0.mk A70
          clear A70
          obtain rfl := Option.some.inj H
          go_wp2_with (first | ((with_reducible refine gate_builtin (b := .append) (xs := #[.tmp 26, .tmp 28]) rfl ?_); at_builtin; refine Kd.R_append (Kd.int .i64) (w0 := w) w.heap.size rfl (.tmp 26) (.tmp 28) 100 3 (.int .i64 0) 8 rfl Try.underlying100 info3 rfl (by decide) (by omega) u3 x3_1 x4_1 [.int .i64 x4_1] (fun _ => True) (fun _ => False) rfl rfl ?aP (fun _ hk => hk.elim) ?aF ?aO ?aB ?aS ?aL ?_; (case aP => exact rfl); (case aB => exact (by repeat (first | (with_reducible first | exact HB.out | apply below_alloc | apply pw_below_drewN | apply below_drew1) | exact HB.out))); (case aF => exact (fun _ _ => trivial)); (case aO => exact (by (with_reducible repeat (first | apply Kd.R_alloc | apply Kd.R_drewN | apply Kd.R_drew)); exact HO_3.out)); (case aS => exact (below_size (by repeat (first | (with_reducible first | exact HB.out | apply below_alloc | apply pw_below_drewN | apply below_drew1) | exact HB.out)))); (case aL => have := LMc6.out; omega); intro v170 w8 ho hb hg hat; rw [← Ny169.out] at ho; have n0_ := Aside0.mk (hb); have n1_ := Aside0.mk (ho); clear HB; clear HO_3; have HB := n0_; have HO171 := n1_; clear n0_ n1_; clear ho hb hg hat; obtain ⟨Ao9, co9, eo9⟩ := Kd.R_slice HO171.out; subst eo9) | ((with_reducible refine gate_callee (f := 115) rfl ?_); refine goesL_ (some 30) rfl rfl Try.func115 (by kernel_rfl) rfl #[.slice Ao9 y169.length co9] rfl (by (try simp only [List.map_toArray, List.map_cons, List.map_nil]); first | done | rfl | (simp only [List.length_drop, List.length_take]; rfl)) ?_; (with_reducible refine (postmarkref02_Short.calls k1 (fun k_ => some k_ = (.slice Ao9 y169.length co9 : Value).ownBlock) (.slice Ao9 y169.length co9) y169 t172 w _ ?side1 ?side2 A7.out).mono ?_); (case side1 => repeat (first | (with_reducible first | exact HB.out | apply below_alloc | apply pw_below_drewN | apply below_drew1) | exact HB.out)); (case side2 => exact Kd.R_tight rfl HO171.out); rintro e w10 ⟨v173, rfl, ho0, hb, hkp⟩; refine ⟨_, rfl, ?_⟩; have n0_ := Aside0.mk (Kd.R_mono (ok' := fun k_ => True) ho0 (fun k_ hk_ => trivial)); have n1_ := Aside0.mk (hb); clear HB; clear HO171; have HO174 := n0_; have HB := n1_; clear n0_ n1_; (try clear hb); (try clear hkp); (try clear ho0)))
          go_ret
          exact ⟨_, by first | rfl | (simp [errW_none, errW_some] <;> rfl) | (simp [*, errW_none, errW_some] <;> rfl), by (with_reducible repeat (first | apply Kd.R_alloc | apply Kd.R_drewN | apply Kd.R_drew)); exact HO174.out, by repeat (first | (with_reducible first | exact HB.out | apply below_alloc | apply pw_below_drewN | apply below_drew1) | exact HB.out)⟩
        · rw [if_neg c6] at H
          exact absurd H (by simp)
end Go.Proofs.Ytlifengbicpppaa.G
end
section
namespace Go.Proofs.Ytlifengbicpppaa.G
open Go.RowKit Go.Proofs.YtlifengbicpppaaW.PrintWords Go.Proofs.YtlifengbicpppaaW.PrintLast Go.Proofs.YtlifengbicpppaaW.PrintMore
attribute [local go_sem] max2_int min2_int max_two min_two max_three min_three max_four min_four   -- for this text's walks alone
set_option linter.unusedVariables false
set_option linter.unusedSimpArgs false
def postmarkref06_minus.l0 : Nat → List Int → List Int → List Int → Int → Int → Option (List Int)
  | 0, _, _, _, _, _ => none
  | k + 1, x0, x1, x5, x6, x7 => if x7 < (x0.length : Int) then (if 0 ≤ x7 then (if x7 < (x1.length : Int) then (if (wrap64 ((wrap64 ((rd x0 x7) - x6)) - (rd x1 x7))) < 0 then (if x5.length < 17592186044416 then (postmarkref06_minus.l0 k x0 x1 (x5 ++ [wrap64 ((wrap64 ((wrap64 ((rd x0 x7) - x6)) - (rd x1 x7))) + 256)]) 1 (wrap64 (x7 + 1))) else (none)) else (if x5.length < 17592186044416 then (postmarkref06_minus.l0 k x0 x1 (x5 ++ [wrap64 ((wrap64 ((rd x0 x7) - x6)) - (rd x1 x7))]) 0 (wrap64 (x7 + 1))) else (none))) else (if (wrap64 ((rd x0 x7) - x6)) < 0 then (if x5.length < 17592186044416 then (postmarkref06_minus.l0 k x0 x1 (x5 ++ [wrap64 ((wrap64 ((rd x0 x7) - x6)) + 256)]) 1 (wrap64 (x7 + 1))) else (none)) else (if x5.length < 17592186044416 then (postmarkref06_minus.l0 k x0 x1 (x5 ++ [wrap64 ((rd x0 x7) - x6)]) 0 (wrap64 (x7 + 1))) else (none)))) else (none)) else ((postmarkref02_Short.f k x5).bind fun t148 => (some t148))
def postmarkref06_minus.f (k : Nat) (l0 : List Int) (l1 : List Int) : Option (List Int) := postmarkref06_minus.l0 k l0 l1 ([] : List Int) 0 0
set_option maxHeartbeats 8000000 in
set_option maxRecDepth 100000 in
theorem postmarkref06_minus.calls (k : Nat) (A0 : Option Addr) (c0 : Nat) (l0 : List Int) (A1 : Option Addr) (c1 : Nat) (l1 : List Int) (r : List Int) (w : World) (hr0 : Kd.C (Kd.int .i64) w A0 l0.length l0) (hc0 : l0.length ≤ c0) (hr1 : Kd.C (Kd.int .i64) w A1 l1.length l1) (hc1 : l1.length ≤ c1) (h : postmarkref06_minus.f k l0 l1 = some r) :
    Calls Try.prog 123 #[.slice A0 l0.length c0, .slice A1 l1.length c1] w fun e w' => ∃ v0_ : Value, e = .returned (v0_) ∧ Kd.R (Kd.int .i64) 3 w' w.heap.size (fun _ => True) v0_ r ∧ Below w.heap.size w w' := by
  have HR0 := Aside0.mk hr0
  have HC0 := Aside0.mk hc0
  clear hr0 hc0
  have HR1 := Aside0.mk hr1
  have HC1 := Aside0.mk hc1
  clear hr1 hc1
  have HB := Aside0.mk (Below.refl w.heap.size w)
  have H : (postmarkref06_minus.l0 k l0 l1 ([] : List Int) 0 0) = some r := h
  clear h
  have H' := Aside0.mk H
  clear H
  go_enter Try.func123, Try.ntmps123
  go_wp2
  go_loopg [5, 6, 7] k (fun kq v5 v6 v7 w' => ∃ (x5_1 : List Int) (x6_1 : Int) (x7_1 : Int), v6 = .int .i64 x6_1 ∧ v7 = .int .i64 x7_1 ∧ Aside0 (postmarkref06_minus.l0 kq l0 l1 x5_1 x6_1 x7_1 = some r) ∧ Aside0 (kq ≤ k) ∧ Aside0 (Kd.R (Kd.int .i64) 3 w' w.heap.size (fun _ => True) v5 x5_1) ∧ Aside0 (Below w.heap.size w w'))
  case atStart => exact ⟨(([] : List Int)), (0), (0), (by first | rfl | (simp; done) | (simp [*]; done)), (by first | rfl | (simp; done) | (simp [*]; done)), H', ⟨Nat.le_refl _⟩, ⟨by first | exact Kd.R_nil _ _ _ _ _ | exact Kd.N_nil _ _ _ _ _ | exact Kd.V_nil _ _ _ _ _ | exact Kd.Q_nil _ _ _ _ _ | exact Kd.S_nil _ _ _ _ _⟩, ⟨by repeat (first | (with_reducible first | exact HB.out | apply below_alloc | apply pw_below_drewN | apply below_drew1) | exact HB.out)⟩⟩
  case round =>
    clear H'
    try clear c1
    try clear p2
    obtain ⟨x5_1, x6_1, x7_1, rfl, rfl, HA, HK1, HO_5, HB⟩ := hrel
    cases gk with
    | zero => exact absurd HA.out (by simp [postmarkref06_minus.l0])
    | succ k1 =>
      have H := HA.out
      clear HA
      simp only [postmarkref06_minus.l0] at H
      by_cases c3 : x7_1 < (l0.length : Int)
      · rw [if_pos c3] at H
        have c3b0 : decide (x7_1 < (l0.length : Int)) = true := decide_eq_true c3
        clear c3
        by_cases c4 : 0 ≤ x7_1
        · rw [if_pos c4] at H
          have c4b0 : decide (0 ≤ x7_1) = true := decide_eq_true c4
          clear c4
          by_cases c5 : x7_1 < (l1.length : Int)
          · rw [if_pos c5] at H
            have c5b0 : decide (x7_1 < (l1.length : Int)) = true := decide_eq_true c5
            clear c5
            by_cases c6 : (wrap64 ((wrap64 ((rd l0 x7_1) - x6_1)) - (rd l1 x7_1))) < 0
            · rw [if_pos c6] at H
              have c6b0 : decide ((wrap64 ((wrap64 ((rd l0 x7_1) - x6_1)) - (rd l1 x7_1))) < 0) = true := decide_eq_true c6
              clear c6
              by_cases c7 : x5_1.length < 17592186044416
              · rw [if_pos c7] at H
                have LMc7 := Aside0.mk c7
                clear c7
                obtain ⟨y153, hy153⟩ : ∃ y_ : List Int, y_ = (x5_1 ++ [wrap64 ((wrap64 ((wrap64 ((rd l0 x7_1) - x6_1)) - (rd l1 x7_1))) + 256)]) := ⟨_, rfl⟩
                replace H : (postmarkref06_minus.l0 k1 l0 l1 y153 1 (wrap64 (x7_1 + 1))) = some r := by first | (rw [hy153]; with_reducible exact H) | (have H2_ := (Option.bind_some _ _).symm.trans H; rw [hy153]; with_reducible exact H2_) | (have H2_ := (Option.bind_some _ _).symm.trans H; with_reducible exact H2_) | with_reducible exact H | (rw [hy153]; exact H) | exact H
                have Ny153 := Aside0.mk hy153
                clear hy153
                have H' := Aside0.mk H
                clear H
                have p151 : 0 ≤ (x7_1 : Int) := of_decide_eq_true (by first | (with_reducible assumption) | assumption)
                have q151 : x7_1 < (l0.length : Int) := of_decide_eq_true (by first | (with_reducible assumption) | assumption)
                obtain ⟨ad151, e151, hx151_0⟩ := Kd.at_int HR0.out x7_1 p151 q151
                cases e151
                replace hx151_0 := (HB.out.cell (World.block_lt_of_cell? w _ hx151_0)).trans hx151_0
                replace p151 := eq_true p151
                replace q151 := eq_true q151
                have p152 : 0 ≤ (x7_1 : Int) := of_decide_eq_true (by first | (with_reducible assumption) | assumption)
                have q152 : x7_1 < (l1.length : Int) := of_decide_eq_true (by first | (with_reducible assumption) | assumption)
                obtain ⟨ad152, e152, hx152_0⟩ := Kd.at_int HR1.out x7_1 p152 q152
                cases e152
                replace hx152_0 := (HB.out.cell (World.block_lt_of_cell? w _ hx152_0)).trans hx152_0
                replace p152 := eq_true p152
                replace q152 := eq_true q152
                go_wp2_with (first | ((with_reducible refine gate_builtin (b := .append) (xs := #[.tmp 35, .tmp 37]) rfl ?_); at_builtin; refine Kd.R_append (Kd.int .i64) (w0 := w) w.heap.size rfl (.tmp 35) (.tmp 37) 100 3 (.int .i64 0) 8 rfl Try.underlying100 info3 rfl (by decide) (by omega) u5 x5_1 (wrap64 ((wrap64 ((wrap64 ((rd l0 x7_1) - x6_1)) - (rd l1 x7_1))) + 256)) [.int .i64 (wrap64 ((wrap64 ((wrap64 ((rd l0 x7_1) - x6_1)) - (rd l1 x7_1))) + 256))] (fun _ => True) (fun _ => False) rfl rfl ?aP (fun _ hk => hk.elim) ?aF ?aO ?aB ?aS ?aL ?_; (case aP => exact rfl); (case aB => exact (by repeat (first | (with_reducible first | exact HB.out | apply below_alloc | apply pw_below_drewN | apply below_drew1) | exact HB.out))); (case aF => exact (fun _ _ => trivial)); (case aO => exact (by (with_reducible repeat (first | apply Kd.R_alloc | apply Kd.R_drewN | apply Kd.R_drew)); exact HO_5.out)); (case aS => exact (below_size (by repeat (first | (with_reducible first | exact HB.out | apply below_alloc | apply pw_below_drewN | apply below_drew1) | exact HB.out)))); (case aL => have := LMc7.out; omega); intro v154 w8 ho hb hg hat; rw [← Ny153.out] at ho; have n0_ := Aside0.mk (hb); have n1_ := Aside0.mk (ho); clear HB; clear HO_5; have HB := n0_; have HO155 := n1_; clear n0_ n1_; clear ho hb hg hat))
                go_roundg k1
                case measure => have := HK1.out; omega
                case rel => exact ⟨(y153), (1), (wrap64 (x7_1 + 1)), (by first | rfl | (simp; done) | (simp [*]; done)), (by first | rfl | (simp; done) | (simp [*]; done)), H', ⟨by have := HK1.out; omega⟩, ⟨by (with_reducible repeat (first | apply Kd.R_alloc | apply Kd.R_drewN | apply Kd.R_drew)); exact HO155.out⟩, ⟨by repeat (first | (with_reducible first | exact HB.out | apply below_alloc | apply pw_below_drewN | apply below_drew1) | exact HB.out)⟩⟩
              · rw [if_neg c7] at H
                exact absurd H (by simp)
            · rw [if_neg c6] at H
              have c6b0 : decide ((wrap64 ((wrap64 ((rd l0 x7_1) - x6_1)) - (rd l1 x7_1))) < 0) = false := decide_eq_false c6
              clear c6
              by_cases c9 : x5_1.length < 17592186044416
              · rw [if_pos c9] at H
                have LMc9 := Aside0.mk c9
                clear c9
                obtain ⟨y156, hy156⟩ : ∃ y_ : List Int, y_ = (x5_1 ++ [wrap64 ((wrap64 ((rd l0 x7_1) - x6_1)) - (rd l1 x7_1))]) := ⟨_, rfl⟩
                replace H : (postmarkref06_minus.l0 k1 l0 l1 y156 0 (wrap64 (x7_1 + 1))) = some r := by first | (rw [hy156]; with_reducible exact H) | (have H2_ := (Option.bind_some _ _).symm.trans H; rw [hy156]; with_reducible exact H2_) | (have H2_ := (Option.bind_some _ _).symm.trans H; with_reducible exact H2_) | with_reducible exact H | (rw [hy156]; exact H) | exact H
                have Ny156 := Aside0.mk hy156
                clear hy156
                have H' := Aside0.mk H
                clear H
                have p151 : 0 ≤ (x7_1 : Int) := of_decide_eq_true (by first | (with_reducible assumption) | assumption)
                have q151 : x7_1 < (l0.length : Int) := of_decide_eq_true (by first | (with_reducible assumption) | assumption)
                obtain ⟨ad151, e151, hx151_0⟩ := Kd.at_int HR0.out x7_1 p151 q151
                cases e151
                replace hx151_0 := (HB.out.cell (World.block_lt_of_cell? w _ hx151_0)).trans hx151_0
                replace p151 := eq_true p151
                replace q151 := eq_true q151
                have p152 : 0 ≤ (x7_1 : Int) := of_decide_eq_true (by first | (with_reducible assumption) | assumption)
                have q152 : x7_1 < (l1.length : Int) := of_decide_eq_true (by first | (with_reducible assumption) | assumption)
                obtain ⟨ad152, e152, hx152_0⟩ := Kd.at_int HR1.out x7_1 p152 q152
                cases e152
                replace hx152_0 := (HB.out.cell (World.block_lt_of_cell? w _ hx152_0)).trans hx152_0
                replace p152 := eq_true p152
                replace q152 := eq_true q152
                go_wp2_with (first | ((with_reducible refine gate_builtin (b := .append) (xs := #[.tmp 35, .tmp 37]) rfl ?_); at_builtin; refine Kd.R_append (Kd.int .i64) (w0 := w) w.heap.size rfl (.tmp 35) (.tmp 37) 100 3 (.int .i64 0) 8 rfl Try.underlying100 info3 rfl (by decide) (by omega) u5 x5_1 (wrap64 ((wrap64 ((rd l0 x7_1) - x6_1)) - (rd l1 x7_1))) [.int .i64 (wrap64 ((wrap64 ((rd l0 x7_1) - x6_1)) - (rd l1 x7_1)))] (fun _ => True) (fun _ => False) rfl rfl ?aP (fun _ hk => hk.elim) ?aF ?aO ?aB ?aS ?aL ?_; (case aP => exact rfl); (case aB => exact (by repeat (first | (with_reducible first | exact HB.out | apply below_alloc | apply pw_below_drewN | apply below_drew1) | exact HB.out))); (case aF => exact (fun _ _ => trivial)); (case aO => exact (by (with_reducible repeat (first | apply Kd.R_alloc | apply Kd.R_drewN | apply Kd.R_drew)); exact HO_5.out)); (case aS => exact (below_size (by repeat (first | (with_reducible first | exact HB.out | apply below_alloc | apply pw_below_drewN | apply below_drew1) | exact HB.out)))); (case aL => have := LMc9.out; omega); intro v157 w10 ho hb hg hat; rw [← Ny156.out] at ho; have n0_ := Aside0.mk (hb); have n1_ := Aside0.mk (ho); clear HB; clear HO_5; have HB := n0_; have HO158 := n1_; clear n0_ n1_; clear ho hb hg hat))
                go_roundg k1
                case measure => have := HK1.out; omega
                case rel => exact ⟨(y156), (0), (wrap64 (x7_1 + 1)), (by first | rfl | (simp; done) | (simp [*]; done)), (by first | rfl | (simp; done) | (simp [*]; done)), H', ⟨by have := HK1.out; omega⟩, ⟨by (with_reducible repeat (first | apply Kd.R_alloc | apply Kd.R_drewN | apply Kd.R_drew)); exact HO158.out⟩, ⟨by repeat (first | (with_reducible first | exact HB.out | apply below_alloc | apply pw_below_drewN | apply below_drew1) | exact HB.out)⟩⟩
              · rw [if_neg c9] at H
                exact absurd H (by simp)
          · rw [if_neg c5] at H
            have c5b0 : decide (x7_1 < (l1.length : Int)) = false := decide_eq_false c5
            clear c5
            by_cases c11 : (wrap64 ((rd l0 x7_1) - x6_1)) < 0
            · rw [if_pos c11] at H
              have c11b0 : decide ((wrap64 ((rd l0 x7_1) - x6_1)) < 0) = true := decide_eq_true c11
              clear c11
              by_cases c12 : x5_1.length < 17592186044416
              · rw [if_pos c12] at H
                have LMc12 := Aside0.mk c12
                clear c12
                obtain ⟨y159, hy159⟩ : ∃ y_ : List Int, y_ = (x5_1 ++ [wrap64 ((wrap64 ((rd l0 x7_1) - x6_1)) + 256)]) := ⟨_, rfl⟩
                replace H : (postmarkref06_minus.l0 k1 l0 l1 y159 1 (wrap64 (x7_1 + 1))) = some r := by first | (rw [hy159]; with_reducible exact H) | (have H2_ := (Option.bind_some _ _).symm.trans H; rw [hy159]; with_reducible exact H2_) | (have H2_ := (Option.bind_some _ _).symm.trans H; with_reducible exact H2_) | with_reducible exact H | (rw [hy159]; exact H) | exact H
                have Ny159 := Aside0.mk hy159
                clear hy159
                have H' := Aside0.mk H
                clear H
                have p151 : 0 ≤ (x7_1 : Int) := of_decide_eq_true (by first | (with_reducible assumption) | assumption)
                have q151 : x7_1 < (l0.length : Int) := of_decide_eq_true (by first | (with_reducible assumption) | assumption)
                obtain ⟨ad151, e151, hx151_0⟩ := Kd.at_int HR0.out x7_1 p151 q151
                cases e151
                replace hx151_0 := (HB.out.cell (World.block_lt_of_cell? w _ hx151_0)).trans hx151_0
                replace p151 := eq_true p151
                replace q151 := eq_true q151
                go_wp2_with (first | ((with_reducible refine gate_builtin (b := .append) (xs := #[.tmp 35, .tmp 37]) rfl ?_); at_builtin; refine Kd.R_append (Kd.int .i64) (w0 := w) w.heap.size rfl (.tmp 35) (.tmp 37) 100 3 (.int .i64 0) 8 rfl Try.underlying100 info3 rfl (by decide) (by omega) u5 x5_1 (wrap64 ((wrap64 ((rd l0 x7_1) - x6_1)) + 256)) [.int .i64 (wrap64 ((wrap64 ((rd l0 x7_1) - x6_1)) + 256))] (fun _ => True) (fun _ => False) rfl rfl ?aP (fun _ hk => hk.elim) ?aF ?aO ?aB ?aS ?aL ?_; (case aP => exact rfl); (case aB => exact (by repeat (first | (with_reducible first | exact HB.out | apply below_alloc | apply pw_below_drewN | apply below_drew1) | exact HB.out))); (case aF => exact (fun _ _ => trivial)); (case aO => exact (by (with_reducible repeat (first | apply Kd.R_alloc | apply Kd.R_drewN | apply Kd.R_drew)); exact HO_5.out)); (case aS => exact (below_size (by repeat (first | (with_reducible first | exact HB.out | apply below_alloc | apply pw_below_drewN | apply below_drew1) | exact HB.out)))); (case aL => have := LMc12.out; omega); intro v160 w13 ho hb hg hat; rw [← Ny159.out] at ho; have n0_ := Aside0.mk (hb); have n1_ := Aside0.mk (ho); clear HB; clear HO_5; have HB := n0_; have HO161 := n1_; clear n0_ n1_; clear ho hb hg hat))
                go_roundg k1
                case measure => have := HK1.out; omega
                case rel => exact ⟨(y159), (1), (wrap64 (x7_1 + 1)), (by first | rfl | (simp; done) | (simp [*]; done)), (by first | rfl | (simp; done) | (simp [*]; done)), H', ⟨by have := HK1.out; omega⟩, ⟨by (with_reducible repeat (first | apply Kd.R_alloc | apply Kd.R_drewN | apply Kd.R_drew)); exact HO161.out⟩, ⟨by repeat (first | (with_reducible first | exact HB.out | apply below_alloc | apply pw_below_drewN | apply below_drew1) | exact HB.out)⟩⟩
              · rw [if_neg c12] at H
                exact absurd H (by simp)
            · rw [if_neg c11] at H
              have c11b0 : decide ((wrap64 ((rd l0 x7_1) - x6_1)) < 0) = false := decide_eq_false c11
              clear c11
              by_cases c14 : x5_1.length < 17592186044416
              · rw [if_pos c14] at H
                have LMc14 := Aside0.mk c14
                clear c14
                obtain ⟨y162, hy162⟩ : ∃ y_ : List Int, y_ = (x5_1 ++ [wrap64 ((rd l0 x7_1) - x6_1)]) := ⟨_, rfl⟩
                replace H : (postmarkref06_minus.l0 k1 l0 l1 y162 0 (wrap64 (x7_1 + 1))) = some r := by first | (rw [hy162]; with_reducible exact H) | (have H2_ := (Option.bind_some _ _).symm.trans H; rw [hy162]; with_reducible exact H2_) | (have H2_ := (Option.bind_some _ _).symm.trans H; with_reducible exact H2_) | with_reducible exact H | (rw [hy162]; exact H) | exact H
                have Ny162 := Aside0.mk hy162
                clear hy162
                have H' := Aside0.mk H
                clear H
                have p151 : 0 ≤ (x7_1 : Int) := of_decide_eq_true (by first | (with_reducible assumption) | assumption)
                have q151 : x7_1 < (l0.length : Int) := of_decide_eq_true (by first | (with_reducible assumption) | assumption)
                obtain ⟨ad151, e151, hx151_0⟩ := Kd.at_int HR0.out x7_1 p151 q151
                cases e151
                replace hx151_0 := (HB.out.cell (World.block_lt_of_cell? w _ hx151_0)).trans hx151_0
                replace p151 := eq_true p151
                replace q151 := eq_true q151
                go_wp2_with (first | ((with_reducible refine gate_builtin (b := .append) (xs := #[.tmp 35, .tmp 37]) rfl ?_); at_builtin; refine Kd.R_append (Kd.int .i64) (w0 := w) w.heap.size rfl (.tmp 35) (.tmp 37) 100 3 (.int .i64 0) 8 rfl Try.underlying100 info3 rfl (by decide) (by omega) u5 x5_1 (wrap64 ((rd l0 x7_1) - x6_1)) [.int .i64 (wrap64 ((rd l0 x7_1) - x6_1))] (fun _ => True) (fun _ => False) rfl rfl ?aP (fun _ hk => hk.elim) ?aF ?aO ?aB ?aS ?aL ?_; (case aP => exact rfl); (case aB => exact (by repeat (first | (with_reducible first | exact HB.out | apply below_alloc | apply pw_below_drewN | apply below_drew1) | exact HB.out))); (case aF => exact (fun _ _ => trivial)); (case aO => exact (by (with_reducible repeat (first | apply Kd.R_alloc | apply Kd.R_drewN | apply Kd.R_drew)); exact HO_5.out)); (case aS => exact (below_size (by repeat (first | (with_reducible first | exact HB.out | apply below_alloc | apply pw_below_drewN | apply below_drew1) | exact HB.out)))); (case aL => have := LMc14.out; omega); intro v163 w15 ho hb hg hat; rw [← Ny162.out] at ho; have n0_ := Aside0.mk (hb); have n1_ := Aside0.mk (ho); clear HB; clear HO_5; have HB := n0_; have HO164 := n1_; clear n0_ n1_; clear ho hb hg hat))
                go_roundg k1
                case measure => have := HK1.out; omega
                case rel => exact ⟨(y162), (0), (wrap64 (x7_1 + 1)), (by first | rfl | (simp; done) | (simp [*]; done)), (by first | rfl | (simp; done) | (simp [*]; done)), H', ⟨by have := HK1.out; omega⟩, ⟨by (with_reducible repeat (first | apply Kd.R_alloc | apply Kd.R_drewN | apply Kd.R_drew)); exact HO164.out⟩, ⟨by repeat (first | (with_reducible first | exact HB.out | apply below_alloc | apply pw_below_drewN | apply below_drew1) | exact HB.out)⟩⟩
              · rw [if_neg c14] at H
                exact absurd H (by simp)
        · rw [if_neg c4] at H
          exact absurd H (by simp)
      · rw [if_neg c3] at H
        have c3b0 : decide (x7_1 < (l0.length : Int)) = false := decide_eq_false c3
        clear c3
        replace H := Option.bind_eq_some_iff.mp H
        obtain ⟨t148, A160, H⟩ := H
        replace H : (some t148) = some r := H
        have A16 := Aside0.mk A160
        clear A160
        obtain rfl := Option.some.inj H
        obtain ⟨Ao17, co17, eo17⟩ := Kd.R_slice HO_5.out
        subst eo17
        go_wp2_with (first | ((with_reducible refine gate_callee (f := 115) rfl ?_); refine goesL_ (some 40) rfl rfl Try.func115 (by kernel_rfl) rfl #[.slice Ao17 x5_1.length co17] rfl (by (try simp only [List.map_toArray, List.map_cons, List.map_nil]); first | done | rfl | (simp only [List.length_drop, List.length_take]; rfl)) ?_; (with_reducible refine (postmarkref02_Short.calls k1 (fun k_ => some k_ = (.slice Ao17 x5_1.length co17 : Value).ownBlock) (.slice Ao17 x5_1.length co17) x5_1 t148 w _ ?side1 ?side2 A16.out).mono ?_); (case side1 => repeat (first | (with_reducible first | exact HB.out | apply below_alloc | apply pw_below_drewN | apply below_drew1) | exact HB.out)); (case side2 => exact Kd.R_tight rfl HO_5.out); rintro e w18 ⟨v149, rfl, ho0, hb, hkp⟩; refine ⟨_, rfl, ?_⟩; have n0_ := Aside0.mk (Kd.R_mono (ok' := fun k_ => True) ho0 (fun k_ hk_ => trivial)); have n1_ := Aside0.mk (hb); clear HB; clear HO_5; have HO150 := n0_; have HB := n1_; clear n0_ n1_; (try clear hb); (try clear hkp); (try clear ho0)))
        go_ret
        exact ⟨_, by first | rfl | (simp [errW_none, errW_some] <;> rfl) | (simp [*, errW_none, errW_some] <;> rfl), by (with_reducible repeat (first | apply Kd.R_alloc | apply Kd.R_drewN | apply Kd.R_drew)); exact HO150.out, by repeat (first | (with_reducible first | exact HB.out | apply below_alloc | apply pw_below_drewN | apply below_drew1) | exact HB.out)⟩
end Go.Proofs.Ytlifengbicpppaa.G
end
section
namespace Go.Proofs.Ytlifengbicpppaa.Num
open Go.Proofs.YtlifengbicpppaaW.PrintWords
section
variable {b : Nat}
theorem val_split (l : List Int) (i : Nat) (h : i ≤ l.length) : val b l = val b (l.take i) + b ^ i * val b (l.drop i) := by
  conv => lhs; rw [← List.take_append_drop i l]
  rw [val_append, List.length_take, Nat.min_eq_left h]
theorem drop_rd (l : List Int) (i : Nat) (h : i < l.length) : l.drop i = rd l (i : Int) :: l.drop (i + 1) := by
  rw [List.drop_eq_getElem_cons h]
  simp [rd, h]
theorem val_at (l : List Int) (i : Nat) (h : i < l.length) : val b l = val b (l.take i) + b ^ i * ((rd l (i : Int)).toNat + b * val b (l.drop (i + 1))) := by
  rw [val_split l i (by omega), drop_rd l i h, val_cons]
theorem rd_dg {l : List Int} (h : Dg b l) (hb : 0 < b) (i : Int) : 0 ≤ rd l i ∧ rd l i < b := h.getD hb _
theorem val_take_lt {l : List Int} (h : Dg b l) (i : Nat) (hi : i ≤ l.length) : val b (l.take i) < b ^ i := by
  have := val_lt (h.take i)
  rwa [List.length_take, Nat.min_eq_left hi] at this
/-- Two that are the same above a place are compared by what lies there. -/
theorem val_lt_top {x y : List Int} {i : Nat} (hb : 0 < b) (hx : Dg b x) (hy : Dg b y) (hix : i < x.length) (hiy : i < y.length) (hd : x.drop (i + 1) = y.drop (i + 1)) (h : rd x (i : Int) < rd y (i : Int)) : val b x < val b y := by
  rw [val_at x i hix, val_at y i hiy, hd]
  have h1 := val_take_lt hx i (by omega)
  have h2 := rd_dg hx hb (i : Int)
  have h3 := rd_dg hy hb (i : Int)
  have h4 : b ^ i * ((rd x (i : Int)).toNat + b * val b (y.drop (i + 1)) + 1) ≤ b ^ i * ((rd y (i : Int)).toNat + b * val b (y.drop (i + 1))) := Nat.mul_le_mul_left _ (by omega)
  rw [Nat.mul_add, Nat.mul_one] at h4
  omega
theorem strip_pow_le {y : List Int} (hb : 2 ≤ b) (hy : Dg b y) (sy : strip y = y) {n : Nat} (h : n < y.length) : b ^ n ≤ val b y := by
  have hv := digs_val hb hy
  rw [sy] at hv
  by_cases h1 : val b y < b ^ n
  · have := (digs_len hb (val b y) n).2 h1
    rw [hv] at this
    omega
  · omega
theorem val_lt_len {x y : List Int} (hb : 2 ≤ b) (hx : Dg b x) (hy : Dg b y) (sy : strip y = y) (h : x.length < y.length) : val b x < val b y :=
  Nat.lt_of_lt_of_le (val_lt hx) (strip_pow_le hb hy sy h)
theorem digs_lt (hb : 2 ≤ b) {n m : Nat} (h : n ≤ m) : (digs b n).length ≤ (digs b m).length := by
  have := (digs_len hb m (digs b m).length).1 (Nat.le_refl _)
  exact (digs_len hb n _).2 (by omega)
end
end Go.Proofs.Ytlifengbicpppaa.Num
end
section
namespace Go.Proofs.Ytlifengbicpppaa.G
open Go.RowKit Go.Proofs.YtlifengbicpppaaW.PrintWords Go.Proofs.YtlifengbicpppaaW.PrintLast Go.Proofs.YtlifengbicpppaaW.PrintMore
open Go.Proofs.Ytlifengbicpppaa.Num
theorem w64 {x : Int} (h0 : -9223372036854775808 ≤ x) (h1 : x < 9223372036854775808) : wrap64 x = x := by unfold wrap64; omega
theorem short_l0 (l : List Int) (hl : l.length < 9223372036854775808) : ∀ m : Nat, m ≤ l.length → strip l = strip (l.take m) → Ev (fun k => postmarkref02_Short.l0 k l (m : Int)) (strip l)
  | 0, _, h => by
    refine Ev.step (f := fun _ => some (l.take 0)) (fun k => ?_) ?_
    · show postmarkref02_Short.l0 (k + 1) l ((0 : Nat) : Int) = _
      simp only [postmarkref02_Short.l0]
      rw [if_neg (by omega), if_pos (by omega), if_pos (by omega)]
      rfl
    · rw [h]
      exact Ev.now _
  | m + 1, hm, h => by
    have ew : wrap64 (((m + 1 : Nat) : Int) - 1) = (m : Int) := by rw [w64 (by omega) (by omega)]; omega
    refine Ev.step (f := fun k => if rd l m = 0 then postmarkref02_Short.l0 k l (m : Int) else some (l.take (m + 1))) (fun k => ?_) ?_
    · show postmarkref02_Short.l0 (k + 1) l ((m + 1 : Nat) : Int) = _
      simp only [postmarkref02_Short.l0]
      rw [ew, if_pos (by omega), if_pos (by omega), if_pos (by omega)]
      by_cases hx : rd l m = 0
      · rw [if_pos hx, if_pos hx]
      · rw [if_neg hx, if_neg hx, if_pos (by omega), if_pos (by omega)]
        rfl
    · rw [take_snoc_int l m (by omega)] at h
      by_cases hx : rd l m = 0
      · simp only [hx, if_true]
        rw [hx, strip_snoc_zero] at h
        exact short_l0 l hl m (by omega) h
      · simp only [hx, if_false]
        rw [strip_snoc _ hx, ← take_snoc_int l m (by omega)] at h
        rw [h]
        exact Ev.now _
theorem short_ev (l : List Int) (hl : l.length < 9223372036854775808) : Ev (fun k => postmarkref02_Short.f k l) (strip l) :=
  short_l0 l hl l.length (Nat.le_refl _) (by rw [List.take_length])
theorem twice_l0 (l : List Int) (hd : Dg 256 l) (hl : l.length < 17592186044415) : ∀ (d i : Nat) (out : List Int) (c : Int), d = l.length - i → i ≤ l.length → out.length = i → Dg 256 out → 0 ≤ c → c ≤ 1 →
    val 256 out + 256 ^ i * c.toNat = 2 * val 256 (l.take i) → Ev (fun k => postmarkref06_twice.l0 k l out c (i : Int)) (digs 256 (2 * val 256 l))
  | 0, i, out, c, hdd, hi, ho, hdo, c0, c1, h => by
    obtain rfl : i = l.length := by omega
    rw [List.take_length] at h
    have hdo2 : Dg 256 (out ++ [c]) := hdo.append (Dg.cons c0 (by omega) Dg.nil)
    have hv : digs 256 (2 * val 256 l) = strip (out ++ [c]) := by
      rw [← digs_val (by decide) hdo2, val_snoc, ho, h]
    rw [hv]
    refine Ev.step (f := fun k => (postmarkref02_Short.f k (out ++ [c])).bind fun t => some t) (fun k => ?_) ((short_ev _ (by simp; omega)).bind (Ev.now _))
    show postmarkref06_twice.l0 (k + 1) l out c ((l.length : Nat) : Int) = _
    simp only [postmarkref06_twice.l0]
    rw [if_neg (by omega), if_pos (by omega)]
  | d + 1, i, out, c, hdd, hi, ho, hdo, c0, c1, h => by
    have hx := rd_dg hd (by decide) (i : Int)
    have b1 : (i : Int) < (l.length : Int) := by omega
    have b2 : (0 : Int) ≤ (i : Int) := by omega
    have b3 : out.length < 17592186044416 := by omega
    generalize hx' : rd l (i : Int) = x at *
    obtain ⟨p, hp⟩ : ∃ p, p = (c + 2 * x) % 256 := ⟨_, rfl⟩
    obtain ⟨s, hs⟩ : ∃ s, s = (c + 2 * x) / 256 := ⟨_, rfl⟩
    have hps : p.toNat + 256 * s.toNat = c.toNat + 2 * x.toNat := by omega
    have hp0 : 0 ≤ p ∧ p < 256 := by omega
    have hs0 : 0 ≤ s ∧ s ≤ 1 := by omega
    have st : ∀ k, postmarkref06_twice.l0 (k + 1) l out c (i : Int) = postmarkref06_twice.l0 k l (out ++ [p]) s ((i + 1 : Nat) : Int) := fun k => by
      have e1 : wrap64 (2 * x) = 2 * x := w64 (by omega) (by omega)
      have e2 : wrap64 (c + 2 * x) = c + 2 * x := w64 (by omega) (by omega)
      have e3 : wrap64 ((i : Int) + 1) = ((i + 1 : Nat) : Int) := (w64 (by omega) (by omega)).trans (by omega)
      have e4 : Int.tmod (c + 2 * x) 256 = p := (Int.tmod_eq_emod_of_nonneg (by omega)).trans hp.symm
      have e5 : Int.tdiv (c + 2 * x) 256 = s := (Int.tdiv_eq_ediv_of_nonneg (by omega)).trans hs.symm
      have e6 : wrap64 s = s := w64 (by omega) (by omega)
      simp only [postmarkref06_twice.l0]
      rw [hx', e1, e2, e3, e4, e5, e6, if_pos b1, if_pos b2, if_pos b3]
    refine Ev.step (f := fun k => postmarkref06_twice.l0 k l (out ++ [p]) s ((i + 1 : Nat) : Int)) st ?_
    refine twice_l0 l hd hl d (i + 1) _ _ (by omega) (by omega) (by simp [ho]) (hdo.append (Dg.cons hp0.1 hp0.2 Dg.nil)) hs0.1 hs0.2 ?_
    have hlen : (l.take i).length = i := by rw [List.length_take]; omega
    rw [take_snoc_int l i (by omega), val_snoc, val_snoc, ho, hlen, hx', Nat.pow_succ, Nat.mul_add, ← h]
    have h8 : 256 ^ i * 256 * s.toNat = 256 ^ i * (256 * s.toNat) := Nat.mul_assoc _ _ _
    have h9 : 256 ^ i * p.toNat + 256 ^ i * (256 * s.toNat) = 256 ^ i * c.toNat + 256 ^ i * (2 * x.toNat) := by
      rw [← Nat.mul_add, hps, Nat.mul_add]
    have h10 : 2 * (256 ^ i * x.toNat) = 256 ^ i * (2 * x.toNat) := Nat.mul_left_comm _ _ _
    rw [h8, h10]
    generalize 256 ^ i * (256 * s.toNat) = y1 at *
    generalize 256 ^ i * p.toNat = y2 at *
    generalize 256 ^ i * (2 * x.toNat) = y3 at *
    generalize 256 ^ i * c.toNat = y4 at *
    omega
theorem twice_ev (l : List Int) (hd : Dg 256 l) (hl : l.length < 17592186044415) : Ev (fun k => postmarkref06_twice.f k l) (digs 256 (2 * val 256 l)) :=
  twice_l0 l hd hl l.length 0 [] 0 (by omega) (by omega) rfl Dg.nil (by decide) (by decide) (by simp [val_nil])
/-- A limb's difference. -/
theorem minus_l0 (x y : List Int) (hx : Dg 256 x) (hy : Dg 256 y) (hl : x.length < 17592186044415) (hly : y.length ≤ x.length) (hle : val 256 y ≤ val 256 x) : ∀ (d i : Nat) (out : List Int) (c : Int), d = x.length - i → i ≤ x.length → out.length = i → Dg 256 out → 0 ≤ c → c ≤ 1 →
    val 256 (x.take i) + 256 ^ i * c.toNat = val 256 out + val 256 (y.take i) → Ev (fun k => postmarkref06_minus.l0 k x y out c (i : Int)) (digs 256 (val 256 x - val 256 y))
  | 0, i, out, c, hdd, hi, ho, hdo, c0, c1, h => by
    obtain rfl : i = x.length := by omega
    rw [List.take_length, List.take_of_length_le hly] at h
    have hb := val_lt hdo
    rw [ho] at hb
    have hc : c.toNat = 0 := by
      rcases Nat.eq_zero_or_pos c.toNat with h1 | h1
      · exact h1
      · have : 256 ^ x.length * 1 ≤ 256 ^ x.length * c.toNat := Nat.mul_le_mul_left _ h1
        omega
    have hv : digs 256 (val 256 x - val 256 y) = strip out := by
      rw [← digs_val (by decide) hdo]
      congr 1
      rw [hc] at h
      omega
    rw [hv]
    refine Ev.step (f := fun k => (postmarkref02_Short.f k out).bind fun t => some t) (fun k => ?_) ((short_ev _ (by omega)).bind (Ev.now _))
    show postmarkref06_minus.l0 (k + 1) x y out c ((x.length : Nat) : Int) = _
    simp only [postmarkref06_minus.l0]
    rw [if_neg (by omega)]
  | d + 1, i, out, c, hdd, hi, ho, hdo, c0, c1, h => by
    have hxi := rd_dg hx (by decide) (i : Int)
    have b1 : (i : Int) < (x.length : Int) := by omega
    have b2 : (0 : Int) ≤ (i : Int) := by omega
    have b3 : out.length < 17592186044416 := by omega
    have hlen : (x.take i).length = i := by rw [List.length_take]; omega
    have tx := take_snoc_int x i (by omega)
    generalize hxu : rd x (i : Int) = u at *
    have fin : ∀ (t p s : Int), 0 ≤ t → val 256 (y.take (i + 1)) = val 256 (y.take i) + 256 ^ i * t.toNat → u - c - t = p - 256 * s → 0 ≤ p → p < 256 → 0 ≤ s → s ≤ 1 →
        Ev (fun k => postmarkref06_minus.l0 k x y (out ++ [p]) s ((i + 1 : Nat) : Int)) (digs 256 (val 256 x - val 256 y)) := fun t p s t0 ht hp p0 p1 s0 s1 => by
      refine minus_l0 x y hx hy hl hly hle d (i + 1) _ _ (by omega) (by omega) (by simp [ho]) (hdo.append (Dg.cons p0 p1 Dg.nil)) s0 s1 ?_
      rw [ht, tx, val_snoc, val_snoc, ho, hlen, Nat.pow_succ]
      have h7 : u.toNat + 256 * s.toNat = p.toNat + t.toNat + c.toNat := by omega
      have h8 : 256 ^ i * 256 * s.toNat = 256 ^ i * (256 * s.toNat) := Nat.mul_assoc _ _ _
      have h9 : 256 ^ i * u.toNat + 256 ^ i * (256 * s.toNat) = 256 ^ i * p.toNat + 256 ^ i * t.toNat + 256 ^ i * c.toNat := by
        rw [← Nat.mul_add, h7, Nat.mul_add, Nat.mul_add]
      rw [h8]
      generalize 256 ^ i * (256 * s.toNat) = y1 at *
      generalize 256 ^ i * p.toNat = y2 at *
      generalize 256 ^ i * u.toNat = y3 at *
      generalize 256 ^ i * c.toNat = y4 at *
      generalize 256 ^ i * t.toNat = y5 at *
      omega
    have e1 : wrap64 (u - c) = u - c := w64 (by omega) (by omega)
    have e3 : wrap64 ((i : Int) + 1) = ((i + 1 : Nat) : Int) := (w64 (by omega) (by omega)).trans (by omega)
    by_cases hiy : i < y.length
    · have ht : val 256 (y.take (i + 1)) = val 256 (y.take i) + 256 ^ i * (rd y (i : Int)).toNat := by
        rw [take_snoc_int y i hiy, val_snoc, List.length_take, Nat.min_eq_left (Nat.le_of_lt hiy)]
      have hyi := rd_dg hy (by decide) (i : Int)
      have b4 : (i : Int) < (y.length : Int) := Int.ofNat_lt.2 hiy
      by_cases hn : u - c - rd y i < 0
      · have b5 : 0 ≤ u - c - rd y i + 256 ∧ u - c - rd y i + 256 < 256 := by clear e1 e3; omega
        have fin := fin (rd y i) (u - c - rd y i + 256) 1 hyi.1 ht (by clear e1 e3; omega) b5.1 b5.2 (by decide) (by decide)
        have e4 : wrap64 (u - c - rd y i) = u - c - rd y i := w64 (by clear e1 e3; omega) (by clear e1 e3; omega)
        have e5 : wrap64 (u - c - rd y i + 256) = u - c - rd y i + 256 := w64 (by clear e1 e3 e4; omega) (by clear e1 e3 e4; omega)
        refine Ev.step (fun k => ?_) fin
        simp only [postmarkref06_minus.l0]
        rw [hxu, e1, e4, e5, e3, if_pos b1, if_pos b2, if_pos b4, if_pos hn, if_pos b3]
      · have b5 : 0 ≤ u - c - rd y i ∧ u - c - rd y i < 256 := by clear e1 e3; omega
        have fin := fin (rd y i) (u - c - rd y i) 0 hyi.1 ht (by clear e1 e3; omega) b5.1 b5.2 (by decide) (by decide)
        have e4 : wrap64 (u - c - rd y i) = u - c - rd y i := w64 (by clear e1 e3; omega) (by clear e1 e3; omega)
        refine Ev.step (fun k => ?_) fin
        simp only [postmarkref06_minus.l0]
        rw [hxu, e1, e4, e3, if_pos b1, if_pos b2, if_pos b4, if_neg hn, if_pos b3]
    · have ht : val 256 (y.take (i + 1)) = val 256 (y.take i) + 256 ^ i * (0 : Int).toNat := by
        rw [List.take_of_length_le (Nat.le_succ_of_le (Nat.le_of_not_lt hiy)), List.take_of_length_le (Nat.le_of_not_lt hiy)]; simp
      have b4 : ¬ (i : Int) < (y.length : Int) := fun h => hiy (Int.ofNat_lt.1 h)
      by_cases hn : u - c < 0
      · have b5 : 0 ≤ u - c + 256 ∧ u - c + 256 < 256 := by clear e1 e3; omega
        have fin := fin 0 (u - c + 256) 1 (by decide) ht (by clear e1 e3; omega) b5.1 b5.2 (by decide) (by decide)
        have e5 : wrap64 (u - c + 256) = u - c + 256 := w64 (by clear e1 e3; omega) (by clear e1 e3; omega)
        refine Ev.step (fun k => ?_) fin
        simp only [postmarkref06_minus.l0]
        rw [hxu, e1, e5, e3, if_pos b1, if_pos b2, if_neg b4, if_pos hn, if_pos b3]
      · have b5 : 0 ≤ u - c ∧ u - c < 256 := by clear e1 e3; omega
        have fin := fin 0 (u - c) 0 (by decide) ht (by clear e1 e3; omega) b5.1 b5.2 (by decide) (by decide)
        refine Ev.step (fun k => ?_) fin
        simp only [postmarkref06_minus.l0]
        rw [hxu, e1, e3, if_pos b1, if_pos b2, if_neg b4, if_neg hn, if_pos b3]
theorem minus_ev (x y : List Int) (hx : Dg 256 x) (hy : Dg 256 y) (hl : x.length < 17592186044415) (hly : y.length ≤ x.length) (hle : val 256 y ≤ val 256 x) : Ev (fun k => postmarkref06_minus.f k x y) (digs 256 (val 256 x - val 256 y)) :=
  minus_l0 x y hx hy hl hly hle x.length 0 [] 0 (by omega) (by omega) rfl Dg.nil (by decide) (by decide) (by simp [val_nil])
end Go.Proofs.Ytlifengbicpppaa.G
end
section
namespace Go.Proofs.Ytlifengbicpppaa.Num
open Go.Proofs.YtlifengbicpppaaW.PrintWords
theorem rd_digs {b : Nat} (hb : 2 ≤ b) : ∀ (t n : Nat), rd (digs b n) (t : Int) = ((n / b ^ t % b : Nat) : Int)
  | 0, n => by
    rcases Nat.eq_zero_or_pos n with rfl | hn
    · simp [digs_zero, rd]
    · rw [digs_pos hb hn]; simp [rd]
  | t + 1, n => by
    rcases Nat.eq_zero_or_pos n with rfl | hn
    · simp [digs_zero, rd]
    · rw [digs_pos hb hn]
      have h : rd (((n % b : Nat) : Int) :: digs b (n / b)) ((t + 1 : Nat) : Int) = rd (digs b (n / b)) (t : Int) := by simp [rd]
      rw [h, rd_digs hb t (n / b), Nat.div_div_eq_div_mul, Nat.pow_succ, Nat.mul_comm b]
theorem pow_limb (t : Nat) : 256 ^ (4 * t) = 4294967296 ^ t := by rw [Nat.pow_mul]
theorem len_limb (n t : Nat) : 4 * t < (digs 256 n).length ↔ t < (digs 4294967296 n).length := by
  have h1 := digs_len (b := 256) (by decide) n (4 * t)
  have h2 := digs_len (b := 4294967296) (by decide) n t
  rw [pow_limb] at h1
  omega
theorem len_le4 (n t : Nat) : (digs 256 n).length ≤ 4 * t ↔ (digs 4294967296 n).length ≤ t := by have := len_limb n t; omega
theorem len_max (n : Nat) : (digs 256 n).length ≤ 1024 ↔ (digs 4294967296 n).length ≤ 256 := by have := len_le4 n 256; omega
end Go.Proofs.Ytlifengbicpppaa.Num
namespace Go.Proofs.Ytlifengbicpppaa.G
open Go.RowKit Go.Proofs.YtlifengbicpppaaW.PrintWords Go.Proofs.YtlifengbicpppaaW.PrintLast Go.Proofs.YtlifengbicpppaaW.PrintMore
open Go.Proofs.Ytlifengbicpppaa.Num
theorem bare_l0 : ∀ (n : Nat) (l : List Int), l.length = n → n < 9223372036854775807 → Ev (fun k => api_Nat_uint32_92.l0 k l 0) (strip l)
  | 0, l, hn, _ => by
    obtain rfl := List.eq_nil_of_length_eq_zero hn
    refine Ev.step (f := fun _ => some []) (fun k => ?_) (Ev.now _)
    simp only [api_Nat_uint32_92.l0]
    rw [if_neg (by simp)]
  | n + 1, l, hn, hm => by
    have ew : wrap64 ((l.length : Int) - 1) = (n : Int) := (w64 (by omega) (by omega)).trans (by omega)
    have hl : l = l.take n ++ [rd l (n : Int)] := by rw [← take_snoc_int l n (by omega), List.take_of_length_le (by omega)]
    have h1 : (l.length : Int) > 0 := by clear ew hl; omega
    have h2 : (0 : Int) ≤ (n : Int) := by clear ew hl; omega
    have h3 : (n : Int) < (l.length : Int) := by clear ew hl; omega
    by_cases hx : rd l (n : Int) = 0
    · have hs : strip l = strip (l.take n) := by
        conv => lhs; rw [hl, hx, strip_snoc_zero]
      rw [hs]
      refine Ev.step (f := fun k => api_Nat_uint32_92.l0 k (l.take n) 0) (fun k => ?_) (bare_l0 n _ (by rw [List.length_take]; clear ew hl; omega) (by clear ew hl; omega))
      simp only [api_Nat_uint32_92.l0]
      rw [ew, if_pos h1, if_pos h2, if_pos h3, if_pos hx, if_pos (Int.le_of_lt h3), Int.toNat_natCast]
    · have hs : strip l = l := by
        conv => lhs; rw [hl, strip_snoc _ hx]
        exact hl.symm
      rw [hs]
      refine Ev.step (f := fun _ => some l) (fun k => ?_) (Ev.now _)
      simp only [api_Nat_uint32_92.l0]
      rw [ew, if_pos h1, if_pos h2, if_pos h3, if_neg hx]
theorem bare_ev (l : List Int) (hl : l.length < 9223372036854775807) : Ev (fun k => api_Nat_uint32_92.f k l) (strip l) := bare_l0 l.length l rfl hl
theorem trim_ev (l : List Int) (hl : l.length < 1000000) : Ev (fun k => nat_Trim.f k l) (if 256 < (strip l).length then ([], 20) else (strip l, 0)) := by
  have h1 := strip_length l
  unfold nat_Trim.f
  refine (bare_ev l (by omega)).bind ?_
  unfold api_Nat_uint32_103.f
  rw [if_pos (by omega)]
  simp only [Option.bind_some, nat_checked.f, strip_strip]
  exact Ev.now _
theorem digits_l1 (x : List Int) (out : List Int) (i : Int) (v : Int) (r : List Int) (h0 : 0 ≤ v) (h1 : v < 4294967296) (hl : out.length + 4 < 17592186044416) (hi : 0 ≤ i) (hi2 : i < 1000000)
    (h : Ev (fun k => postmarkref02_Digits.l0 k x (out ++ [v % 256, v / 256 % 256, v / 65536 % 256, v / 16777216]) (i + 1)) r) : Ev (fun k => postmarkref02_Digits.l1 k x out i v 0) r := by
  have st : ∀ (j : Int) (out : List Int) (v : Int), 0 ≤ j → j < 4 → out.length < 17592186044416 → 0 ≤ v → v < 4294967296 → ∀ k, postmarkref02_Digits.l1 (k + 1) x out i v j = postmarkref02_Digits.l1 k x (out ++ [v % 256]) i (v / 256) (j + 1) := fun j out v j0 j1 ho v0 v1 k => by
    have e4 : Int.tmod v 256 = v % 256 := Int.tmod_eq_emod_of_nonneg v0
    have e5 : Int.tdiv v 256 = v / 256 := Int.tdiv_eq_ediv_of_nonneg v0
    have e6 : wrap64 (v / 256) = v / 256 := by clear e4 e5; exact w64 (by omega) (by omega)
    have e7 : wrap64 (j + 1) = j + 1 := by clear e4 e5 e6; exact w64 (by omega) (by omega)
    simp only [postmarkref02_Digits.l1]
    rw [e4, e5, e6, e7, if_pos j1, if_pos ho]
  have e8 : wrap64 (i + 1) = i + 1 := w64 (by omega) (by omega)
  refine Ev.step (st 0 _ v (by decide) (by decide) (by omega) h0 h1) ?_
  refine Ev.step (st (0 + 1) _ (v / 256) (by decide) (by decide) (by simp; omega) (by omega) (by omega)) ?_
  refine Ev.step (st (0 + 1 + 1) _ (v / 256 / 256) (by decide) (by decide) (by simp; omega) (by omega) (by omega)) ?_
  refine Ev.step (st (0 + 1 + 1 + 1) _ (v / 256 / 256 / 256) (by decide) (by decide) (by simp; omega) (by omega) (by omega)) ?_
  refine Ev.step (fun k => ?_) h
  have hd1 : v / 256 / 256 = v / 65536 := by omega
  have hd2 : v / 65536 / 256 = v / 16777216 := by omega
  have hd3 : v / 16777216 % 256 = v / 16777216 := by omega
  simp only [postmarkref02_Digits.l1]
  rw [if_neg (by decide), e8, hd1, hd2, hd3]
  simp only [List.append_assoc, List.cons_append, List.nil_append]
theorem digits_l0 (x : List Int) (hx : Dg 4294967296 x) (hl : x.length < 1000000) : ∀ (d i : Nat) (out : List Int), d = x.length - i → i ≤ x.length → out.length = 4 * i → Dg 256 out → val 256 out = val 4294967296 (x.take i) →
    Ev (fun k => postmarkref02_Digits.l0 k x out (i : Int)) (digs 256 (val 4294967296 x))
  | 0, i, out, hd, hi, ho, hdo, hv => by
    obtain rfl : i = x.length := by omega
    rw [List.take_length] at hv
    rw [← hv, digs_val (by decide) hdo]
    refine Ev.step (f := fun k => (postmarkref02_Short.f k out).bind fun t => some t) (fun k => ?_) ((short_ev _ (by omega)).bind (Ev.now _))
    simp only [postmarkref02_Digits.l0]
    rw [if_neg (by omega)]
  | d + 1, i, out, hd, hi, ho, hdo, hv => by
    have hxi := rd_dg hx (by decide) (i : Int)
    have h1 : (i : Int) < (x.length : Int) := by omega
    have h2 : (0 : Int) ≤ (i : Int) := by omega
    have tx := take_snoc_int x i (by omega)
    have hlen : (x.take i).length = i := by rw [List.length_take]; omega
    generalize hxe : rd x (i : Int) = v at *
    have e1 : wrap64 v = v := w64 (by omega) (by omega)
    refine Ev.step (f := fun k => postmarkref02_Digits.l1 k x out (i : Int) v 0) (fun k => ?_) ?_
    · simp only [postmarkref02_Digits.l0]
      rw [if_pos h1, if_pos h2, hxe, e1]
    · clear e1 hxe
      have hq : v % 256 + 256 * (v / 256 % 256) + 65536 * (v / 65536 % 256) + 16777216 * (v / 16777216) = v := by omega
      refine digits_l1 x out i v _ hxi.1 hxi.2 (by omega) h2 (by omega) ?_
      refine digits_l0 x hx hl d (i + 1) _ (by omega) (by omega) (by simp; omega) (hdo.append (Dg.cons (by omega) (by omega) (Dg.cons (by omega) (by omega) (Dg.cons (by omega) (by omega) (Dg.cons (by omega) (by omega) Dg.nil))))) ?_
      rw [tx, val_append, val_snoc, hlen, hv, ho, pow_limb]
      congr 2
      simp only [val_cons, val_nil]
      omega
theorem digits_ev (x : List Int) (hx : Dg 4294967296 x) (hl : x.length < 1000000) : Ev (fun k => postmarkref02_Digits.f k x) (digs 256 (val 4294967296 x)) :=
  digits_l0 x hx hl x.length 0 [] (by omega) (by omega) rfl Dg.nil (by simp [val_nil])
theorem limbs_l0 (n : Nat) (x : List Int) (hxx : x = digs 256 n) (hl : x.length < 1000000) : ∀ (d t : Nat) (out : List Int), d = (digs 4294967296 n).length - t → t ≤ (digs 4294967296 n).length → out = (digs 4294967296 n).take t →
    Ev (fun k => postmarkref02_Limbs.l0 k x out ((4 * t : Nat) : Int)) (digs 4294967296 n)
  | 0, t, out, hd, ht, ho => by
    have hlt := len_limb n t
    rw [← hxx] at hlt
    have : out = digs 4294967296 n := by rw [ho, List.take_of_length_le (by omega)]
    rw [this]
    refine Ev.step (f := fun _ => some _) (fun k => ?_) (Ev.now _)
    simp only [postmarkref02_Limbs.l0]
    rw [if_neg (by omega)]
  | d + 1, t, out, hd, ht, ho => by
    have hlt := len_limb n t
    rw [← hxx] at hlt
    have h1 : ((4 * t : Nat) : Int) < (x.length : Int) := by omega
    have hol : out.length < 35184372088832 := by
      have : out.length ≤ t := by rw [ho, List.length_take]; omega
      omega

    have st : ∀ (j : Nat) (v : Int), j ≤ 3 → 0 ≤ v → v < 4294967296 → ∀ k, postmarkref02_Limbs.l1 (k + 1) x out ((4 * t : Nat) : Int) v (j : Int) = postmarkref02_Limbs.l1 k x out ((4 * t : Nat) : Int) (256 * v + ((n / 256 ^ (4 * t + j) % 256 : Nat) : Int)) ((j : Int) - 1) := fun j v hj v0 v1 k => by
      have hr : rd x (((4 * t + j : Nat)) : Int) = ((n / 256 ^ (4 * t + j) % 256 : Nat) : Int) := by rw [hxx]; exact rd_digs (by decide) _ _
      have hz : ¬ ((4 * t + j : Nat) : Int) < (x.length : Int) → ((n / 256 ^ (4 * t + j) % 256 : Nat) : Int) = 0 := fun h => by
        have h2 := (digs_len (b := 256) (by decide) n (4 * t + j)).1 (by rw [← hxx]; omega)
        rw [Nat.div_eq_of_lt h2]
        rfl
      have hb : n / 256 ^ (4 * t + j) % 256 < 256 := Nat.mod_lt _ (by decide)
      generalize n / 256 ^ (4 * t + j) % 256 = y at *
      have e1 : wrap64 (((4 * t : Nat) : Int) + (j : Int)) = ((4 * t + j : Nat) : Int) := by
        clear hr hz
        exact (w64 (by omega) (by omega)).trans (by omega)
      have e2 : wrap64 (256 * v) = 256 * v := by clear hr hz e1; exact w64 (by omega) (by omega)
      have e3 : wrap64 (256 * v + (y : Int)) = 256 * v + (y : Int) := by clear hr hz e1 e2; exact w64 (by omega) (by omega)
      have e4 : wrap64 ((j : Int) - 1) = (j : Int) - 1 := by clear hr hz e1 e2 e3; exact w64 (by omega) (by omega)
      have c1 : (j : Int) ≥ 0 := by clear hr hz e1 e2 e3 e4; omega
      have c2 : (0 : Int) ≤ ((4 * t + j : Nat) : Int) := by clear hr hz e1 e2 e3 e4; omega
      simp only [postmarkref02_Limbs.l1]
      rw [e1, e2, hr, e3, e4, if_pos c1]
      by_cases hc : ((4 * t + j : Nat) : Int) < (x.length : Int)
      · rw [if_pos hc, if_pos c2]
      · rw [if_neg hc, hz hc, Int.add_zero]
    have hm : ∀ j, n / 256 ^ (4 * t + j) = n / 256 ^ (4 * t) / 256 ^ j := fun j => by rw [Nat.pow_add, Nat.div_div_eq_div_mul]
    obtain ⟨m, hmm⟩ : ∃ m, m = n / 256 ^ (4 * t) := ⟨_, rfl⟩
    have q3 := hm 3
    have q2 := hm 2
    have q1 := hm 1
    have q0 := hm 0
    rw [← hmm] at q3 q2 q1 q0
    have hrd := rd_digs (b := 4294967296) (by decide) t n
    rw [← pow_limb, ← hmm] at hrd
    refine Ev.step (f := fun k => postmarkref02_Limbs.l1 k x out ((4 * t : Nat) : Int) 0 3) (fun k => ?_) ?_
    · simp only [postmarkref02_Limbs.l0]
      rw [if_pos h1]
    have hmb : m % 4294967296 < 4294967296 := Nat.mod_lt _ (by decide)
    refine Ev.step (st 3 0 (by decide) (by decide) (by decide)) ?_
    rw [q3]
    have b3 : m / 256 ^ 3 % 256 < 256 := Nat.mod_lt _ (by decide)
    have b2 : m / 256 ^ 2 % 256 < 256 := Nat.mod_lt _ (by decide)
    have b1 : m / 256 ^ 1 % 256 < 256 := Nat.mod_lt _ (by decide)
    refine Ev.step (st 2 _ (by decide) (by clear q0 q1 q2 q3; omega) (by clear q0 q1 q2 q3; omega)) ?_
    rw [q2]
    refine Ev.step (st 1 _ (by decide) (by clear q0 q1 q2 q3; omega) (by clear q0 q1 q2 q3; omega)) ?_
    rw [q1]
    refine Ev.step (st 0 _ (by decide) (by clear q0 q1 q2 q3; omega) (by clear q0 q1 q2 q3; omega)) ?_
    rw [q0]
    have e8 : wrap64 (((4 * t : Nat) : Int) + 4) = ((4 * (t + 1) : Nat) : Int) := by clear q0 q1 q2 q3 b1 b2 b3; exact (w64 (by omega) (by omega)).trans (by omega)
    refine Ev.step (fun k => ?_) (limbs_l0 n x hxx hl d (t + 1) (out ++ [((m % 4294967296 : Nat) : Int)]) (by omega) (by omega) (by rw [ho, ← hrd]; exact (take_snoc_int _ t (by omega)).symm))
    have hv : (256 * (256 * (256 * (256 * 0 + ((m / 256 ^ 3 % 256 : Nat) : Int)) + ((m / 256 ^ 2 % 256 : Nat) : Int)) + ((m / 256 ^ 1 % 256 : Nat) : Int)) + ((m / 256 ^ 0 % 256 : Nat) : Int)) % 4294967296 = ((m % 4294967296 : Nat) : Int) := by
      clear q0 q1 q2 q3 b1 b2 b3 hmm hrd hmb st hm e8
      simp only [Nat.reducePow, Nat.div_one]
      omega
    simp only [postmarkref02_Limbs.l1]
    rw [if_neg (by decide), if_pos hol, e8, hv]
theorem limbs_ev (n : Nat) (hl : (digs 256 n).length < 1000000) : Ev (fun k => postmarkref02_Limbs.f k (digs 256 n)) (digs 4294967296 n) := by
  unfold postmarkref02_Limbs.f
  have h := short_ev (digs 256 n) (by omega)
  rw [strip_digs (by decide)] at h
  exact h.bind (limbs_l0 n _ rfl hl _ 0 [] rfl (by omega) (by simp))
theorem may_ev (x y : List Int) (hx : Dg 4294967296 x) (hy : Dg 4294967296 y) (hlx : x.length < 1000000) (hly : y.length < 1000000) :
    Ev (fun k => postmarkref02_May.f k x y) (decide ((strip x).length ≤ 256) && decide ((strip y).length ≤ 256)) := by
  unfold postmarkref02_May.f
  refine (digits_ev x hx hlx).bind ?_
  have h1 := len_max (val 4294967296 x)
  have h2 := len_max (val 4294967296 y)
  rw [digs_val (by decide) hx] at h1
  rw [digs_val (by decide) hy] at h2
  by_cases h : (digs 256 (val 4294967296 x)).length ≤ 1024
  · simp only [show ((digs 256 (val 4294967296 x)).length : Int) ≤ 1024 by omega, if_true]
    refine (digits_ev y hy hly).bind ?_
    have e : decide (((digs 256 (val 4294967296 y)).length : Int) ≤ 1024) = decide ((strip y).length ≤ 256) := by
      rw [decide_eq_decide]
      omega
    simp only [e, show decide ((strip x).length ≤ 256) = true by simp; omega, Bool.true_and]
    exact Ev.now _
  · simp only [show ¬ ((digs 256 (val 4294967296 x)).length : Int) ≤ 1024 by omega, if_false]
    simp only [show decide ((strip x).length ≤ 256) = false by simp; omega, Bool.false_and]
    exact Ev.now _
end Go.Proofs.Ytlifengbicpppaa.G
end
section
namespace Go.Proofs.Ytlifengbicpppaa.G
open Go.RowKit Go.Shelf Go.Proofs.YtlifengbicpppaaW.PrintWords Go.Proofs.YtlifengbicpppaaW.PrintLast Go.Proofs.YtlifengbicpppaaW.PrintMore
section
variable {P : Program} {R : Ending → World → Prop}
theorem calls_marks {f : FuncId} {fn : Func} {c : Code} {args : Array Value} {w : World} (hf : P.funcs[f]? = some fn) (hb : fn.body = some c)
    (h : c.wp P (bodyPostM Fence.wide 3 P fn R) { tmps := args ++ Array.replicate (fn.ntmps - args.size) undef, defers := [] } w) : Calls P f args w R :=
  (callsIn_wide (n := 3)).1 (callsIn_of_wp_marks hf hb trivial (wpIn_wide.2 h) rfl)
theorem post_plain {fn : Func} {t : Array Value} {w : World} {v : Value} (hr : (results fn t).run P w = .ok v w) (h : R (.returned v) w) :
    bodyPostM Fence.wide 3 P fn R .ret { tmps := t, defers := [] } w := ⟨v, hr, h⟩
theorem post_mark {fn : Func} {t : Array Value} {w : World} {D : Nat} {v : Value} (hK : w.heap[D]? = some (.deferred (some []))) (hr : (results fn t).run P (w.putObj D (.deferred none)) = .ok v (w.putObj D (.deferred none)))
    (h : R (.returned v) (w.putObj D (.deferred none))) :
    bodyPostM Fence.wide 3 P fn R .ret { tmps := t, defers := [{ target := .collected D, args := #[] }] } w :=
  ⟨by simp, .inl ⟨_, _, rfl, run_takeDeferred hK, _, hr, h⟩⟩
theorem round_call {f : FuncId} {args : Array Value} {w : World} {n : Nat} (l : Nat) (h : Calls P f args w R) : CallsIn (Fence.wide.inRound l) n P f args w R :=
  CallsIn.inRound l (callsIn_wide.2 h)
/-- What lay in w lies as it lay, the block for deferred calls being newer. -/
theorem below_mark {w W : World} {B D : Nat} (h : Below B w W) (hD : B ≤ D) (hK : W.heap[D]? = some (.deferred (some []))) : Below B w (W.putObj D (.deferred none)) :=
  h.trans ((Below.refl B W).grown (grownBy_putObj' W D _) (by have := (Array.getElem?_eq_some_iff.1 hK).1; omega) (fun k e => by cases e; omega))
/-- The loop's law at the wide fence. -/
theorem wp_rangeFunc {α : Type} {g : Operand} {ps : Array Tmp} {assign body : Code} {Q : Exit → Act → World → Prop} {a : Act} {w : World}
    {gf : Nat} {lb : Array Value} (hg : a.eval g = .func (.func gf) #[] lb) (eg : ∀ args w, (callFunc gf args).run P w = .ok (.enter gf args) w)
    {encs : α → Array Value} {Kp : World → World → Prop} {S Sp : List α → Prop} {N : Nat} {w0 : World} (hseq : SeqStopsK Fence.wide 2 P gf lb encs Kp S Sp N w0)
    (hKt : ∀ {A B C : World}, Kp A B → Kp B C → Kp A C) (hKb : ∀ (W : World) (l : Nat) (o o' : Obj), w.heap.size ≤ l → W.heap[l]? = some o → o.isCells = false → o.isWalk = false → Kp W (W.putObj l o')) (hb0 : Below w0.heap.size w0 w) (hps : ∀ x, (encs x).size = ps.size)
    (I : List α → World → Prop) (Ix : Code → List α → World → Prop) (hI : OwnFrom w.heap.size I) (hIx : ∀ c, OwnFrom w.heap.size (Ix c)) (h0 : I [] w) (Ax : α → Act → World → Prop) (hAx : ∀ x a', OwnFrom w.heap.size (fun (_ : Unit) W => Ax x a' W))
    (hassign : ∀ (l : Nat) (pre : List α) (x : α) (W : World) (K : Act → World → Prop), I pre W → (∀ a' W', KeepsFrom w.heap.size W W' → Kp W W' → I pre W' → Ax x a' W' → K a' W') →
      assign.wpIn (Fence.wide.inRound l) 1 P (Exit.then K (fun _ _ _ => False)) { tmps := (ps.zip (encs x)).foldl (fun t (p, v) => t.setIfInBounds p v) a.tmps, defers := [] } W)
    (hbody : ∀ (l : Nat) (pre : List α) (x : α) (a' : Act) (W : World), w.heap.size ≤ l → (∃ r, W.heap[l]? = some (.loop r)) → I pre W → Ax x a' W → pre.length < N → body.wpIn (Fence.wide.inRound l) 1 P (ownPostG w.heap.size Kp I Ix (pre ++ [x]) W) a' W)
    (hdone : ∀ (D : Nat) (xs : List α) (W : World), w.heap.size ≤ D → S xs → I xs W → W.heap[D]? = some (.deferred (some [])) → Q .normal { a with defers := { target := .collected D, args := #[] } :: a.defers } W)
    (hstop : ∀ (D : Nat) (c : Code) (pre : List α) (W : World), w.heap.size ≤ D → Sp pre → Ix c pre W → W.heap[D]? = some (.deferred (some [])) → c.wp P Q { a with defers := { target := .collected D, args := #[] } :: a.defers } W) :
    (Code.rangeFunc g ps assign body).wp P Q a w :=
  (wpIn_wide (n := 3)).1 (wpIn_rangeFunc_ownH (n := 3) rfl (by decide) hg trivial eg hseq (fun h k => hKt h k) hKb hb0 hps I Ix hI hIx h0 Ax hAx hassign hbody hdone
    (fun D c pre W h1 h2 h3 h4 => wpIn_wide.2 (hstop D c pre W h1 h2 h3 h4)))
/-- .. where the loop's variable lies in a block of its own, which each round makes. -/
theorem wp_rangeFunc_box {α : Type} {g : Operand} {ps : Array Tmp} {assign body : Code} {Q : Exit → Act → World → Prop} {a : Act} {w : World}
    {gf : Nat} {lb : Array Value} (hg : a.eval g = .func (.func gf) #[] lb) (eg : ∀ args w, (callFunc gf args).run P w = .ok (.enter gf args) w)
    {encs : α → Array Value} {Kp : World → World → Prop} {S Sp : List α → Prop} {N : Nat} {w0 : World} (hseq : SeqStopsK Fence.wide 2 P gf lb encs Kp S Sp N w0)
    (hKt : ∀ {A B C : World}, Kp A B → Kp B C → Kp A C) (hKb : ∀ (W : World) (l : Nat) (o o' : Obj), w.heap.size ≤ l → W.heap[l]? = some o → o.isCells = false → o.isWalk = false → Kp W (W.putObj l o')) (hb0 : Below w0.heap.size w0 w) (hps : ∀ x, (encs x).size = ps.size)
    (I : List α → World → Prop) (Ix : Code → List α → World → Prop) (hI : OwnFrom w.heap.size I) (hIx : ∀ c, OwnFrom w.heap.size (Ix c)) (hIs : ∀ pre W, I pre W → w.heap.size ≤ W.heap.size) (hKa : ∀ W o, w.heap.size ≤ W.heap.size → Kp W (W.alloc o)) (h0 : I [] w)
    (cs : α → Array Value) (t : TypeId) (upd : α → Nat → Array Value → Array Value)
    (hassign : ∀ (l : Nat) (x : α) (W : World) (K : Act → World → Prop), K { tmps := upd x W.heap.size a.tmps, defers := [] } (W.alloc (.cells (cs x) t)) →
      assign.wpIn (Fence.wide.inRound l) 1 P (Exit.then K (fun _ _ _ => False)) { tmps := (ps.zip (encs x)).foldl (fun t (p, v) => t.setIfInBounds p v) a.tmps, defers := [] } W)
    (hbody : ∀ (l : Nat) (pre : List α) (x : α) (Bp : Nat) (W : World), w.heap.size ≤ Bp → W.heap[Bp]? = some (.cells (cs x) t (0, 0)) → I pre W → pre.length < N → body.wpIn (Fence.wide.inRound l) 1 P (ownPostG w.heap.size Kp I Ix (pre ++ [x]) W) { tmps := upd x Bp a.tmps, defers := [] } W)
    (hdone : ∀ (D : Nat) (xs : List α) (W : World), w.heap.size ≤ D → S xs → I xs W → W.heap[D]? = some (.deferred (some [])) → Q .normal { a with defers := { target := .collected D, args := #[] } :: a.defers } W)
    (hstop : ∀ (D : Nat) (c : Code) (pre : List α) (W : World), w.heap.size ≤ D → Sp pre → Ix c pre W → W.heap[D]? = some (.deferred (some [])) → c.wp P Q { a with defers := { target := .collected D, args := #[] } :: a.defers } W) :
    (Code.rangeFunc g ps assign body).wp P Q a w := by
  refine wp_rangeFunc hg eg hseq (fun h k => hKt h k) hKb hb0 hps I Ix hI hIx h0 (fun x a' W => ∃ Bp, w.heap.size ≤ Bp ∧ W.heap[Bp]? = some (.cells (cs x) t (0, 0)) ∧ a' = { tmps := upd x Bp a.tmps, defers := [] }) ?_ ?_ ?_ hdone hstop
  · rintro x a' _ W W' row ⟨Bp, h1, h2, h3⟩ hg hr
    refine ⟨Bp, h1, (hg.block Bp (Array.getElem?_eq_some_iff.1 h2).1 (fun e => ?_)).trans h2, h3⟩
    obtain ⟨_, o, ho, hc⟩ := hr Bp e.symm
    rw [h2] at ho
    cases ho
    cases hc
  · intro l pre x W K hi hK
    have hs := hIs pre W hi
    exact hassign l x W K (hK _ _ ((KeepsOthers.alloc W _).from _) (hKa W _ hs) (hI.alloc _ hi) ⟨W.heap.size, hs, World.alloc_heap_new W _, rfl⟩)
  · rintro l pre x a' W _ _ hi ⟨Bp, h1, h2, rfl⟩ hlt
    exact hbody l pre x Bp W h1 h2 hi hlt
/-- .. where it lies in no block. -/
theorem wp_rangeFunc_plain {α : Type} {g : Operand} {ps : Array Tmp} {assign body : Code} {Q : Exit → Act → World → Prop} {a : Act} {w : World}
    {gf : Nat} {lb : Array Value} (hg : a.eval g = .func (.func gf) #[] lb) (eg : ∀ args w, (callFunc gf args).run P w = .ok (.enter gf args) w)
    {encs : α → Array Value} {Kp : World → World → Prop} {S Sp : List α → Prop} {N : Nat} {w0 : World} (hseq : SeqStopsK Fence.wide 2 P gf lb encs Kp S Sp N w0)
    (hKt : ∀ {A B C : World}, Kp A B → Kp B C → Kp A C) (hKb : ∀ (W : World) (l : Nat) (o o' : Obj), w.heap.size ≤ l → W.heap[l]? = some o → o.isCells = false → o.isWalk = false → Kp W (W.putObj l o')) (hKr : ∀ W, Kp W W) (hb0 : Below w0.heap.size w0 w) (hps : ∀ x, (encs x).size = ps.size)
    (I : List α → World → Prop) (Ix : Code → List α → World → Prop) (hI : OwnFrom w.heap.size I) (hIx : ∀ c, OwnFrom w.heap.size (Ix c)) (h0 : I [] w)
    (upd : α → Array Value → Array Value)
    (hassign : ∀ (l : Nat) (x : α) (W : World) (K : Act → World → Prop), K { tmps := upd x a.tmps, defers := [] } W →
      assign.wpIn (Fence.wide.inRound l) 1 P (Exit.then K (fun _ _ _ => False)) { tmps := (ps.zip (encs x)).foldl (fun t (p, v) => t.setIfInBounds p v) a.tmps, defers := [] } W)
    (hbody : ∀ (l : Nat) (pre : List α) (x : α) (W : World), I pre W → pre.length < N → body.wpIn (Fence.wide.inRound l) 1 P (ownPostG w.heap.size Kp I Ix (pre ++ [x]) W) { tmps := upd x a.tmps, defers := [] } W)
    (hdone : ∀ (D : Nat) (xs : List α) (W : World), w.heap.size ≤ D → S xs → I xs W → W.heap[D]? = some (.deferred (some [])) → Q .normal { a with defers := { target := .collected D, args := #[] } :: a.defers } W)
    (hstop : ∀ (D : Nat) (c : Code) (pre : List α) (W : World), w.heap.size ≤ D → Sp pre → Ix c pre W → W.heap[D]? = some (.deferred (some [])) → c.wp P Q { a with defers := { target := .collected D, args := #[] } :: a.defers } W) :
    (Code.rangeFunc g ps assign body).wp P Q a w := by
  refine wp_rangeFunc hg eg hseq (fun h k => hKt h k) hKb hb0 hps I Ix hI hIx h0 (fun x a' W => a' = { tmps := upd x a.tmps, defers := [] }) ?_ ?_ ?_ hdone hstop
  · rintro x a' _ W W' row h3 hg hr
    exact h3
  · intro l pre x W K hi hK
    exact hassign l x W K (hK _ _ (KeepsFrom.refl _ _) (hKr W) hi rfl)
  · rintro l pre x a' W _ _ hi rfl hlt
    exact hbody l pre x W hi hlt
end
section
variable {W W' : World} {A : Option Addr} {n B : Nat} {xs : List Int} {k : IntKind} {t : TypeId} {v : Value}
theorem C_lt (h : Kd.C (Kd.int k) W A n xs) : ∀ ad, A = some ad → 0 < n → ad.block < W.heap.size := by
  intro ad hA hn
  obtain ⟨ad', hA', hc⟩ := Kd.at_int h 0 (by omega) (by omega)
  rw [hA] at hA'
  cases hA'
  have := World.block_lt_of_cell? W _ hc
  rwa [show (ad.add (Int.toNat 0)).block = ad.block by unfold Addr.add; split <;> rfl] at this
theorem C_ne (h : Kd.C (Kd.int k) W A n xs) (hb : Boxed W B t v) (hv : ∀ x, v ≠ .int k x) : ∀ ad, A = some ad → 0 < n → ad.block ≠ B := by
  rintro ad hA hn rfl
  obtain ⟨ad', hA', hc⟩ := Kd.at_int h 0 (by omega) (by omega)
  rw [hA] at hA'
  cases hA'
  unfold World.cell? at hc
  rw [show (ad.add (Int.toNat 0)).block = ad.block by unfold Addr.add; split <;> rfl, show W.heap[ad.block]? = _ from hb] at hc
  simp only at hc
  split at hc
  · cases hc
  · rcases Nat.eq_zero_or_pos (ad.add (Int.toNat 0)).off with h0 | h0
    · rw [h0] at hc
      simp at hc
      exact hv _ hc
    · rw [Array.getElem?_eq_none (Nat.succ_le_of_lt h0)] at hc
      cases hc
theorem C_same (h : Kd.C (Kd.int k) W A n xs) (hk : ∀ ad, A = some ad → 0 < n → ∀ j, W'.cell? (ad.add j) = W.cell? (ad.add j)) : Kd.C (Kd.int k) W' A n xs := by
  have hr := Kd.reads_of_C (enc := Value.int k) (d := (0 : Int)) (h1 := fun _ => rfl) h
  refine Kd.C_of_reads (enc := Value.int k) (d := (0 : Int)) (h1 := fun _ => rfl) ⟨hr.1, hr.2.1, fun hn => ?_⟩
  obtain ⟨ad, hA, hc⟩ := hr.2.2 hn
  exact ⟨ad, hA, fun j hj => (hk ad hA hn j).trans (hc j hj)⟩
theorem C_set (h : Kd.C (Kd.int k) W A n xs) (hne : ∀ ad, A = some ad → 0 < n → ad.block ≠ B) (u : Value) : Kd.C (Kd.int k) (W.setCell ⟨B, 0, none⟩ u) A n xs :=
  C_same h (fun ad hA hn j => World.cell?_setCell_other W _ _ _ (fun e => hne ad hA hn (by
    have : (ad.add j).block = ad.block := by unfold Addr.add; split <;> rfl
    rw [← this]
    rw [← e])))
theorem drewN_keeps (V : World) (n : Nat) : KeepsOthers V (V.drewN n) := ⟨Nat.le_refl _, fun _ _ hk _ => hk⟩
theorem set_keeps (V : World) (n : Nat) (p : Addr) (u : Value) : KeepsOthers V ((V.drewN n).setCell p u) := (drewN_keeps V n).trans (KeepsOthers.setCell _ _ _)
theorem set_below (V : World) (n : Nat) {m : Nat} {p : Addr} (h : m ≤ p.block) (u : Value) : Below m V ((V.drewN n).setCell p u) := (pw_below_drewN (Below.refl m V) n).setCell h u
theorem set_heap (V : World) (n : Nat) {p : Addr} (u : Value) {k : Nat} (h : k ≠ p.block) : ((V.drewN n).setCell p u).heap[k]? = V.heap[k]? := Below.heap_setCell (V.drewN n) p u k h
/-- 'out, carry = append(out, n), c', both in blocks of their own: what is owed behind it. -/
theorem carry_appended {V w1 : World} {n₀ H Bo Bc : Nat} {v v' : Value} {k m : Nat} {xs ys : List Value} {tmp : Obj} {c : Value} (c' : Value)
    (hv : Boxed V Bo 46 v) (hc : Boxed V Bc 75 c) (hne : Bo ≠ Bc) (hrow : V.ownsRow H 75 1 v k xs) (hoH : Bo < H) (hcH : Bc < H) (hH : H ≤ V.heap.size) (hn : n₀ ≤ Bo) (hn' : n₀ ≤ Bc)
    (hown' : w1.ownsRow H 75 1 v' m ys) (hgrow : (V.alloc tmp).grownBy w1 v.ownBlock) :
    Boxed w1 Bo 46 v ∧ Boxed (w1.setCell ⟨Bo, 0, none⟩ v') Bc 75 c ∧ Boxed ((w1.setCell ⟨Bo, 0, none⟩ v').setCell ⟨Bc, 0, none⟩ c') Bo 46 v' ∧ Boxed ((w1.setCell ⟨Bo, 0, none⟩ v').setCell ⟨Bc, 0, none⟩ c') Bc 75 c' ∧
      ((w1.setCell ⟨Bo, 0, none⟩ v').setCell ⟨Bc, 0, none⟩ c').ownsRow H 75 1 v' m ys ∧ KeepsOthers V ((w1.setCell ⟨Bo, 0, none⟩ v').setCell ⟨Bc, 0, none⟩ c') ∧ Below n₀ V ((w1.setCell ⟨Bo, 0, none⟩ v').setCell ⟨Bc, 0, none⟩ c') ∧
      (∀ j, j < H → j ≠ Bo → j ≠ Bc → ((w1.setCell ⟨Bo, 0, none⟩ v').setCell ⟨Bc, 0, none⟩ c').heap[j]? = V.heap[j]?) ∧ V.heap.size ≤ ((w1.setCell ⟨Bo, 0, none⟩ v').setCell ⟨Bc, 0, none⟩ c').heap.size := by
  have hrb : ∀ j, v.ownBlock = some j → H ≤ j := own_base hrow
  have hrb' : ∀ j, v'.ownBlock = some j → H ≤ j := own_base hown'
  have hv1 : Boxed w1 Bo 46 v := (hv.alloc tmp).kept hgrow (fun e => by have := hrb _ e.symm; omega)
  have hc1 : Boxed w1 Bc 75 c := (hc.alloc tmp).kept hgrow (fun e => by have := hrb _ e.symm; omega)
  have hc2 : Boxed (w1.setCell ⟨Bo, 0, none⟩ v') Bc 75 c := hc1.other (Ne.symm hne) v'
  refine ⟨hv1, hc2, (hv1.set v').other hne c', hc2.set c', ?_, ?_, ?_, ?_, ?_⟩
  · refine (hown'.kept (grownBy_setCell' w1 Bo v') ?_).kept (grownBy_setCell' _ Bc c') ?_
    · right; intro e; have := hrb' _ e; omega
    · right; intro e; have := hrb' _ e; omega
  · refine (((KeepsOthers.alloc V tmp).trans (KeepsOthers.of_grownBy hgrow fun j o ej hj => ?_)).trans (KeepsOthers.setCell _ _ _)).trans (KeepsOthers.setCell _ _ _)
    rcases (hrow.alloc tmp).2 with ⟨rfl, _⟩ | ⟨g, cap, cur, rfl, _, hgb, _⟩
    · simp [Value.ownBlock] at ej
    · obtain rfl : g = j := by simpa [Value.ownBlock] using ej
      rw [hgb] at hj; cases hj; rfl
  · exact ((((Below.refl n₀ V).alloc (by omega) tmp).grown hgrow (by simp; omega) (fun j ej => by have := hrb j ej; omega)).setCell (p := ⟨Bo, 0, none⟩) hn v').setCell (p := ⟨Bc, 0, none⟩) hn' c'
  · intro j hj h1 h2
    rw [Below.heap_setCell _ ⟨Bc, 0, none⟩ _ _ h2, Below.heap_setCell _ ⟨Bo, 0, none⟩ _ _ h1, hgrow.block j (by simp; omega) (fun e => by have := hrb _ e.symm; omega)]
    exact Below.heap_alloc V tmp j (by omega)
  · have := hgrow.size
    simp only [World.size_alloc] at this
    simp only [World.setCell, Array.size_modify]
    omega
/-- Two naturals, as the one slice that a call of several makes. -/
theorem C_two (w : World) {A0 A1 : Option Addr} {c0 c1 : Nat} {l0 l1 : List Int} (h0 : Kd.C (Kd.int .u32) w A0 l0.length l0) (hc0 : l0.length ≤ c0) (h1 : Kd.C (Kd.int .u32) w A1 l1.length l1) (hc1 : l1.length ≤ c1) :
    Kd.C (Kd.slice 75 (Kd.int .u32)) (w.alloc (.cells #[.slice A0 l0.length c0, .slice A1 l1.length c1] 46)) (some ⟨w.heap.size, 0, none⟩) [l0, l1].length [l0, l1] := by
  refine ⟨rfl, by simp, fun _ => ⟨_, rfl, fun j p hp => ?_⟩⟩
  have hcell : ∀ (j : Nat) (u : Value), (#[Value.slice A0 l0.length c0, Value.slice A1 l1.length c1] : Array Value)[j]? = some u → (w.alloc (.cells #[.slice A0 l0.length c0, .slice A1 l1.length c1] 46)).cell? ((⟨w.heap.size, 0, none⟩ : Addr).add j) = some u := fun j u hu => by
    rw [add_plain]
    simp only [World.cell?, World.alloc_heap_new]
    simpa using hu
  match j with
  | 0 =>
    cases hp
    exact ⟨[_], rfl, ⟨A0, c0, rfl, hc0, Kd.C_alloc h0 _⟩, fun i u hu => by
      match i with
      | 0 => cases hu; exact hcell 0 _ rfl
      | i + 1 => simp at hu⟩
  | 1 =>
    cases hp
    exact ⟨[_], rfl, ⟨A1, c1, rfl, hc1, Kd.C_alloc h1 _⟩, fun i u hu => by
      match i with
      | 0 => cases hu; exact hcell 1 _ rfl
      | i + 1 => simp at hu⟩
  | j + 2 => simp at hp
/-- A row of one's own, behind the turn of the block for deferred calls. -/
theorem R_putObj {w : World} {base D : Nat} {ok : Nat → Prop} {v : Value} {xs : List Int} {k : IntKind} {e : Nat} (h : Kd.R (Kd.int k) e w base ok v xs) (hK : w.heap[D]? = some (.deferred (some []))) :
    Kd.R (Kd.int k) e (w.putObj D (.deferred none)) base ok v xs := by
  refine Kd.R_grown1 h rfl (grownBy_putObj' w D _) (fun hk => ?_)
  obtain ⟨cs, hcs⟩ := Kd.R_typed h D hk.symm
  rw [hK] at hcs
  cases hcs
end
end Go.Proofs.Ytlifengbicpppaa.G
end
section
namespace Go.Proofs.Ytlifengbicpppaa.G
open Go.RowKit Go.Proofs.YtlifengbicpppaaW.PrintWords Go.Proofs.YtlifengbicpppaaW.PrintLast Go.Proofs.YtlifengbicpppaaW.PrintMore
/-- A limb of a difference, and what is borrowed. -/
def sb32 (a b c : Int) : Int × Int := ((a - b - c) % 4294967296, bits .or .u32 (bits .and .u32 (bits .xor .u32 IntKind.u32.max a) b) (bits .and .u32 (bits .xor .u32 IntKind.u32.max (bits .xor .u32 a b)) ((a - b - c) % 4294967296)) / 2147483648)
set_option maxHeartbeats 400000 in
set_option maxRecDepth 100000 in
theorem bits_Sub32_any (a b c p q : Int) (w : World) (h : sb32 a b c = (p, q)) :
    Calls Try.prog 127 #[.int .u32 a, .int .u32 b, .int .u32 c] w fun e w' => e = .returned (.tuple #[.int .u32 p, .int .u32 q]) ∧ w = w' := by
  obtain ⟨rfl, rfl⟩ : (sb32 a b c).1 = p ∧ (sb32 a b c).2 = q := by rw [h]; exact ⟨rfl, rfl⟩
  clear h
  go_enter Try.func127, Try.ntmps127
  go_wp2
  go_ret2
  exact ⟨rfl, rfl⟩
theorem top_lt (n : Nat) (h : n < 4294967296) : n >>> 31 = 0 ∨ n >>> 31 = 1 := by rw [Nat.shiftRight_eq_div_pow]; omega
/-- What it is. -/
theorem sb32_eq {a b c : Int} (ha : 0 ≤ a) (ha' : a < 4294967296) (hb : 0 ≤ b) (hb' : b < 4294967296) (hc : c = 0 ∨ c = 1) :
    sb32 a b c = ((a - b - c) % 4294967296, if a < b + c then 1 else 0) := by
  unfold sb32
  congr 1
  obtain ⟨A, rfl⟩ := Int.eq_ofNat_of_zero_le ha
  obtain ⟨B, rfl⟩ := Int.eq_ofNat_of_zero_le hb
  obtain ⟨D, hD⟩ := Int.eq_ofNat_of_zero_le (show 0 ≤ ((A : Int) - B - c) % 4294967296 by omega)
  have hA : A < 4294967296 := by omega
  have hB : B < 4294967296 := by omega
  have hDl : D < 4294967296 := by omega
  rw [hD, show IntKind.u32.max = ((4294967295 : Nat) : Int) from rfl]
  rw [u32_xor_nat _ _ (by decide) hA, u32_and_nat _ _ (Nat.xor_lt_two_pow (n := 32) (by decide) hA) hB, u32_xor_nat _ _ hA hB,
    u32_xor_nat _ _ (by decide) (Nat.xor_lt_two_pow (n := 32) hA hB), u32_and_nat _ _ (Nat.xor_lt_two_pow (n := 32) (by decide) (Nat.xor_lt_two_pow (n := 32) hA hB)) hDl,
    u32_or_nat _ _ (Nat.and_lt_two_pow (n := 32) _ hB) (Nat.and_lt_two_pow (n := 32) _ hDl)]
  have key : (((4294967295 ^^^ A) &&& B) ||| ((4294967295 ^^^ (A ^^^ B)) &&& D)) >>> 31 = ((1 ^^^ (A >>> 31)) &&& (B >>> 31)) ||| ((1 ^^^ ((A >>> 31) ^^^ (B >>> 31))) &&& (D >>> 31)) := by
    simp only [Nat.shiftRight_or_distrib, Nat.shiftRight_and_distrib, Nat.shiftRight_xor_distrib]
    rfl
  rw [Nat.shiftRight_eq_div_pow] at key
  have e : ((((((4294967295 ^^^ A) &&& B) ||| ((4294967295 ^^^ (A ^^^ B)) &&& D) : Nat)) : Int) / 2147483648) = ((((((4294967295 ^^^ A) &&& B) ||| ((4294967295 ^^^ (A ^^^ B)) &&& D) : Nat)) / 2 ^ 31 : Nat) : Int) := by
    rw [Int.natCast_ediv]; rfl
  rw [e, key]
  have tA := top_lt A hA
  have tB := top_lt B hB
  have tD := top_lt D hDl
  have dA : A >>> 31 = A / 2147483648 := by rw [Nat.shiftRight_eq_div_pow]
  have dB : B >>> 31 = B / 2147483648 := by rw [Nat.shiftRight_eq_div_pow]
  have dD : D >>> 31 = D / 2147483648 := by rw [Nat.shiftRight_eq_div_pow]
  rcases tA with tA | tA <;> rcases tB with tB | tB <;> rcases tD with tD | tD <;> rw [tA, tB, tD] <;> simp <;> omega
end Go.Proofs.Ytlifengbicpppaa.G
end
section
namespace Go.Proofs.Ytlifengbicpppaa.G
open Go.RowKit Go.Shelf Go.Proofs.YtlifengbicpppaaW.PrintWords Go.Proofs.YtlifengbicpppaaW.PrintLast Go.Proofs.YtlifengbicpppaaW.PrintMore
open Go.Proofs.Ytlifengbicpppaa.Num
attribute [local go_sem] Oper.semAt_some
attribute [local go_sem] max2_int min2_int max_two min_two
/-- What the loop's body keeps: what lay below n₀, and the two variables of the iterator. -/
def KpB (n₀ B : Nat) (W W' : World) : Prop := Below n₀ W W' ∧ W'.heap[B]? = W.heap[B]? ∧ W'.heap[B + 1]? = W.heap[B + 1]?
theorem KpB.trans {n₀ B : Nat} {A C D : World} (h : KpB n₀ B A C) (k : KpB n₀ B C D) : KpB n₀ B A D := ⟨h.1.trans k.1, k.2.1.trans h.2.1, k.2.2.trans h.2.2⟩
/-- What has come when k rounds are over. -/
def besf (xs ys : List Int) (i : Nat) : Nat × Int × Int := (i, xs[i]?.getD 0, ys[i]?.getD 0)
def bes (xs ys : List Int) (k : Nat) : List (Nat × Int × Int) := (List.range k).map (besf xs ys)
theorem bes_succ (xs ys : List Int) (k : Nat) : bes xs ys (k + 1) = bes xs ys k ++ [besf xs ys k] := by simp [bes, List.range_succ]
theorem bes_length (xs ys : List Int) (k : Nat) : (bes xs ys k).length = k := by simp [bes]
def encB (x : Nat × Int × Int) : Array Value := #[.int .i64 (x.1 : Int), .agg #[.int .u32 x.2.1, .int .u32 x.2.2]]
set_option maxHeartbeats 1000000 in
theorem beside_any (A0 A1 : Option Addr) (n0 n1 c0 c1 : Nat) (w : World) :
    Calls Try.prog 112 #[.slice A0 n0 c0, .slice A1 n1 c1] w fun e w' => e = .returned (.func (.func 135) #[] #[.pointer (some ⟨w.heap.size, 0, none⟩), .pointer (some ⟨w.heap.size + 1, 0, none⟩)]) ∧ w' = (w.alloc (.cells #[.slice A0 n0 c0] 46)).alloc (.cells #[.slice A1 n1 c1] 46) := by
  go_enter Try.func112, Try.ntmps112
  go_wp2
  go_ret
  exact ⟨rfl, rfl⟩
set_option maxHeartbeats 4000000 in
set_option maxRecDepth 100000 in
theorem beside1_in (F : Fence) (n : Nat) (h7 : F.fn 135) (hro : F.round = none) (hn : 1 ≤ n) (l B n₀ : Nat) (A0 A1 : Option Addr) (c0 c1 : Nat) (xs ys : List Int)
    (hx0 : ∀ ad, A0 = some ad → 0 < xs.length → ad.block < n₀) (hy0 : ∀ ad, A1 = some ad → 0 < ys.length → ad.block < n₀) (J Jx : List (Nat × Int × Int) → World → Prop)
    (hY : ∀ pre x W, J pre W → pre.length < max xs.length ys.length → YieldAt F (n - 1) Try.prog l (encB x) W fun e W' =>
      (e = .returned (.bool true) ∧ J (pre ++ [x]) W' ∧ KpB n₀ B W W') ∨ (e = .returned (.bool false) ∧ Jx (pre ++ [x]) W'))
    (W : World) (hJ : AbidesFrom W.heap.size J) (hBlt : B + 1 < W.heap.size) (hn₀ : n₀ ≤ W.heap.size)
    (hB0 : W.heap[B]? = some (.cells #[.slice A0 xs.length c0] 46 (0, 0))) (hB1 : W.heap[B + 1]? = some (.cells #[.slice A1 ys.length c1] 46 (0, 0)))
    (hx : Kd.C (Kd.int .u32) W A0 xs.length xs) (hy : Kd.C (Kd.int .u32) W A1 ys.length ys) (h0 : J [] W) :
    CallsIn F n Try.prog 135 #[.func (.yield l) #[] #[], .pointer (some ⟨B, 0, none⟩), .pointer (some ⟨B + 1, 0, none⟩)] W fun e W' => (∃ v, e = .returned v) ∧
      ((∃ zs, zs = bes xs ys (max xs.length ys.length) ∧ J zs W') ∨ (∃ pre, (∃ k, k ≤ max xs.length ys.length ∧ pre = bes xs ys k) ∧ Jx pre W')) := by
  have cB0 : W.cell? ⟨B, 0, none⟩ = some (.slice A0 xs.length c0) := by simp [World.cell?, hB0]
  have cB1 : W.cell? ⟨B + 1, 0, none⟩ = some (.slice A1 ys.length c1) := by simp [World.cell?, hB1]
  have hmx := hx.2.1
  have hmy := hy.2.1
  obtain ⟨N, hN⟩ : ∃ N : Nat, N = max xs.length ys.length := ⟨_, rfl⟩
  have hNx : xs.length ≤ N := by omega
  have hNy : ys.length ≤ N := by omega
  have hNm : N ≤ 9223372036854775807 := by omega
  have hM : ∀ ats ty, Builtin.max_ ats ty #[.int .i64 (xs.length : Int), .int .i64 (ys.length : Int)] = pure (.int .i64 (N : Int)) := by
    intro ats ty
    rw [max_two, max2_int]
    simp only [pure_bind]
    congr 2
    split <;> omega
  rw [← hN] at hY ⊢
  have HN := Aside0.mk hN
  clear hN
  refine callsIn_of_wp Try.func135 rfl h7 ?_ hro
  simp only [Try.ntmps135, List.size_toArray, List.length_cons, List.length_nil, Nat.reduceAdd, Nat.reduceSub, Array.replicate_succ, Array.replicate_zero, List.push_toArray, List.append_toArray, List.nil_append, List.cons_append]
  gi_wp2
  clear hM
  gi_loopw [11] (fun i wr => ∃ k : Nat, k ≤ N ∧ i = .int .i64 k ∧ Aside0 (J (bes xs ys k) wr) ∧ Aside0 (KpB n₀ B W wr)) (fun i _ => N - (intOf i).toNat)
  case atStart => exact ⟨0, Nat.zero_le _, rfl, ⟨h0⟩, ⟨Below.refl _ _, rfl, rfl⟩⟩
  case round =>
    obtain ⟨k, hk, rfl, HJ, HK⟩ := hrel
    have hsz := HK.out.1.size
    have b0 : wr.heap[B]? = some (.cells #[.slice A0 xs.length c0] 46 (0, 0)) := HK.out.2.1.trans hB0
    have b1 : wr.heap[B + 1]? = some (.cells #[.slice A1 ys.length c1] 46 (0, 0)) := HK.out.2.2.trans hB1
    have dB0 : ∀ o, (wr.alloc o).cell? ⟨B, 0, none⟩ = some (.slice A0 xs.length c0) := fun o => by
      have : (wr.alloc o).heap[B]? = some (.cells #[.slice A0 xs.length c0] 46 (0, 0)) := (Below.heap_alloc wr o B (by have := (Array.getElem?_eq_some_iff.1 b0).1; omega)).trans b0
      simp [World.cell?, this]
    have dB1 : ∀ o, (wr.alloc o).cell? ⟨B + 1, 0, none⟩ = some (.slice A1 ys.length c1) := fun o => by
      have : (wr.alloc o).heap[B + 1]? = some (.cells #[.slice A1 ys.length c1] 46 (0, 0)) := (Below.heap_alloc wr o (B + 1) (by have := (Array.getElem?_eq_some_iff.1 b1).1; omega)).trans b1
      simp [World.cell?, this]
    clear b0 b1 cB0 cB1
    have addb : ∀ (ad : Addr) (j : Nat), (ad.add j).block = ad.block := fun ad j => by unfold Addr.add; split <;> rfl
    by_cases hlt : k < N
    · have HY := Aside0.mk (hY _ (besf xs ys k) (wr.alloc (.cells #[.int .u32 (xs[k]?.getD 0), .int .u32 (ys[k]?.getD 0)] 132)) (hJ _ _ _ none HJ.out (World.grownBy_alloc wr _ none) (by simp)) (by rw [bes_length]; exact hlt))
      have fx : k < xs.length → ∃ ad, A0 = some ad ∧ ∀ o, (wr.alloc o).cell? (ad.add k) = some (.int .u32 (xs[k]?.getD 0)) := fun h => by
        obtain ⟨ad, rfl, hc⟩ := Kd.at_int hx (k : Int) (by omega) (by omega)
        refine ⟨ad, rfl, fun o => ?_⟩
        have h1 := hx0 ad rfl (by omega)
        have h2 : wr.cell? (ad.add k) = W.cell? (ad.add k) := HK.out.1.cell (by rw [addb]; exact h1)
        rw [World.cell?_alloc_lt wr o _ (by rw [addb]; omega), h2]
        simpa [rd, List.getD_eq_getElem?_getD] using hc
      have fy : k < ys.length → ∃ ad, A1 = some ad ∧ ∀ o, (wr.alloc o).cell? (ad.add k) = some (.int .u32 (ys[k]?.getD 0)) := fun h => by
        obtain ⟨ad, rfl, hc⟩ := Kd.at_int hy (k : Int) (by omega) (by omega)
        refine ⟨ad, rfl, fun o => ?_⟩
        have h1 := hy0 ad rfl (by omega)
        have h2 : wr.cell? (ad.add k) = W.cell? (ad.add k) := HK.out.1.cell (by rw [addb]; exact h1)
        rw [World.cell?_alloc_lt wr o _ (by rw [addb]; omega), h2]
        simpa [rd, List.getD_eq_getElem?_getD] using hc
      have hKa : ∀ o, KpB n₀ B wr (wr.alloc o) := fun o => ⟨(Below.refl n₀ wr).alloc (by omega) o, Below.heap_alloc wr o B (by omega), Below.heap_alloc wr o (B + 1) (by omega)⟩
      have HKa := Aside0.mk hKa
      clear hKa addb hJ hx hy
      obtain ⟨fn, tmps, assign, body, hy, hR⟩ := HY.out
      dsimp only [encB, besf] at hy
      clear HY hx0 hy0 hmx hmy
      by_cases h1 : k < xs.length <;> by_cases h2 : k < ys.length
      · obtain ⟨a0, rfl, f0⟩ := fx h1
        obtain ⟨a1, rfl, f1⟩ := fy h2
        clear fx fy
        generalize xs[k]?.getD 0 = x at f0 hy hR
        generalize ys[k]?.getD 0 = y at f1 hy hR
        gi_wp2
        refine hR.mono ?_
        clear hR hy f0 f1
        rintro e W3 (⟨rfl, hJ3, hk3⟩ | ⟨rfl, hJx3⟩)
        · have HJ3 := Aside0.mk hJ3
          have HK3 := Aside0.mk ((HK.out.trans (HKa.out _)).trans hk3)
          clear hJ3 hk3
          gi_wp2
          go_roundw
          case rel => exact ⟨k + 1, by omega, by simp, ⟨by rw [bes_succ]; exact HJ3.out⟩, HK3⟩
          case measure => simp [intOf]; omega
        · have HJ3 := Aside0.mk hJx3
          clear hJx3
          gi_wp2
          refine bodyPost_ret (results_none rfl _ _ _) rfl ?_
          exact ⟨⟨_, rfl⟩, .inr ⟨_, ⟨k + 1, by omega, (bes_succ _ _ _).symm⟩, HJ3.out⟩⟩
      · obtain ⟨a0, rfl, f0⟩ := fx h1
        have e2 : ys[k]?.getD 0 = 0 := by rw [List.getElem?_eq_none (by omega)]; rfl
        clear fx fy
        rw [e2] at hy hR
        generalize xs[k]?.getD 0 = x at f0 hy hR
        clear e2
        gi_wp2
        refine hR.mono ?_
        clear hR hy f0
        rintro e W3 (⟨rfl, hJ3, hk3⟩ | ⟨rfl, hJx3⟩)
        · have HJ3 := Aside0.mk hJ3
          have HK3 := Aside0.mk ((HK.out.trans (HKa.out _)).trans hk3)
          clear hJ3 hk3
          gi_wp2
          go_roundw
          case rel => exact ⟨k + 1, by omega, by simp, ⟨by rw [bes_succ]; exact HJ3.out⟩, HK3⟩
          case measure => simp [intOf]; omega
        · have HJ3 := Aside0.mk hJx3
          clear hJx3
          gi_wp2
          refine bodyPost_ret (results_none rfl _ _ _) rfl ?_
          exact ⟨⟨_, rfl⟩, .inr ⟨_, ⟨k + 1, by omega, (bes_succ _ _ _).symm⟩, HJ3.out⟩⟩
      · obtain ⟨a1, rfl, f1⟩ := fy h2
        have e2 : xs[k]?.getD 0 = 0 := by rw [List.getElem?_eq_none (by omega)]; rfl
        clear fx fy
        rw [e2] at hy hR
        generalize ys[k]?.getD 0 = y at f1 hy hR
        clear e2
        gi_wp2
        refine hR.mono ?_
        clear hR hy f1
        rintro e W3 (⟨rfl, hJ3, hk3⟩ | ⟨rfl, hJx3⟩)
        · have HJ3 := Aside0.mk hJ3
          have HK3 := Aside0.mk ((HK.out.trans (HKa.out _)).trans hk3)
          clear hJ3 hk3
          gi_wp2
          go_roundw
          case rel => exact ⟨k + 1, by omega, by simp, ⟨by rw [bes_succ]; exact HJ3.out⟩, HK3⟩
          case measure => simp [intOf]; omega
        · have HJ3 := Aside0.mk hJx3
          clear hJx3
          gi_wp2
          refine bodyPost_ret (results_none rfl _ _ _) rfl ?_
          exact ⟨⟨_, rfl⟩, .inr ⟨_, ⟨k + 1, by omega, (bes_succ _ _ _).symm⟩, HJ3.out⟩⟩
      · exact absurd HN.out (by omega)
    · obtain rfl : k = N := by omega
      gi_wp2
      go_end0
      exact ⟨⟨_, rfl⟩, .inl ⟨_, rfl, HJ.out⟩⟩
/-- beside's answer, as an iterator. -/
theorem beside_stops (F : Fence) (n : Nat) (h7 : F.fn 135) (hro : F.round = none) (hn : 1 ≤ n) (B n₀ : Nat) (A0 A1 : Option Addr) (c0 c1 : Nat) (xs ys : List Int)
    (hx0 : ∀ ad, A0 = some ad → 0 < xs.length → ad.block < n₀) (hy0 : ∀ ad, A1 = some ad → 0 < ys.length → ad.block < n₀) (w : World) (hBlt : B + 1 < w.heap.size) (hn₀ : n₀ ≤ w.heap.size)
    (hB0 : w.heap[B]? = some (.cells #[.slice A0 xs.length c0] 46 (0, 0))) (hB1 : w.heap[B + 1]? = some (.cells #[.slice A1 ys.length c1] 46 (0, 0)))
    (hx : Kd.C (Kd.int .u32) w A0 xs.length xs) (hy : Kd.C (Kd.int .u32) w A1 ys.length ys) :
    SeqStopsK F n Try.prog 135 #[.pointer (some ⟨B, 0, none⟩), .pointer (some ⟨B + 1, 0, none⟩)] encB (KpB n₀ B) (fun zs => zs = bes xs ys (max xs.length ys.length))
      (fun pre => ∃ k, k ≤ max xs.length ys.length ∧ pre = bes xs ys k) (max xs.length ys.length) w := fun l J Jx W hW hJ _ hY h0 =>
  beside1_in F n h7 hro hn l B n₀ A0 A1 c0 c1 xs ys hx0 hy0 J Jx hY W hJ (by have := hW.size; omega) (Nat.le_trans hn₀ hW.size) ((hW.block B (by omega)).trans hB0) ((hW.block (B + 1) (by omega)).trans hB1) (Kd.C_below hx hW) (Kd.C_below hy hW) h0
theorem KpB_b {n₀ B : Nat} {w : World} (hn : n₀ ≤ w.heap.size) (hB : B + 1 < w.heap.size) (W : World) (l : Nat) (o o' : Obj) (hl : w.heap.size ≤ l) (h : W.heap[l]? = some o) (h1 : o.isCells = false) (h2 : o.isWalk = false) : KpB n₀ B W (W.putObj l o') :=
  ⟨belowK_b hn W l o o' hl h h1 h2, World.putObj_heap_other (by omega), World.putObj_heap_other (by omega)⟩
end Go.Proofs.Ytlifengbicpppaa.G
end
section
namespace Go.Proofs.Ytlifengbicpppaa.G
open Go.RowKit Go.Proofs.YtlifengbicpppaaW.PrintWords Go.Proofs.YtlifengbicpppaaW.PrintLast Go.Proofs.YtlifengbicpppaaW.PrintMore
open Go.Proofs.Ytlifengbicpppaa.Num
/-- Has it too many limbs? -/
def fits256 (l : List Int) : Bool := decide (256 < (strip l).length)
theorem fits_dec (l : List Int) : decide ((256 : Int) < ((strip l).length : Int)) = fits256 l := by
  unfold fits256; by_cases h : 256 < (strip l).length <;> simp [h] <;> omega
set_option maxHeartbeats 400000 in
set_option maxRecDepth 100000 in
theorem may1_any (A0 : Option Addr) (c0 : Nat) (l0 : List Int) (w : World) (hr0 : Kd.C (Kd.int .u32) w A0 l0.length l0) (hc0 : l0.length ≤ c0) :
    Calls Try.prog 133 #[.slice A0 l0.length c0] w fun e w' => e = .returned (.bool (fits256 l0)) ∧ Below w.heap.size w w' := by
  have HC := Aside0.mk (fun W (h : Below w.heap.size w W) => bare_read A0 c0 l0 W (Kd.C_below hr0 h) hc0)
  have HB := Aside0.mk (Below.refl w.heap.size w)
  clear hr0 hc0
  go_enter Try.func133, Try.ntmps133
  go_wp2_with (go_at_call 92; refine (HC.out _ HB.out).mono ?_; rintro e w1 ⟨A, c, rfl, hl, hC, hb⟩; have HB1 := Aside0.mk hb; clear hl hC hb)
  go_ret
  exact ⟨by rw [← fits_dec]; rfl, HB1.out⟩
def AnyFits (ll : List (List Int)) : Bool := ll.any fits256
set_option maxHeartbeats 1000000 in
set_option maxRecDepth 100000 in
theorem index_any (A0 : Option Addr) (c0 : Nat) (l0 : List (List Int)) (w : World) (hr0 : Kd.C (Kd.slice 75 (Kd.int .u32)) w A0 l0.length l0) (_hc0 : l0.length ≤ c0) :
    Calls Try.prog 142 #[.slice A0 l0.length c0, .func (.func 133) #[] #[]] w fun e w' => ∃ i : Int, e = .returned (.int .i64 i) ∧ decide (0 ≤ i) = AnyFits l0 ∧ Below w.heap.size w w' := by
  have hm := hr0.2.1
  have HR := Aside0.mk hr0
  clear hr0 _hc0
  go_enter Try.func142, Try.ntmps142
  go_wp2
  go_loopw [8] (fun v wr => ∃ k : Nat, v = .int .i64 k ∧ k ≤ l0.length ∧ Aside0 ((l0.take k).any fits256 = false) ∧ Aside0 (Below w.heap.size w wr)) (fun v _ => l0.length - (intOf v).toNat)
  case atStart => exact ⟨0, rfl, by omega, ⟨by simp⟩, ⟨Below.refl _ _⟩⟩
  case round =>
    obtain ⟨k, rfl, hk, HA, HB⟩ := hrel
    by_cases hlt : k < l0.length
    · obtain ⟨ad, B0, d0, hA, hcell, hd, hC⟩ := atLL (Kd.C_below HR.out HB.out) (k : Int) (by omega) (by omega)
      subst hA
      simp only [Int.toNat_natCast] at hcell
      have HC := Aside0.mk (may1_any B0 d0 (rdLL l0 k) wr hC hd)
      have hts : l0.take (k + 1) = l0.take k ++ [rdLL l0 k] := by
        rw [List.take_succ_eq_append_getElem hlt]
        simp [rdLL, List.getD_eq_getElem?_getD, hlt]
      have HT := Aside0.mk hts
      clear hts hd hC
      cases hf : fits256 (rdLL l0 k) with
      | true =>
        have HF := Aside0.mk hf
        rw [hf] at HC
        clear hf
        go_wp2_with (go_at_call 133; refine HC.out.mono ?_; rintro e w1 ⟨rfl, hb⟩; have HB1 := Aside0.mk hb; clear hb)
        go_ret
        refine ⟨k, rfl, ?_, below_then HB.out HB.out.size HB1.out⟩
        have h1 : AnyFits l0 = true := by
          unfold AnyFits
          rw [← List.take_append_drop (k + 1) l0, HT.out]
          simp [HF.out]
        rw [h1]; simp
      | false =>
        have HF := Aside0.mk hf
        rw [hf] at HC
        clear hf
        go_wp2_with (go_at_call 133; refine HC.out.mono ?_; rintro e w1 ⟨rfl, hb⟩; have HB1 := Aside0.mk hb; clear hb)
        go_roundw
        case rel => exact ⟨k + 1, by go_num, by omega, ⟨by rw [HT.out]; simp [HA.out, HF.out]⟩, ⟨below_then HB.out HB.out.size HB1.out⟩⟩
        case measure => simp [intOf]; omega
    · go_wp2
      go_ret
      refine ⟨-1, rfl, ?_, HB.out⟩
      have h1 : AnyFits l0 = false := by
        have := HA.out
        rwa [List.take_of_length_le (by omega)] at this
      rw [h1]; simp
def nat_may.f (l0 : List (List Int)) : Option Bool := some (!AnyFits l0)
set_option maxHeartbeats 400000 in
set_option maxRecDepth 100000 in
theorem contains_any (A0 : Option Addr) (c0 : Nat) (l0 : List (List Int)) (w : World) (hr0 : Kd.C (Kd.slice 75 (Kd.int .u32)) w A0 l0.length l0) (hc0 : l0.length ≤ c0) :
    Calls Try.prog 132 #[.slice A0 l0.length c0, .func (.func 133) #[] #[]] w fun e w' => e = .returned (.bool (AnyFits l0)) ∧ Below w.heap.size w w' := by
  have HC := Aside0.mk (index_any A0 c0 l0 w hr0 hc0)
  clear hr0 hc0
  go_enter Try.func132, Try.ntmps132
  go_wp2_with (go_at_call 142; refine HC.out.mono ?_; rintro e w1 ⟨i, rfl, hi, hb⟩; have HB1 := Aside0.mk hb; have HI := Aside0.mk hi; clear hi hb)
  go_ret
  exact ⟨by rw [← HI.out]; rfl, HB1.out⟩
set_option maxHeartbeats 400000 in
set_option maxRecDepth 100000 in
theorem nat_may.calls (A0 : Option Addr) (c0 : Nat) (l0 : List (List Int)) (r : Bool) (w : World) (hr0 : Kd.C (Kd.slice 75 (Kd.int .u32)) w A0 l0.length l0) (hc0 : l0.length ≤ c0) (h : nat_may.f l0 = some r) :
    Calls Try.prog 109 #[.slice A0 l0.length c0] w fun e w' => e = .returned (.bool r) ∧ Below w.heap.size w w' := by
  obtain rfl := Option.some.inj h
  have HC := Aside0.mk (contains_any A0 c0 l0 w hr0 hc0)
  clear hr0 hc0 h
  go_enter Try.func109, Try.ntmps109
  go_wp2_with (go_at_call 132; refine HC.out.mono ?_; rintro e w1 ⟨rfl, hb⟩; have HB1 := Aside0.mk hb; clear hb)
  go_ret
  exact ⟨rfl, HB1.out⟩
end Go.Proofs.Ytlifengbicpppaa.G
end
section
namespace Go.Proofs.Ytlifengbicpppaa.G
open Go.RowKit Go.Proofs.YtlifengbicpppaaW.PrintWords Go.Proofs.YtlifengbicpppaaW.PrintLast Go.Proofs.YtlifengbicpppaaW.PrintMore
attribute [local go_sem] max2_int min2_int max_two min_two max_three min_three max_four min_four   -- for this text's walks alone
set_option linter.unusedVariables false
set_option linter.unusedSimpArgs false
def bits_Add32.f (a0 : Int) (a1 : Int) (a2 : Int) : Option (Int × Int) := some ((IntKind.u64.wrap ((IntKind.u64.wrap ((IntKind.u64.wrap (a0)) + (IntKind.u64.wrap (a1)))) + (IntKind.u64.wrap (a2)))) % 4294967296, ((IntKind.u64.wrap ((IntKind.u64.wrap ((IntKind.u64.wrap (a0)) + (IntKind.u64.wrap (a1)))) + (IntKind.u64.wrap (a2)))) / 4294967296) % 4294967296)
set_option maxHeartbeats 8000000 in
set_option maxRecDepth 100000 in
theorem bits_Add32.calls (a0 : Int) (a1 : Int) (a2 : Int) (r1 : Int) (r2 : Int) (w : World) (h : bits_Add32.f a0 a1 a2 = some (r1, r2)) :
    Calls Try.prog 128 #[.int .u32 a0, .int .u32 a1, .int .u32 a2] w fun e w' => e = .returned (.tuple #[.int .u32 r1, .int .u32 r2]) ∧ Drawn0 w w' := by
  have H : (some ((IntKind.u64.wrap ((IntKind.u64.wrap ((IntKind.u64.wrap (a0)) + (IntKind.u64.wrap (a1)))) + (IntKind.u64.wrap (a2)))) % 4294967296, ((IntKind.u64.wrap ((IntKind.u64.wrap ((IntKind.u64.wrap (a0)) + (IntKind.u64.wrap (a1)))) + (IntKind.u64.wrap (a2)))) / 4294967296) % 4294967296)) = some (r1, r2) := h
  clear h
  simp only [Option.some.injEq, Prod.mk.injEq] at H
  obtain ⟨rfl, rfl⟩ := H
  go_enter Try.func128, Try.ntmps128
  go_wp2
  go_ret2
  exact ⟨by first | rfl | (simp; done) | (simp [*]; done), by repeat (first | exact Drawn0.refl _ | apply Drawn0.step)⟩
end Go.Proofs.Ytlifengbicpppaa.G
end
