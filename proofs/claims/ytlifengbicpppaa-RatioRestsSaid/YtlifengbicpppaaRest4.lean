/- Part 4 of the texts for the claim RatioRests: Go functions of the program and of the document's answers, each with a proof that its calls come to a Lean function's answers, and plain laws about these. Joined by wip/merge.py of the claimant's repo out of its texts and of what the kit's print wrote for this claim. -/
import Derived.Test.YtlifengbicpppaaRest3
import Derived.Test.YtlifengbicpppaaRest2
import Derived.Laws.EntriesVeiled
import Derived.WalkSpells
import Derived.BigQuiet
set_option linter.unusedVariables false
set_option linter.unusedSimpArgs false
section
namespace Go.Proofs.Ytlifengbicpppaa.G
open Go.RowKit Go.Shelf Go.Proofs.YtlifengbicpppaaW.PrintWords Go.Proofs.YtlifengbicpppaaW.PrintLast Go.Proofs.YtlifengbicpppaaW.PrintMore
open Go.Proofs.Ytlifengbicpppaa.Num
attribute [local go_sem] Oper.semAt_some
/-- Limbs of a natural, none nought at the end. -/
def trimmed (l : List Int) : Bool := l.all (fun x => decide (0 ≤ x) && decide (x < 4294967296)) && decide (strip l = l) && decide (l.length < 35184372088832)
/-- The quotient and the rest. -/
def ratio_divided.f (x y : List Int) : Option (List Int × List Int) :=
  if trimmed x && trimmed y && decide (y ≠ []) then some (digs 4294967296 (val 4294967296 x / val 4294967296 y), digs 4294967296 (val 4294967296 x % val 4294967296 y)) else none
theorem trimmed_spec {l : List Int} (h : trimmed l = true) : Dg 4294967296 l ∧ strip l = l ∧ l.length < 35184372088832 := by
  simp only [trimmed, Bool.and_eq_true, decide_eq_true_eq, List.all_eq_true] at h
  exact ⟨fun x hx => ⟨(h.1.1 x hx).1, (h.1.1 x hx).2⟩, h.1.2, h.2⟩
theorem last_ne {l : List Int} {m : Nat} (h : strip l = l) (hn : l.length = m + 1) : rd l (m : Int) ≠ 0 := by
  have hne : l ≠ [] := fun e => by rw [e] at hn; cases hn
  have := strip_last (l := l) (by rw [h]; exact hne)
  have e : rd l (m : Int) = l.getLast hne := by
    rw [List.getLast_eq_getElem]
    simp [rd, List.getD_eq_getElem?_getD, hn]
  rw [e]
  intro h0
  apply this
  have : ∀ (l' : List Int) (h1 : l' ≠ []) (h2 : l' = l), l'.getLast h1 = l.getLast hne := fun l' h1 h2 => by subst h2; rfl
  rw [this _ _ h]
  exact h0
theorem R_raise {W : World} {base B e : Nat} {ok : Nat → Prop} {v : Value} {xs : List Int} (h : Kd.R (Kd.int .u32) e W base ok v xs) (hB : ∀ k, v.ownBlock = some k → B ≤ k) : Kd.R (Kd.int .u32) e W B ok v xs := by
  have ho := Kd.own_of_R h
  refine Kd.R_of_own ⟨ho.1, ?_⟩ h.1
  rcases ho.2 with h1 | ⟨g, cap, cur, rfl, h2, h3⟩
  · exact .inl h1
  · exact .inr ⟨g, cap, cur, rfl, hB g rfl, h3⟩
theorem R_to5 {W W' : World} {base B e : Nat} {v : Value} {xs : List Int} (h : Kd.R (Kd.int .u32) e W base (fun _ => True) v xs) (hb : B < base) (hk : ∀ k, k < W.heap.size → k ≠ B → W'.heap[k]? = W.heap[k]?) : Kd.R (Kd.int .u32) e W' 0 (fun _ => True) v xs :=
  Kd.R_lower (Kd.R_mono (Kd.R_step (Kd.R_bound h) (fun k hk' hlt => hk k hlt (by omega))) (fun _ _ => trivial)) (Nat.zero_le _)
theorem boxed_new_set (W : World) (p : Addr) (v u : Value) (t : TypeId) : Boxed ((W.setCell p v).alloc (.cells #[u] t)) W.heap.size t u := by
  have := World.alloc_heap_new (W.setCell p v) (.cells #[u] t)
  rwa [show (W.setCell p v).heap.size = W.heap.size by simp [World.setCell]] at this
theorem R_else {W : World} {g b e : Nat} {n c : Nat} {xs : List Int} (h : Kd.R (Kd.int .u32) e W b (fun _ => True) (.slice (some ⟨g, 0, none⟩) n c) xs) (p : Addr) (hp : p.block ≠ g) (u : Value) :
    Kd.R (Kd.int .u32) e (W.setCell p u) b (fun _ => True) (.slice (some ⟨g, 0, none⟩) n c) xs :=
  Kd.R_mono (Kd.R_far (Kd.R_flat (ok' := fun k => k = g) (fun h => h) h (fun k hk => by simpa [Value.ownBlock] using hk.symm)) (p := p) (fun k hk => by rw [hk]; exact hp.symm) u) (fun _ _ => trivial)
theorem Kw.cell {g : Nat} {V W : World} (h : Kw g V W) (p : Addr) (hp : p.block ≠ g) : W.cell? p = V.cell? p ∧ W.frozen? p = V.frozen? p := by
  simp [World.cell?, World.frozen?, h.block _ hp]
/-- What the loop over the places keeps. -/
structure DI (Wq Wb gu gv gq Wa Ba cu cv cq m N : Nat) (W0 : World) (us vs : List Int) (pre : List (Pl N)) (W : World) : Prop where
  ex : ∃ us' qs, WS W Wb gu gv cu cv us' vs ∧ us'.length = us.length ∧ Dg 4294967296 us' ∧ Kd.R (Kd.int .u32) 75 W 0 (fun _ => True) (.slice (some ⟨gq, 0, none⟩) N cq) qs ∧ qs.length = N ∧ Dg 4294967296 qs ∧
    (pre.map Subtype.val = down N pre.length → ST us vs us' qs m N pre.length)
  q : Boxed W Wq 46 (.slice (some ⟨gq, 0, none⟩) N cq)
  a : Boxed W Wa 143 (.func (.func 118) #[.pointer (some ⟨Wb, 0, none⟩)] #[])
  b : Below Wq W0 W
  s : Ba ≤ W.heap.size
theorem kept_block {W W' : World} {row : Option Nat} {k : Nat} {cs : Array Value} {t : TypeId} {fr : Nat × Nat} (hg : W.grownBy W' row) (hr : ∀ r, row = some r → ∃ o : Obj, W.heap[r]? = some o ∧ o.isCells = false) (hk : W.heap[k]? = some (.cells cs t fr)) : W'.heap[k]? = W.heap[k]? :=
  hg.block k (Array.getElem?_eq_some_iff.1 hk).1 (fun e => by
    obtain ⟨o, ho, hc⟩ := hr k e.symm
    rw [hk] at ho
    cases ho
    cases hc)
theorem C_kept {W W' : World} {row : Option Nat} {A : Option Addr} {n : Nat} {xs : List Int} (h : Kd.C (Kd.int .u32) W A n xs) (hg : W.grownBy W' row) (hr : ∀ r, row = some r → ∃ o : Obj, W.heap[r]? = some o ∧ o.isCells = false) : Kd.C (Kd.int .u32) W' A n xs :=
  C_same h (fun ad hA hn j => by
    obtain ⟨ad', hA', hc⟩ := Kd.at_int h 0 (by omega) (by omega)
    rw [hA] at hA'
    cases hA'
    have hb : ∀ i, (ad.add i).block = ad.block := fun i => by unfold Addr.add; split <;> rfl
    have e : W'.heap[ad.block]? = W.heap[ad.block]? := by
      unfold World.cell? at hc
      rw [hb] at hc
      split at hc
      · rename_i hk
        exact kept_block hg hr hk
      · cases hc
    simp [World.cell?, hb, e])
theorem R_kept {W W' : World} {row : Option Nat} {g n c : Nat} {xs : List Int} (h : Kd.R (Kd.int .u32) 75 W 0 (fun _ => True) (.slice (some ⟨g, 0, none⟩) n c) xs) (hg : W.grownBy W' row) (hr : ∀ r, row = some r → ∃ o : Obj, W.heap[r]? = some o ∧ o.isCells = false) : Kd.R (Kd.int .u32) 75 W' 0 (fun _ => True) (.slice (some ⟨g, 0, none⟩) n c) xs := by
  obtain ⟨cs, hcs⟩ := Kd.R_typed h g rfl
  exact Kd.R_mono (Kd.R_step (Kd.R_flat (ok' := fun k => k = g) (fun h => h) h (fun k hk _ => by simpa [Value.ownBlock] using hk.symm)) (fun k hk _ => by rw [hk]; exact kept_block hg hr hcs)) (fun _ _ => trivial)
theorem Kw.others {g : Nat} {V W : World} (h : Kw g V W) (hc : ∃ cells, V.heap[g]? = some (.cells cells 75 (0, 0))) : KeepsOthers V W := by
  refine ⟨by rw [h.size]; exact Nat.le_refl _, fun k o hk hn => ?_⟩
  by_cases e : k = g
  · subst e
    obtain ⟨c, hc⟩ := hc
    rw [hc] at hk
    cases hk
    cases hn
  · rw [h.block k e]; exact hk
theorem DI.own {Wq Wb gu gv gq Wa Ba cu cv cq m N B : Nat} {W0 : World} {us vs : List Int} (hB : Wq ≤ B) (hW0 : Wq ≤ W0.heap.size) : OwnFrom B (fun (pre : List (Pl N)) W => DI Wq Wb gu gv gq Wa Ba cu cv cq m N W0 us vs pre W) := by
  rintro pre W W' row ⟨⟨us', qs, hW, e1, e2, hR, e3, e4, e5⟩, hq, ha, hb, hs⟩ hg hr'
  have hr : ∀ r, row = some r → ∃ o : Obj, W.heap[r]? = some o ∧ o.isCells = false := fun r e => (hr' r e).2
  exact ⟨⟨us', qs, ⟨(kept_block hg hr hW.box).trans hW.box, R_kept hW.row hg hr, C_kept hW.rv hg hr, hW.ne, hW.vc, hW.um⟩, e1, e2, R_kept hR hg hr, e3, e4, e5⟩, (kept_block hg hr hq).trans hq, (kept_block hg hr ha).trans ha,
    ownFrom_below hW0 hB pre W W' row hb hg hr', Nat.le_trans hs hg.size⟩
theorem DI.step {Wq Wb gu gv gq Wa Ba cu cv cq m N : Nat} {W0 V w3 : World} {us vs us' us2 qs : List Int} {pre : List (Pl N)} {x : Pl N} {t : Int}
    (n1 : gq ≠ gu) (n2 : Wq ≠ gu) (n3 : Wa ≠ gu) (n4 : gq ≠ Wq) (n5 : gq ≠ gv) (n6 : gq ≠ Wb) (n7 : gq ≠ Wa) (n8 : Wq ≤ gq) (n9 : Wq ≤ gu) (hlt : pre.length < N) (hvl : vs.length = m + 1) (hul : us.length = N + m + 1) (hvd : Dg 4294967296 vs)
    (hl' : us'.length = us.length) (hR : Kd.R (Kd.int .u32) 75 V 0 (fun _ => True) (.slice (some ⟨gq, 0, none⟩) N cq) qs) (hql : qs.length = N) (hqd : Dg 4294967296 qs)
    (hST : pre.map Subtype.val = down N pre.length → ST us vs us' qs m N pre.length) (hq : Boxed V Wq 46 (.slice (some ⟨gq, 0, none⟩) N cq)) (ha : Boxed V Wa 143 (.func (.func 118) #[.pointer (some ⟨Wb, 0, none⟩)] #[])) (hb : Below Wq W0 V) (hs : Ba ≤ V.heap.size)
    (t0 : 0 ≤ t) (t1 : t < 4294967296) (hW : WS w3 Wb gu gv cu cv us2 vs) (hK : Kw gu V w3) (hl2 : us2.length = us'.length) (hd2 : Dg 4294967296 us2) (ho : ∀ i, (i < x.1 ∨ x.1 + m + 2 ≤ i) → us2[i]? = us'[i]?)
    (hc : (win us' (x.1 + 1) (m + 1) : Int) < (val 4294967296 vs : Int) → (win us' x.1 (m + 2) : Int) = t * (val 4294967296 vs : Int) + (win us2 x.1 (m + 2) : Int) ∧ (win us2 x.1 (m + 2) : Int) < (val 4294967296 vs : Int)) :
    DI Wq Wb gu gv gq Wa Ba cu cv cq m N W0 us vs (pre ++ [x]) (w3.setCell ⟨gq, x.1, none⟩ (.int .u32 t)) := by
  have hx := x.2
  have hR3 : Kd.R (Kd.int .u32) 75 w3 0 (fun _ => True) (.slice (some ⟨gq, 0, none⟩) N cq) qs :=
    Kd.R_mono (Kd.R_step (Kd.R_flat (ok' := fun k => k = gq) (fun h => h) hR (fun k hk _ => by simpa [Value.ownBlock] using hk.symm)) (fun k hk _ => hK.block k (by omega))) (fun _ _ => trivial)
  refine ⟨⟨us2, qs.set x.1 t, ⟨?_, R_else hW.row _ n1 _, ?_, hW.ne, hW.vc, hW.um⟩, hl2.trans hl', hd2, ?_, by simp [hql], hqd.set _ t0 t1, fun he => ?_⟩, ?_, ?_, ?_, ?_⟩
  · rw [Below.heap_setCell w3 ⟨gq, x.1, none⟩ _ Wb (by show Wb ≠ gq; omega)]; exact hW.box
  · exact C_same hW.rv (fun ad hA hn j => World.cell?_setCell_other w3 _ _ _ (fun e => by
      cases hA
      have : gq = gv := by have := congrArg Addr.block e; simpa [add_plain] using this
      exact n5 this))
  · have := (Kd.R_put (by rw [← hql] at hR3; exact hR3) (x.1 : Int) t).1
    rw [Int.toNat_natCast, hql] at this
    exact this
  · rw [List.map_append, List.length_append] at he
    simp only [List.map_cons, List.map_nil, List.length_cons, List.length_nil, Nat.zero_add] at he
    rw [down_succ] at he
    obtain ⟨e1, e2⟩ := List.append_inj' he rfl
    have e3 : x.1 = N - 1 - pre.length := by simpa using e2
    rw [List.length_append, List.length_cons, List.length_nil, Nat.zero_add]
    rw [e3] at ho hc ⊢
    exact (hST e1).step hlt (by omega) hl2 hql hvl hd2 hvd t0 ho hc
  · exact (Below.heap_setCell w3 ⟨gq, x.1, none⟩ _ Wq (by show Wq ≠ gq; omega)).trans ((hK.block _ n2).trans hq)
  · exact (Below.heap_setCell w3 ⟨gq, x.1, none⟩ _ Wa (by show Wa ≠ gq; omega)).trans ((hK.block _ n3).trans ha)
  · exact (hb.trans (hK.below.mono n9)).setCell (p := ⟨gq, x.1, none⟩) n8 _
  · rw [World.size_setCell, hK.size]; exact hs
set_option maxHeartbeats 4000000 in
set_option maxRecDepth 100000 in
theorem ratio_divided.calls (A0 : Option Addr) (c0 : Nat) (l0 : List Int) (A1 : Option Addr) (c1 : Nat) (l1 : List Int) (r0 r1 : List Int) (w : World) (hr0 : Kd.C (Kd.int .u32) w A0 l0.length l0) (hc0 : l0.length ≤ c0) (hr1 : Kd.C (Kd.int .u32) w A1 l1.length l1) (hc1 : l1.length ≤ c1) (h : ratio_divided.f l0 l1 = some (r0, r1)) :
    Calls Try.prog 78 #[.slice A0 l0.length c0, .slice A1 l1.length c1] w fun e w' => ∃ v0_ v1_ : Value, e = .returned (.tuple #[v0_, v1_]) ∧ Kd.R (Kd.int .u32) 75 w' w.heap.size (fun k_ => some k_ ≠ (v1_ : Value).ownBlock) v0_ r0 ∧ Kd.R (Kd.int .u32) 75 w' w.heap.size (fun k_ => some k_ ≠ (v0_ : Value).ownBlock) v1_ r1 ∧ Below w.heap.size w w' := by
  unfold ratio_divided.f at h
  by_cases hok : (trimmed l0 && trimmed l1 && decide (l1 ≠ [])) = true
  · rw [if_pos hok] at h
    simp only [Bool.and_eq_true, decide_eq_true_eq] at hok
    obtain ⟨⟨ht0, ht1⟩, hne⟩ := hok
    obtain ⟨rfl, rfl⟩ := Prod.mk.inj (Option.some.inj h)
    clear h
    obtain ⟨d0, s0, m0⟩ := trimmed_spec ht0
    obtain ⟨d1, s1, m1⟩ := trimmed_spec ht1
    obtain ⟨m, hm⟩ : ∃ m, l1.length = m + 1 := ⟨l1.length - 1, by have := List.length_pos_iff.2 hne; omega⟩
    have hl := last_ne s1 hm
    have hlb := rdb d1 (m : Int)
    obtain ⟨s, hs, hs32, hsl, hsu⟩ := lz32_spec (rd l1 (m : Int)) (by omega) hlb.2
    obtain ⟨us, hus, hul, hud, huv⟩ := shifted_spec l0 s hs32 d0 (by omega) (l0.length + 1) (by omega)
    obtain ⟨vs, hvs, hvl, hvd, hvv⟩ := shifted_spec l1 s hs32 d1 (by omega) (l1.length + 1) (by omega)
    by_cases hlt : l0.length < l1.length
    · have hv0 := digs_val (b := 4294967296) (by decide) d0
      have hv1 := digs_val (b := 4294967296) (by decide) d1
      rw [s0] at hv0
      rw [s1] at hv1
      have hlv : val 4294967296 l0 < val 4294967296 l1 := by
        have h1 := val_lt d0
        have h2 : ¬ val 4294967296 l1 < 4294967296 ^ m := fun h => by
          have := (digs_len (b := 4294967296) (by decide) (val 4294967296 l1) m).2 h
          rw [hv1] at this
          omega
        have h3 : 4294967296 ^ l0.length ≤ 4294967296 ^ m := Nat.pow_le_pow_right (by decide) (by omega)
        omega
      rw [Nat.div_eq_of_lt hlv, Nat.mod_eq_of_lt hlv, digs_zero, hv0]
      have HC := Aside0.mk (fun (W : World) (hb : Below w.heap.size w W) => api_Nat_uint32_103.calls A0 c0 l0 l0 W (Kd.C_below hr0 hb) hc0 (by unfold api_Nat_uint32_103.f; rw [if_pos m0]))
      refine calls_marks Try.func78 rfl ?_
      simp only [Try.ntmps78, List.size_toArray, List.length_cons, List.length_nil, Nat.reduceAdd, Nat.reduceSub, Array.replicate_succ, Array.replicate_zero, List.push_toArray, List.append_toArray, List.nil_append, List.cons_append]
      have hlt' : (l0.length : Int) < (l1.length : Int) := by omega
      have hbox := Boxed.new w 46 (.slice none 0 0)
      have hb1 : Below w.heap.size w (w.alloc (.cells #[.slice none 0 0] 46)) := (Below.refl _ w).alloc (Nat.le_refl _) _
      have HD := Aside0.mk (And.intro hbox hb1)
      clear hv0 hv1 hlv hne hlb hs hus huv hvs hvv hl hm hbox hb1 hr0 hr1
      go_wp2
      go_step3
      go_wp2_with fail
      refine (HC.out _ HD.out.2).mono ?_
      rintro e w1 ⟨v0, rfl, hR, hB⟩
      have hx : Boxed w1 w.heap.size 46 (.slice none 0 0) := (hB.block w.heap.size (by simp)).trans HD.out.1
      have f1 := hx.cell
      have f2 := hx.frozen
      have HR := Aside0.mk (And.intro hR (And.intro hB hx))
      clear hR hB hx
      go_wp2_with fail
      rw [Exit.noGoto_ret]
      obtain ⟨hR, hB, hx⟩ := HR.out
      have hX := (hx.set (.slice none 0 0)).cell
      refine post_plain (v := .tuple #[.slice none 0 0, v0]) (by simp [results, Try.results78, go_sem, hX]) ⟨_, _, rfl, Kd.R_nil _ _ _ _ _, ?_, (HD.out.2.trans (hB.mono (by simp))).setCell (p := ⟨w.heap.size, 0, none⟩) (Nat.le_refl _) _⟩
      rw [World.size_alloc] at hR
      refine Kd.R_mono (Kd.R_lower (Kd.R_step (Kd.R_bound hR) (fun k hk _ => Below.heap_setCell w1 ⟨w.heap.size, 0, none⟩ _ k (by have := hk.2.1; show k ≠ w.heap.size; omega))) (Nat.le_succ _)) (fun k _ => by simp [Value.ownBlock])
    · refine calls_marks Try.func78 rfl ?_
      simp only [Try.ntmps78, List.size_toArray, List.length_cons, List.length_nil, Nat.reduceAdd, Nat.reduceSub, Array.replicate_succ, Array.replicate_zero, List.push_toArray, List.append_toArray, List.nil_append, List.cons_append]
      have HLZ := Aside0.mk (fun W => bits_LeadingZeros32.calls _ _ W hs)
      have HS0 := Aside0.mk (fun W (h : Kd.C (Kd.int .u32) W A0 l0.length l0) => ratio_shifted.calls _ A0 c0 l0 _ us W h hc0 hus)
      have HS1 := Aside0.mk (fun W (h : Kd.C (Kd.int .u32) W A1 l1.length l1) => ratio_shifted.calls _ A1 c1 l1 _ vs W h hc1 hvs)
      have HF := Aside0.mk (vs_top hs32 hm d1 hvl hvd hvv hsl hsu)
      have HD0 := Aside0.mk d0
      have HZ := Aside0.mk (limb_split 0 s hs32 (by omega) (by omega)).2.2.2.2.2.2
      have HUV := Aside0.mk huv
      have HP := Aside0.mk (And.intro hsl (And.intro hsu (And.intro huv hvv)))
      clear hsl hsu huv hvv hus hvs hs
      obtain ⟨ad1, rfl, hat⟩ := Kd.at_int hr1 (m : Int) (by omega) (by omega)
      rw [Int.toNat_natCast] at hat
      generalize rd l1 (m : Int) = first at *
      rw [hm] at *
      have hat' : ∀ o, (w.alloc o).cell? (ad1.add m) = some (.int .u32 first) := fun o => (World.cell?_alloc_lt w o _ (World.block_lt_of_cell? w _ hat)).trans hat
      clear hat
      have hlt' : ¬ ((l0.length : Int) < (m : Int) + 1) := by omega
      go_wp2
      go_step3
      go_wp2_with (go_at_call 116; refine (HLZ.out _).mono ?_; rintro e w' ⟨rfl, ⟨nd, rfl⟩⟩)
      obtain ⟨W1, hW1⟩ : ∃ W1, (w.alloc (.cells #[.slice none 0 0] 46)).drewN nd = W1 := ⟨_, rfl⟩
      have B1 : Below w.heap.size w W1 := by rw [← hW1]; exact pw_below_drewN ((Below.refl _ w).alloc (Nat.le_refl _) _) nd
      have X1 : Boxed W1 w.heap.size 46 (.slice none 0 0) := by rw [← hW1]; exact World.alloc_heap_new w _
      have z1 : W1.heap.size = w.heap.size + 1 := by rw [← hW1]; simp
      rw [hW1]
      clear hW1 hat' HLZ
      refine (HS0.out W1 (Kd.C_below hr0 B1)).mono ?_
      rintro e W2 ⟨v0, rfl, hR0, hB2⟩
      obtain ⟨gu, cu, rfl, gu1, gu2, -⟩ := Kd.R_form hR0 (by omega)
      have B2 : Below w.heap.size w W2 := B1.trans (hB2.mono (by omega))
      have X2 : Boxed W2 w.heap.size 46 (.slice none 0 0) := (hB2.block w.heap.size (by omega)).trans X1
      have HH := Aside0.mk (And.intro B2 (And.intro X2 (And.intro hR0 hB2)))
      have hC1 := Kd.C_below hr1 B2
      clear B1 X1 hB2 B2 X2 hR0
      go_wp2_with fail
      refine (HS1.out _ hC1).mono ?_
      rintro e W3 ⟨v1, rfl, hR1, hB3⟩
      obtain ⟨gv, cv, rfl, gv1, gv2, -⟩ := Kd.R_form hR1 (by omega)
      have hvc : vs.length ≤ cv := by
        obtain ⟨_, _, e3, h3, _⟩ := Kd.R_reads hR1
        cases e3
        exact h3
      have X3 : Boxed W3 w.heap.size 46 (.slice none 0 0) := (hB3.block w.heap.size (by omega)).trans HH.out.2.1
      have l3 : (m : Int) + 1 ≤ cv := by omega
      obtain ⟨N, hN⟩ : ∃ N, l0.length = m + N := ⟨l0.length - m, by omega⟩
      have eN : (l0.length : Int) - ((m : Int) + 1) + 1 = (N : Int) := by omega
      have hNb : N < 70368744177664 := by omega
      have HN := Aside0.mk hN
      clear hN
      obtain ⟨D1, hD1⟩ : ∃ D1, W3.alloc (.cells #[.slice (some ⟨gu, 0, none⟩) (l0.length + 1) cu, .slice (some ⟨gv, 0, none⟩) (m + 1) cv] 142) = D1 := ⟨_, rfl⟩
      have zD : D1.heap.size = W3.heap.size + 1 := by rw [← hD1]; simp
      have XD : Boxed D1 w.heap.size 46 (.slice none 0 0) := by rw [← hD1]; exact X3.alloc _
      go_wp2_with (first
        | ((with_reducible refine gate_dst (N := 42) rfl ?_); refine Kd.R_make (Kd.int .u32) D1.heap.size 75 rfl (N := 42) rfl 46 _ _ rfl (N : Int) rfl rfl Try.underlying46 (.int .u32 0) 4 info75 rfl (by decide) (by omega) 0 (ok := fun _ => True) (okp := fun _ => True) rfl (fun _ hk => hk) trivial (by omega) (by omega) (Below.refl _ _) (Nat.le_refl _) ?_; intro vq W4 hq hbq hgq hnq; rw [Int.toNat_natCast] at hq; obtain ⟨gq, cq, rfl, gq1, gq2, -⟩ := Kd.R_form hq (by rw [List.length_replicate]; omega); rw [List.length_replicate] at hq ⊢; have X4 : Boxed W4 w.heap.size 46 (.slice none 0 0) := (hgq.block w.heap.size (by omega) (by simp)).trans XD; have m1 := X4.cell; have m2 := X4.frozen; have X5 := boxed_new_set W4 ⟨w.heap.size, 0, none⟩ (.slice (some ⟨gq, 0, none⟩) N cq) .nilFunc 143; have m3 := X5.cell; have m4 := X5.frozen))
      go_step3
      obtain ⟨W5, hW5⟩ : ∃ W5, (W4.setCell ⟨w.heap.size, 0, none⟩ (.slice (some ⟨gq, 0, none⟩) N cq)).alloc (.cells #[.func (.func 118) #[.pointer (some ⟨W3.heap.size, 0, none⟩)] #[]] 143) = W5 := ⟨_, rfl⟩
      have z4 := hbq.size
      have z3 := hB3.size
      have z5 : W5.heap.size = W4.heap.size + 1 := by rw [← hW5]; simp
      have K5 : ∀ k, k < W4.heap.size → k ≠ w.heap.size → W5.heap[k]? = W4.heap[k]? := fun k h1 h2 => by
        rw [← hW5, Below.heap_alloc _ _ _ (by simp; omega), Below.heap_setCell _ ⟨w.heap.size, 0, none⟩ _ _ h2]
      have K5' : ∀ k, k < D1.heap.size → k ≠ w.heap.size → W5.heap[k]? = D1.heap[k]? := fun k h1 h2 => (K5 k (by omega) h2).trans (hbq.block k h1)
      have KD : ∀ k, k < W3.heap.size → k ≠ w.heap.size → W5.heap[k]? = W3.heap[k]? := fun k h1 h2 => (K5' k (by omega) h2).trans (by rw [← hD1]; exact Below.heap_alloc _ _ _ h1)
      have P1 : Boxed W5 w.heap.size 46 (.slice (some ⟨gq, 0, none⟩) N cq) := by rw [← hW5]; exact (X4.set _).alloc _
      have P2 : Boxed W5 W4.heap.size 143 (.func (.func 118) #[.pointer (some ⟨W3.heap.size, 0, none⟩)] #[]) := by rw [← hW5]; exact boxed_new_set _ _ _ _ _
      have P3 : W5.heap[W3.heap.size]? = some (.cells #[.slice (some ⟨gu, 0, none⟩) us.length cu, .slice (some ⟨gv, 0, none⟩) (m + 1) cv] 142 (0, 0)) := (K5' _ (by omega) (by omega)).trans (by rw [← hD1, hul]; exact World.alloc_heap_new W3 _)
      have R0 : Kd.R (Kd.int .u32) 75 W5 0 (fun _ => True) (.slice (some ⟨gu, 0, none⟩) us.length cu) us := R_to5 (B := w.heap.size) HH.out.2.2.1 (by omega) (fun k h1 h2 => (KD k (by omega) h2).trans (hB3.block k h1))
      have R1 : Kd.R (Kd.int .u32) 75 W5 0 (fun _ => True) (.slice (some ⟨gv, 0, none⟩) vs.length cv) vs := R_to5 (B := w.heap.size) hR1 (by omega) (fun k h1 h2 => KD k (by omega) h2)
      have Rq : Kd.R (Kd.int .u32) 75 W5 0 (fun _ => True) (.slice (some ⟨gq, 0, none⟩) N cq) (List.replicate N 0) := R_to5 (B := w.heap.size) hq (by omega) (fun k h1 h2 => K5 k (by omega) h2)
      have hvl1 : (vs.take (m + 1)).length = m + 1 := by rw [List.length_take]; omega
      have hWS : WS W5 W3.heap.size gu gv cu cv us (vs.take (m + 1)) := by
        have h1 := Kd.R_reads' (Kd.R_take (m := m + 1) R1 (by omega))
        refine ⟨by rw [hvl1]; exact P3, R0, h1.2.2, by omega, by omega, by omega⟩
      have B5 : Below w.heap.size w W5 := by
        rw [← hW5]
        refine Below.alloc (Below.setCell (p := ⟨w.heap.size, 0, none⟩) (((HH.out.1.trans (hB3.mono (by have := HH.out.1.size; omega))).trans ?_).trans (hbq.mono (by omega))) (Nat.le_refl _) _) (by simp; omega) _
        rw [← hD1]
        exact (Below.refl _ _).alloc (by omega) _
      rw [hW5]
      clear hW5 K5 K5' KD R0 R1 hq hbq hgq hnq X4 m1 m2 X5 m3 m4 HS0 HS1
      have Z5 := Aside0.mk z5
      clear z5
      go_wp2_with (go_at_call 119; refine (places_any _ _).mono ?_; rintro e W6 ⟨rfl, hW6⟩)
      have z5 := Z5.out
      obtain ⟨Ba, hBa⟩ : ∃ B, B = W6.heap.size := ⟨_, rfl⟩
      have z6 : W6.heap.size = W5.heap.size + 1 := by rw [hW6]; simp
      have P4 : W6.heap[W5.heap.size]? = some (.cells #[.pointer (some ⟨W3.heap.size, 0, none⟩)] 139 (0, 0)) := by rw [hW6]; exact World.alloc_heap_new W5 _
      have P1' := P1.alloc (.cells #[.pointer (some ⟨W3.heap.size, 0, none⟩)] 139)
      have P2' := P2.alloc (.cells #[.pointer (some ⟨W3.heap.size, 0, none⟩)] 139)
      have Rq' := Kd.R_alloc Rq (.cells #[.pointer (some ⟨W3.heap.size, 0, none⟩)] 139)
      have hWS' : WS W6 W3.heap.size gu gv cu cv us (vs.take (m + 1)) := by
        rw [hW6]
        exact ⟨(Below.heap_alloc W5 _ _ (Array.getElem?_eq_some_iff.1 hWS.box).1).trans hWS.box, Kd.R_alloc hWS.row _, Kd.C_alloc hWS.rv _, hWS.ne, hWS.vc, hWS.um⟩
      rw [← hW6] at P1' P2' Rq'
      have hstops := places_stops W5.heap.size W3.heap.size gu gv cu cv us.length (m + 1) N hWS.um (by have := HN.out; omega) W6 P4 hWS'.c0 (by have := hWS'.c1; rwa [hvl1] at this)
      have HI0 : Aside0 (DI w.heap.size W3.heap.size gu gv gq W4.heap.size Ba cu cv cq m N w us (vs.take (m + 1)) ([] : List (Pl N)) W6) := ⟨by
        refine ⟨⟨us, List.replicate N 0, hWS', rfl, hud, Rq', by simp, Dg.replicate (by decide) _, fun _ => ST.start ?_⟩, P1', P2', B5.trans (by rw [hW6]; exact (Below.refl _ _).alloc B5.size _), by omega⟩
        exact start_lt (by have := HN.out; omega) HN.out HD0.out (hvd.take _) hvl1 HUV.out HZ.out HF.out.1⟩
      rw [← hW6]
      clear hW6 P1' P2' Rq' P4 P1 P2 P3 Rq hWS
      refine wp_rangeFunc_plain (gf := 141) (lb := #[.pointer (some ⟨W5.heap.size, 0, none⟩)]) rfl (enters_of Try.func141 (by kernel_rfl) rfl) hstops
        (fun _ _ => trivial) (fun _ _ _ _ _ _ _ _ => trivial) (fun _ => trivial) (Below.refl _ _) (fun _ => rfl)
        (fun pre W => DI w.heap.size W3.heap.size gu gv gq W4.heap.size Ba cu cv cq m N w us (vs.take (m + 1)) pre W) (fun _ _ _ => False)
        ?hI ?hIx HI0.out (fun x t => (t.setIfInBounds 47 (.int .i64 (x.1 : Int))).setIfInBounds 9 (.int .i64 (x.1 : Int)))
        ?assign ?body ?done ?stop
      case hI => exact DI.own (by have := B5.size; omega) (Nat.le_refl _)
      case hIx => exact fun cd _ _ _ _ hs _ _ => hs
      case assign =>
        intro l x V K hK
        clear hstops HI0 eN z1 z3 z4 z5 z6 hBa hvl1 hlt' zD hD1 hul hvl hm hWS' B5 hC1 hR1 hB3 XD X3
        unfold encP
        gi_wp2
        exact hK
      case body =>
        rintro l pre x V ⟨⟨us', qs, hW, hl', hd', hR, hql, hqd, hST⟩, hq, ha, hb, hs'⟩ hlt
        have hvtd : Dg 4294967296 (vs.take (m + 1)) := hvd.take _
        have HStep := Aside0.mk (fun W (h : WS W W3.heap.size gu gv cu cv us' (vs.take (m + 1))) => step_any W3.heap.size gu gv cu cv us' (vs.take (m + 1)) x.1 m W h (by omega) hvl1 (by have := HN.out; have := x.2; omega) hd' hvtd HF.out.1)
        have f0 := hq.cell
        have f1 := ha.cell
        have n1 : gq ≠ gu := by omega
        have n2 : w.heap.size ≠ gu := by omega
        have n3 : W4.heap.size ≠ gu := by omega
        have n4 : gq ≠ w.heap.size := by omega
        have n5 : gq ≠ gv := by omega
        have n6 : gq ≠ W3.heap.size := by omega
        have n7 : gq ≠ W4.heap.size := by omega
        have n8 : w.heap.size ≤ gq := by omega
        have n9 : w.heap.size ≤ gu := by omega
        have hx : (x.1 : Int) < (N : Int) := by have := x.2; omega
        have c1 := Kd.R_cell (0 : Int) (by rw [← hql] at hR; exact hR) (x.1 : Int) (by omega) (by omega)
        rw [Int.toNat_natCast] at c1
        obtain ⟨c1, c2⟩ := c1
        have HB0 := Aside0.mk (And.intro hvl1 (And.intro (show us.length = N + m + 1 by have := HN.out; omega) hvtd))
        have HH2 := Aside0.mk (And.intro hW (And.intro hl' (And.intro hd' (And.intro hR (And.intro hql (And.intro hqd (And.intro hST (And.intro hq (And.intro ha (And.intro hb hs'))))))))))
        clear hstops HI0 eN z1 z3 z4 z5 z6 hBa hvl1 hlt' zD hD1 hul hvl hm hWS' B5 hC1 hR1 hB3 XD X3 hW hl' hd' hR hql hqd hST hq ha hb hs'
        gi_wp2
        obtain ⟨S, hS0, hSe, hSi⟩ : ∃ S : World → Prop, S V.drew ∧ (∀ w', S w' → w'.cell? ⟨w.heap.size, 0, none⟩ = some (.slice (some ⟨gq, 0, none⟩) N cq) ∧ w'.cell? ⟨W4.heap.size, 0, none⟩ = some (.func (.func 118) #[.pointer (some ⟨W3.heap.size, 0, none⟩)] #[])) ∧
          (∀ w', w'.cell? ⟨w.heap.size, 0, none⟩ = some (.slice (some ⟨gq, 0, none⟩) N cq) → w'.cell? ⟨W4.heap.size, 0, none⟩ = some (.func (.func 118) #[.pointer (some ⟨W3.heap.size, 0, none⟩)] #[]) → S w') := ⟨_, ⟨f0, f1⟩, fun _ h => h, fun _ h h' => ⟨h, h'⟩⟩
        refine wpIn_region_TL (st := 6) S (by kernel_rfl) (by kernel_rfl) ?_
        iterate 4
          refine wpTL_held (v := ?_) (by kernel_rfl) (fun _ _ _ h => h) hS0 (Or.inl ⟨by rfl, fun w' hw' => ?_⟩) ?_
          rotate_left 1
          · obtain ⟨s1, s2⟩ := hSe _ hw'
            go_simp
            try with_reducible rfl
          simp only [Act.put, List.setIfInBounds_toArray, List.set_cons_zero, List.set_cons_succ, Nat.reduceAdd]
        refine wpTL_run (by kernel_rfl) (fun K hK => ?_)
        go_simp
        go_at_call 118
        refine (HStep.out _ (HH2.out.1.drewN 1)).mono ?_
        rintro e w3 ⟨t, us2, rfl, h2⟩
        have g0 := (h2.2.2.2.1.cell ⟨w.heap.size, 0, none⟩ n2).1.trans f0
        have g3 := (h2.2.2.2.1.cell ⟨W4.heap.size, 0, none⟩ n3).1.trans f1
        have g1 := (h2.2.2.2.1.cell ⟨gq, x.1, none⟩ n1).1.trans c1
        have g2 := (h2.2.2.2.1.cell ⟨gq, x.1, none⟩ n1).2.trans c2
        have H2 := Aside0.mk h2
        clear h2
        have hS1 := hSi _ g0 g3
        refine hK _ _ (fun _ => hS1) ?_
        clear hK K
        simp only [Act.put, List.setIfInBounds_toArray, List.set_cons_zero, List.set_cons_succ, Nat.reduceAdd]
        iterate 1
          refine wpTL_held (v := ?_) (by kernel_rfl) (fun _ _ _ h => h) hS1 (Or.inl ⟨by rfl, fun w' hw' => ?_⟩) ?_
          rotate_left 1
          · obtain ⟨s1, s2⟩ := hSe _ hw'
            go_simp
            try with_reducible rfl
          simp only [Act.put, List.setIfInBounds_toArray, List.set_cons_zero, List.set_cons_succ, Nat.reduceAdd]
        refine wpTL_run (by kernel_rfl) (fun K hK => ?_)
        go_simp
        refine hK _ _ (stored (by kernel_rfl)) ?_
        clear hK K
        simp only [Act.put, List.setIfInBounds_toArray, List.set_cons_zero, List.set_cons_succ, Nat.reduceAdd]
        refine wpTL_end (by kernel_rfl) ?_
        refine onlyN ?_
        by_cases ht : t = 0
        all_goals
          try subst ht
          gi_wp2
          obtain ⟨b1, b2, b3, b4, b5, b6, b7, b8, b9, b10, b11⟩ := HH2.out
          obtain ⟨d1, d2, d3, d4, d5, d6, d7, d8⟩ := H2.out
          obtain ⟨g1, g2, g3⟩ := HB0.out
          have hK := (Kw.drewN gu V 1).trans d4
          refine ⟨((hK.others (Kd.R_typed b1.row gu rfl)).trans (KeepsOthers.setCell _ _ _)).from _, trivial, ?_⟩
          exact DI.step n1 n2 n3 n4 n5 n6 n7 n8 n9 hlt g1 g2 g3 b2 b4 b5 b6 b7 b8 b9 b10 b11 d1 d2 d3 hK d5 d6 d7 d8
      case done =>
        rintro D zs V hD hzs ⟨⟨us', qs, hW, hl', hd', hR, hql, hqd, hST⟩, hq, ha, hb, hs'⟩ hK
        have HUL := Aside0.mk hul
        have hDw : w.heap.size ≤ D := by have := HH.out.1.size; omega
        have hgq : w.heap.size < gq := by have := HH.out.1.size; omega
        have HUL2 := Aside0.mk (show us.length = N + m + 1 by have := HN.out; omega)
        have hzl : zs.length = N := by have := congrArg List.length hzs; rwa [List.length_map, down_length] at this
        rw [hzl] at hST
        have hST := hST hzs
        have HH2 := Aside0.mk (And.intro hW (And.intro hl' (And.intro hd' (And.intro hR (And.intro hql (And.intro hqd (And.intro hST (And.intro hq (And.intro ha (And.intro hb hs'))))))))))
        clear hstops HI0 eN z1 z3 z4 z5 z6 hBa hvl1 hlt' zD hD1 hul hvl hm hWS' B5 hC1 hR1 hB3 XD X3 hW hl' hd' hR hql hqd hST hq ha hb hs'
        go_wp2_with (first
          | ((with_reducible refine gate_dst (N := 61) rfl ?_); refine Kd.R_make (Kd.int .u32) V.heap.size 75 rfl (N := 61) rfl 46 _ _ rfl ((m : Int) + 1) rfl rfl Try.underlying46 (.int .u32 0) 4 info75 rfl (by decide) (by omega) 0 (ok := fun _ => True) (okp := fun _ => True) rfl (fun _ hk => hk) trivial (by omega) (by omega) (Below.refl _ _) (Nat.le_refl _) ?_; intro vr V2 hr hbr hgr hnr; obtain ⟨gr, cr, rfl, gr1, gr2, -⟩ := Kd.R_form hr (by rw [List.length_replicate]; omega); rw [List.length_replicate, show ((m : Int) + 1).toNat = m + 1 by omega] at hr ⊢))
        obtain ⟨b1, b2, b3, b4, b5, b6, b7, b8, b9, b10, b11⟩ := HH2.out
        have hN1 : 1 ≤ N := by have := HN.out; omega
        have hul' : us'.length = N + m + 1 := by have := HN.out; have := HUL.out; omega
        have HB2 := Aside0.mk hbr
        have HR2 := Aside0.mk hr
        have HV := Aside0.mk (And.intro gr1 (And.intro hN1 hul'))
        have zV := (Array.getElem?_eq_some_iff.1 b1.box).1
        have zu : gu < V.heap.size := by obtain ⟨_, h⟩ := Kd.R_typed b1.row gu rfl; exact (Array.getElem?_eq_some_iff.1 h).1
        clear hbr hr hgr hnr b2 b4 b5 b6 b7 b8 b9 b10 b11
        have hum := b1.um
        have eL : us'.length = N + m + 1 := hul'
        go_loopw [64] (fun a wr => ∃ (k : Nat) (rs : List Int), a = .int .i64 k ∧ k ≤ m + 1 ∧ Aside0 (RS us' rs s m k) ∧ Aside0 (Kd.R (Kd.int .u32) 75 wr V.heap.size (fun _ => True) (.slice (some ⟨gr, 0, none⟩) (m + 1) cr) rs) ∧ Aside0 (Below V.heap.size V wr)) (fun a _ => (m + 1) - (intOf a).toNat)
        case atStart => exact ⟨0, _, rfl, by omega, ⟨RS.zero us' s m⟩, HR2, HB2⟩
        case round =>
          obtain ⟨k, rs, rfl, hk, HRS, HRR, HBB⟩ := hrel
          have f0 : wr.cell? ⟨W3.heap.size, 0, none⟩ = some (.slice (some ⟨gu, 0, none⟩) (N + m + 1) cu) := by rw [← hul']; exact (HBB.out.cell (p := ⟨W3.heap.size, 0, none⟩) zV).trans b1.c0
          have hrl := HRS.out.len
          by_cases hlt : k < m + 1
          · have f1 : wr.cell? ⟨gu, k, none⟩ = some (.int .u32 (rd us' k)) := (HBB.out.cell (p := ⟨gu, k, none⟩) zu).trans (b1.u k (by omega))
            have f2 : wr.cell? ⟨gu, k + 1, none⟩ = some (.int .u32 (rd us' (k + 1 : Nat))) := (HBB.out.cell (p := ⟨gu, k + 1, none⟩) zu).trans (b1.u (k + 1) (by omega))
            have c1 := Kd.R_cell (0 : Int) (by have := HRR.out; rw [← hrl] at this; exact this) (k : Int) (by omega) (by omega)
            rw [Int.toNat_natCast] at c1
            obtain ⟨c1, c2⟩ := c1
            have HS2 := Aside0.mk (HRS.out.step hs32 (by omega) HH2.out.2.2.1 (by omega))
            have v1 := rdb HH2.out.2.2.1 ((k : Nat) : Int)
            have v2 := rdb HH2.out.2.2.1 ((k + 1 : Nat) : Int)
            obtain ⟨z1, z1'⟩ := v1
            obtain ⟨z2, z2'⟩ := v2
            generalize rd us' ((k : Nat) : Int) = b at *
            generalize rd us' ((k + 1 : Nat) : Int) = a at *
            have w1 : IntKind.u64.wrap a = a := IntWalk.u64_in _ (by omega)
            have w0 : IntKind.u64.wrap b = b := IntWalk.u64_in _ (by omega)
            have ws : IntKind.u64.wrap (a * 4294967296) = a * 4294967296 := IntWalk.u64_in _ (by omega)
            have eor := join32 a b z2 z2' z1 z1'
            have e1 : IntKind.i64.wrap ((k : Int) + 1) = (k : Int) + 1 := IntWalk.i64_in _ (by omega)
            have e2 : ((k : Int) + 1).toNat = k + 1 := by omega
            have y1 : (0 : Int) ≤ (k : Int) + 1 := by omega
            have y2 : (k : Int) + 1 < (N : Int) + (m : Int) + 1 := by omega
            have y3 : (k : Int) < (N : Int) + (m : Int) + 1 := by omega
            have y4 : (k : Int) < (m : Int) + 1 := by omega
            go_wp2
            obtain ⟨S, hS0, hSe⟩ : ∃ S : World → Prop, S wr.drew ∧ ∀ w', S w' → w'.cell? ⟨W3.heap.size, 0, none⟩ = some (.slice (some ⟨gu, 0, none⟩) (N + m + 1) cu) ∧ w'.cell? ⟨gu, k, none⟩ = some (.int .u32 b) ∧ w'.cell? ⟨gu, k + 1, none⟩ = some (.int .u32 a) := ⟨_, ⟨f0, f1, f2⟩, fun _ h => h⟩
            refine wp_region_TN (st := 25) S (by kernel_rfl) ?_
            iterate 25
              refine wpTL_held (v := ?_) (by kernel_rfl) (fun _ _ _ h => h) hS0 (Or.inl ⟨by rfl, fun w' hw' => ?_⟩) ?_
              rotate_left 1
              · obtain ⟨s1, s2, s3⟩ := hSe _ hw'
                go_simp
                try with_reducible rfl
              simp only [Act.put, List.setIfInBounds_toArray, List.set_cons_zero, List.set_cons_succ, Nat.reduceAdd]
            refine wpTL_run (by kernel_rfl) (fun K hK => ?_)
            go_simp
            have hv : IntKind.u32.wrap ((a * 4294967296 + b) / 2 ^ s) = rl a b s := by rw [IntKind.wrap_u32]; rfl
            rw [hv]
            refine hK _ _ (stored (by kernel_rfl)) ?_
            clear hK K
            simp only [Act.put, List.setIfInBounds_toArray, List.set_cons_zero, List.set_cons_succ, Nat.reduceAdd]
            refine wpTL_end (by kernel_rfl) ?_
            refine onlyN ?_
            go_wp2
            have h9 := (Kd.R_put (by have := HRR.out; rw [← hrl] at this; exact this) (k : Int) (rl a b s)).1
            rw [Int.toNat_natCast, hrl] at h9
            exact ⟨⟨k + 1, _, rfl, by omega, HS2, ⟨Kd.R_drewN h9 1⟩, ⟨pw_below_drewN (HBB.out.setCell (p := ⟨gr, k, none⟩) gr1 _) 1⟩⟩, by show (m + 1) - ((k : Int) + 1).toNat < (m + 1) - (k : Int).toNat; omega⟩
          · obtain rfl : k = m + 1 := by omega
            have hq := HH2.out.2.2.2.2.2.2.2.1
            have zq := (Array.getElem?_eq_some_iff.1 hq).1
            have hqr : Boxed wr w.heap.size 46 (.slice (some ⟨gq, 0, none⟩) N cq) := (HBB.out.block _ zq).trans hq
            have f3 := hqr.cell
            have f4 := hqr.frozen
            have hqR := HH2.out.2.2.2.1
            have hql := HH2.out.2.2.2.2.1
            have zg : gq < V.heap.size := by obtain ⟨_, h⟩ := Kd.R_typed hqR gq rfl; exact (Array.getElem?_eq_some_iff.1 h).1
            have hqR2 : Kd.R (Kd.int .u32) 75 wr 0 (fun _ => True) (.slice (some ⟨gq, 0, none⟩) qs.length cq) qs := by rw [hql]; exact Kd.R_step hqR (fun k _ hlt => HBB.out.block k hlt)
            have hrR2 : Kd.R (Kd.int .u32) 75 wr V.heap.size (fun _ => True) (.slice (some ⟨gr, 0, none⟩) rs.length cr) rs := by rw [hrl]; exact HRR.out
            have hcq := Kd.R_reads' hqR2
            have hcr := Kd.R_reads' hrR2
            have HC0 := Aside0.mk (rbare_exact (some ⟨gq, 0, none⟩) cq qs wr hcq.2.2 hcq.2.1)
            have HC1 := Aside0.mk (rbare_exact (some ⟨gr, 0, none⟩) cr rs wr hcr.2.2 hcr.2.1)
            rw [hql] at HC0
            rw [hrl] at HC1
            have HRR2 := Aside0.mk (And.intro hqR2 hrR2)
            clear hq hqR hqR2 hrR2 hcq hcr hqr hql hrl
            go_wp2_with fail
            refine HC0.out.mono ?_
            rintro e w5 ⟨rfl, rfl⟩
            go_wp2_with fail
            refine HC1.out.mono ?_
            rintro e w5 ⟨rfl, rfl⟩
            go_wp2_with fail
            rw [Exit.noGoto_ret]
            obtain ⟨hqR2, hrR2⟩ := HRR2.out
            have hq := HH2.out.2.2.2.2.2.2.2.1
            have hgr := HV.out.1
            have hDq : D ≠ w.heap.size := fun e => by subst e; rw [hq] at hK; cases hK
            have hDg : D ≠ gq := fun e => by
              obtain ⟨_, h⟩ := Kd.R_typed HH2.out.2.2.2.1 gq rfl
              rw [← e, hK] at h
              cases h
            have zD' := (Array.getElem?_eq_some_iff.1 hK).1
            have hDr : D ≠ gr := by omega
            have hKw : wr.heap[D]? = some (.deferred (some [])) := (HBB.out.block D zD').trans hK
            have hKs : (wr.setCell ⟨w.heap.size, 0, none⟩ (.slice (some ⟨gq, 0, none⟩) (strip qs).length cq)).heap[D]? = some (.deferred (some [])) := (Below.heap_setCell wr ⟨w.heap.size, 0, none⟩ _ D hDq).trans hKw
            have zs : (wr.setCell ⟨w.heap.size, 0, none⟩ (.slice (some ⟨gq, 0, none⟩) (strip qs).length cq)).heap.size = wr.heap.size := by simp [World.setCell]
            have zw := HBB.out.size
            have hX : ∀ k, k < wr.heap.size → k ≠ D → k ≠ w.heap.size → ((wr.setCell ⟨w.heap.size, 0, none⟩ (.slice (some ⟨gq, 0, none⟩) (strip qs).length cq)).putObj D (.deferred none)).heap[k]? = wr.heap[k]? := fun k h1 h2 h3 =>
              ((grownBy_putObj' _ D _).block k (by rw [zs]; exact h1) (fun e => h2 (by cases e; rfl))).trans (Below.heap_setCell wr ⟨w.heap.size, 0, none⟩ _ k h3)
            have hqr : Boxed wr w.heap.size 46 (.slice (some ⟨gq, 0, none⟩) N cq) := (HBB.out.block _ zq).trans hq
            have hqX : Boxed ((wr.setCell ⟨w.heap.size, 0, none⟩ (.slice (some ⟨gq, 0, none⟩) (strip qs).length cq)).putObj D (.deferred none)) w.heap.size 46 (.slice (some ⟨gq, 0, none⟩) (strip qs).length cq) :=
              ((grownBy_putObj' _ D _).block _ (by rw [zs]; omega) (fun e => hDq (by cases e; rfl))).trans (hqr.set _)
            have hcX := hqX.cell
            obtain ⟨E1, E2⟩ := rest_done HRS.out HH2.out.2.2.2.2.2.2.1 HV.out.2.1 HUL2.out HH2.out.2.2.2.2.2.1 HP.out.2.2.1 HF.out.2
            refine post_mark hKs (v := .tuple #[.slice (some ⟨gq, 0, none⟩) (strip qs).length cq, .slice (some ⟨gr, 0, none⟩) (strip rs).length cr]) (by simp [results, Try.results78, go_sem, hcX]) ⟨_, _, rfl, ?_, ?_, ?_⟩
            · rw [← E1]
              refine R_strip (Kd.R_mono (ok := fun k => k = gq) ?_ (fun k hk => by subst hk; simp [Value.ownBlock]; omega))
              refine Kd.R_step (R_raise (Kd.R_flat (fun h => h) hqR2 (fun k hk _ => by simpa [Value.ownBlock] using hk.symm)) (fun k hk => ?_)) (fun k hk _ => ?_)
              · have : gq = k := by simpa [Value.ownBlock] using hk
                omega
              · subst hk
                exact hX k (by omega) (Ne.symm hDg) (by omega)
            · rw [← E2]
              refine R_strip (Kd.R_mono (ok := fun k => k = gr) ?_ (fun k hk => by subst hk; simp [Value.ownBlock]; omega))
              refine Kd.R_step (R_raise (Kd.R_flat (fun h => h) hrR2 (fun k hk _ => by simpa [Value.ownBlock] using hk.symm)) (fun k hk => ?_)) (fun k hk _ => ?_)
              · have : gr = k := by simpa [Value.ownBlock] using hk
                omega
              · subst hk
                exact hX k (by omega) (Ne.symm hDr) (by omega)
            · exact below_mark ((HH2.out.2.2.2.2.2.2.2.2.2.1.trans (HBB.out.mono (by omega))).setCell (p := ⟨w.heap.size, 0, none⟩) (Nat.le_refl _) _) hDw hKs
      case stop => exact fun D c pre W _ _ h _ => h.elim
  · rw [if_neg hok] at h
    cases h
end Go.Proofs.Ytlifengbicpppaa.G
end
section
namespace Go.Proofs.Ytlifengbicpppaa.Num
open Go.Proofs.YtlifengbicpppaaW.PrintWords
/-- A digit of the quotient, down to a bit. -/
structure PI (N V k r q : Nat) : Prop where
  sum : N = q * V + r
  lt : r < 2 ^ k * V
  le : q + 2 ^ k ≤ 256
theorem PI.start {V r a : Nat} (h : r < V) (ha : a < 256) : PI (256 * r + a) V 8 (256 * r + a) 0 := ⟨by omega, by show 256 * r + a < 256 * V; omega, by decide⟩
theorem PI.no {N V k r q : Nat} (h : PI N V (k + 1) r q) (hr : r < 2 ^ k * V) : PI N V k r q := ⟨h.sum, hr, by have := h.le; rw [Nat.pow_succ] at this; omega⟩
theorem PI.yes {N V k r q : Nat} (h : PI N V (k + 1) r q) (hr : ¬ r < 2 ^ k * V) : PI N V k (r - 2 ^ k * V) (q + 2 ^ k) := by
  obtain ⟨h1, h2, h3⟩ := h
  rw [Nat.pow_succ] at h2 h3
  have e : 2 ^ k * 2 * V = 2 ^ k * V + 2 ^ k * V := by rw [Nat.mul_comm (2 ^ k) 2, Nat.mul_assoc]; omega
  rw [e] at h2
  refine ⟨?_, by omega, by omega⟩
  rw [Nat.add_mul]
  omega
/-- The digits from a place on. -/
structure PO (l qs : List Int) (V j r : Nat) : Prop where
  lt : r < V
  sum : val 256 (l.drop j) = val 256 (qs.drop j) * V + r
  zero : ∀ i, i < j → rd qs (i : Nat) = 0
  dg : Dg 256 qs
  len : qs.length = l.length
theorem PO.start {l : List Int} {V : Nat} (hV : 0 < V) : PO l (List.replicate l.length 0) V l.length 0 :=
  ⟨hV, by simp [val_nil], fun i _ => by simp only [rd, List.getD_eq_getElem?_getD, List.getElem?_replicate]; split <;> rfl, Dg.replicate (by decide) _, by simp⟩
theorem PO.step {l qs : List Int} {V j r r' q : Nat} (h : PO l qs V (j + 1) r) (hj : j < l.length) (hp : PI (256 * r + (rd l (j : Int)).toNat) V 0 r' q) : PO l (qs.set j (q : Int)) V j r' := by
  obtain ⟨h1, h2, h3, h4, h5⟩ := h
  obtain ⟨p1, p2, p3⟩ := hp
  rw [Nat.pow_zero, Nat.one_mul] at p2
  rw [Nat.pow_zero] at p3
  refine ⟨p2, ?_, fun i hi => ?_, h4.set _ (by omega) (by omega), by simp [h5]⟩
  · rw [drop_rd l j hj, drop_rd (qs.set j (q : Int)) j (by simp; omega), val_cons, val_cons, h2]
    have e1 : rd (qs.set j (q : Int)) (j : Int) = (q : Int) := by simp [rd, List.getD_eq_getElem?_getD, show j < qs.length by omega]
    have e2 : (qs.set j (q : Int)).drop (j + 1) = qs.drop (j + 1) := by
      apply List.ext_getElem?
      intro i
      rw [List.getElem?_drop, List.getElem?_drop, List.getElem?_set_ne (by omega)]
    rw [e1, e2, Int.toNat_natCast, Nat.add_mul, Nat.mul_add, Nat.mul_assoc]
    omega
  · have : rd (qs.set j (q : Int)) ((i : Nat) : Int) = rd qs ((i : Nat) : Int) := by simp [rd, List.getD_eq_getElem?_getD, List.getElem?_set_ne (show j ≠ i by omega)]
    rw [this]
    exact h3 i (by omega)
theorem PO.done {l qs : List Int} {V r : Nat} (h : PO l qs V 0 r) : strip qs = digs 256 (val 256 l / V) ∧ r = val 256 l % V := by
  obtain ⟨h1, h2, -, h4, -⟩ := h
  rw [List.drop_zero, List.drop_zero] at h2
  rw [← digs_val (by decide) h4, h2]
  have hV : 0 < V := by omega
  constructor
  · rw [Nat.add_comm, Nat.add_mul_div_right _ _ hV, Nat.div_eq_of_lt h1, Nat.zero_add]
  · rw [Nat.add_comm, Nat.add_mul_mod_self_right, Nat.mod_eq_of_lt h1]
end Go.Proofs.Ytlifengbicpppaa.Num
end
section
namespace Go.Proofs.Ytlifengbicpppaa.G
open Go.RowKit Go.Proofs.YtlifengbicpppaaW.PrintWords Go.Proofs.YtlifengbicpppaaW.PrintLast Go.Proofs.YtlifengbicpppaaW.PrintMore
open Go.Proofs.Ytlifengbicpppaa.Num
set_option maxHeartbeats 1000000 in
set_option maxRecDepth 100000 in
theorem short_exact (A : Option Addr) (c : Nat) (l : List Int) (w : World) (hr : Kd.C (Kd.int .i64) w A l.length l) (hc : l.length ≤ c) :
    Calls Try.prog 115 #[.slice A l.length c] w fun e w' => e = .returned (.slice A (strip l).length c) ∧ w = w' := by
  have hm := hr.2.1
  have HR := Aside0.mk hr
  clear hr
  go_enter Try.func115, Try.ntmps115
  go_wp2
  go_loop [3] (fun v => ∃ k : Nat, v = .int .i64 k ∧ k ≤ l.length ∧ Aside0 (strip l = strip (l.take k))) (fun v => (intOf v).toNat)
  case atStart => exact ⟨l.length, rfl, Nat.le_refl _, ⟨by rw [List.take_length]⟩⟩
  case round =>
    obtain ⟨k, rfl, hk, HA⟩ := hrel
    rcases Nat.eq_zero_or_pos k with rfl | hpos
    · have hd : decide ((0 : Int) > 0) = false := by decide
      go_wp2
      go_ret
      have := HA.out
      simp only [List.take_zero, strip] at this
      exact ⟨by rw [this]; rfl, rfl⟩
    · obtain ⟨m, rfl⟩ : ∃ m, k = m + 1 := ⟨k - 1, by omega⟩
      obtain ⟨ad, rfl, hcell⟩ := Kd.at_int HR.out (m : Int) (by omega) (by omega)
      simp only [Int.toNat_natCast] at hcell
      have HT := Aside0.mk (take_snoc_int l m (by omega))
      by_cases hx : rd l m = 0
      · have e1 : (rd l m == 0) = true := by simp [hx]
        have HX := Aside0.mk hx
        clear hx
        go_wp2
        go_round
        case rel => exact ⟨m, rfl, by omega, ⟨by rw [HA.out, HT.out, HX.out, strip_snoc_zero]⟩⟩
        case measure => simp [intOf]
      · have e1 : (rd l m == 0) = false := by simp [hx]
        have HX := Aside0.mk hx
        clear hx
        go_wp2
        go_ret
        refine ⟨?_, rfl⟩
        rw [HA.out, HT.out, strip_snoc _ HX.out]
        simp only [List.length_append, List.length_take, List.length_cons, List.length_nil]
        rw [Nat.min_eq_left (by omega)]
        rfl
theorem C_strip8 {w : World} {A : Option Addr} {l : List Int} (h : Kd.C (Kd.int .i64) w A l.length l) : Kd.C (Kd.int .i64) w A (strip l).length (strip l) := by
  have := Kd.C_take (m := (strip l).length) h (strip_length l)
  rw [← strip_prefix] at this
  exact this
set_option maxHeartbeats 1000000 in
set_option maxRecDepth 100000 in
theorem less_exact (A0 : Option Addr) (c0 : Nat) (l0 : List Int) (A1 : Option Addr) (c1 : Nat) (l1 : List Int) (w : World) (hr0 : Kd.C (Kd.int .i64) w A0 l0.length l0) (hc0 : l0.length ≤ c0) (hr1 : Kd.C (Kd.int .i64) w A1 l1.length l1) (hc1 : l1.length ≤ c1)
    (d0 : Dg 256 l0) (d1 : Dg 256 l1) :
    Calls Try.prog 122 #[.slice A0 l0.length c0, .slice A1 l1.length c1] w fun e w' => e = .returned (.bool (decide (val 256 l0 < val 256 l1))) ∧ ∃ n, w' = w.drewN n := by
  have HX := Aside0.mk (short_exact A0 c0 l0 w hr0 hc0)
  have HY := Aside0.mk (short_exact A1 c1 l1 w hr1 hc1)
  have hr0 := C_strip8 hr0
  have hr1 := C_strip8 hr1
  rw [← val_strip l0, ← val_strip l1]
  have d0 := strip_Dg d0
  have d1 := strip_Dg d1
  have HS0 := Aside0.mk (strip_strip l0)
  have HS1 := Aside0.mk (strip_strip l1)
  obtain ⟨v, hv⟩ : ∃ v, v = decide (val 256 (strip l0) < val 256 (strip l1)) := ⟨_, rfl⟩
  rw [← hv]
  have HV := Aside0.mk hv
  clear hv
  go_enter Try.func122, Try.ntmps122
  go_wp2_with fail
  refine HX.out.mono ?_
  rintro e w2 ⟨rfl, rfl⟩
  go_wp2_with fail
  refine HY.out.mono ?_
  rintro e w2 ⟨rfl, rfl⟩
  clear HX HY hc0 hc1
  generalize strip l0 = x at *
  generalize strip l1 = y at *
  have hm0 := hr0.2.1
  have hm1 := hr1.2.1
  have HR0 := Aside0.mk hr0
  have HR1 := Aside0.mk hr1
  have HD := Aside0.mk (And.intro d0 d1)
  clear hr0 hr1 d0 d1
  by_cases hl : x.length = y.length
  · have e1 : ((x.length : Int) != (y.length : Int)) = false := by simp [hl]
    have HL := Aside0.mk hl
    clear hl
    go_wp2
    go_loopw [5] (fun i wr => ∃ k : Nat, i = .int .i64 ((k : Int) - 1) ∧ k ≤ x.length ∧ Aside0 (x.drop k = y.drop k) ∧ ∃ n, wr = w.drewN n) (fun i _ => ((intOf i) + 1).toNat)
    case atStart => exact ⟨x.length, rfl, Nat.le_refl _, ⟨by rw [List.drop_length, HL.out, List.drop_length]⟩, 0, rfl⟩
    case round =>
      obtain ⟨k, rfl, hk, HA, n, rfl⟩ := hrel
      rcases Nat.eq_zero_or_pos k with rfl | hpos
      · go_wp2
        go_ret
        have := HA.out
        simp only [List.drop_zero] at this
        refine ⟨?_, _, rfl⟩
        rw [HV.out, this]
        simp
      · obtain ⟨m, rfl⟩ : ∃ m, k = m + 1 := ⟨k - 1, by omega⟩
        rw [show (((m + 1 : Nat) : Int) - 1) = (m : Int) by omega]
        obtain ⟨ad0, rfl, hcell0⟩ := Kd.at_int HR0.out (m : Int) (by omega) (by omega)
        obtain ⟨ad1, rfl, hcell1⟩ := Kd.at_int HR1.out (m : Int) (by omega) (by have := HL.out; omega)
        simp only [Int.toNat_natCast] at hcell0 hcell1
        have hlt0 : (m : Int) < (x.length : Int) := by omega
        have hlt1 : (m : Int) < (y.length : Int) := by have := HL.out; omega
        have HT := Aside0.mk (And.intro (drop_rd x m (by omega)) (drop_rd y m (by omega)))
        by_cases hx : rd x m = rd y m
        · have e2 : (rd x m != rd y m) = false := by simp [hx]
          have HX := Aside0.mk hx
          clear hx
          go_wp2
          go_quiet (fail)
          go_wp2
          exact ⟨⟨m, rfl, by omega, ⟨by rw [HT.out.1, HT.out.2, HX.out, HA.out]⟩, _, by first | rfl | rw [World.drewN_drewN]⟩, by simp [intOf]⟩
        · have e2 : (rd x m != rd y m) = true := by simp [hx]
          have HX := Aside0.mk hx
          clear hx
          go_wp2
          go_quiet (fail)
          go_wp2
          go_quiet (fail)
          go_wp2
          go_ret
          refine ⟨?_, _, (World.drewN_drewN _ _ _).trans (World.drewN_drewN _ _ _)⟩
          rw [HV.out]
          congr 2
          rcases Int.lt_trichotomy (rd x m) (rd y m) with h | h | h
          · have := val_lt_top (b := 256) (by decide) HD.out.1 HD.out.2 (by omega) (by omega) HA.out h
            simp [h, this]
          · exact (HX.out h).elim
          · have := val_lt_top (b := 256) (by decide) HD.out.2 HD.out.1 (by omega) (by omega) HA.out.symm h
            have h1 : ¬ rd x m < rd y m := by omega
            have h2 : ¬ val 256 x < val 256 y := by omega
            simp [h1, h2]
  · have e1 : ((x.length : Int) != (y.length : Int)) = true := by simp; omega
    have HL := Aside0.mk hl
    clear hl
    go_wp2
    go_ret
    refine ⟨?_, 0, rfl⟩
    rw [HV.out]
    congr 2
    have := HL.out
    rcases Nat.lt_or_ge x.length y.length with h | h
    · have := val_lt_len (b := 256) (by decide) HD.out.1 HD.out.2 HS1.out h
      simp [h, this]
    · have := val_lt_len (b := 256) (by decide) HD.out.2 HD.out.1 HS0.out (by omega)
      have h2 : ¬ val 256 x < val 256 y := by omega
      have h1 : ¬ (x.length : Int) < (y.length : Int) := by omega
      simp [h2]
      omega
end Go.Proofs.Ytlifengbicpppaa.G
end
section
namespace Go.Proofs.Ytlifengbicpppaa.G
open Go.RowKit Go.Proofs.YtlifengbicpppaaW.PrintWords Go.Proofs.YtlifengbicpppaaW.PrintLast Go.Proofs.YtlifengbicpppaaW.PrintMore
open Go.Proofs.Ytlifengbicpppaa.Num
def dig8 (l : List Int) : Bool := l.all (fun x => decide (0 ≤ x) && decide (x < 256)) && decide (l.length < 1000000)
theorem dig8_spec {l : List Int} (h : dig8 l = true) : Dg 256 l ∧ l.length < 1000000 := by
  simp only [dig8, Bool.and_eq_true, decide_eq_true_eq, List.all_eq_true] at h
  exact ⟨fun x hx => h.1 x hx, h.2⟩
theorem dig8_of {l : List Int} (h : Dg 256 l) (hl : l.length < 1000000) : dig8 l = true := by
  simp only [dig8, Bool.and_eq_true, decide_eq_true_eq, List.all_eq_true]
  exact ⟨fun x hx => h x hx, hl⟩
/-- Quotient and rest. -/
def postmarkref06_Parts.f (x y : List Int) : Option (List Int × List Int) :=
  if dig8 x && dig8 y && decide (0 < val 256 y) then some (digs 256 (val 256 x / val 256 y), digs 256 (val 256 x % val 256 y)) else none
theorem info100 : (Try.prog.info? 100).map (fun i => (i.zero, i.size, i.bytes)) = some (some (.slice none 0 0), 1, 24) := by kernel_rfl
theorem own_cell {W : World} {base g n cap e : Nat} {xs : List Value} (h : W.ownsRow base e 1 (.slice (some ⟨g, 0, none⟩) n cap) n xs) {i : Nat} {u : Value} (hu : xs[i]? = some u) : W.cell? ⟨g, i, none⟩ = some u := by
  obtain ⟨hl, h | ⟨g', cap', cur, e1, -, hb, h1, h2, hs, ht⟩⟩ := h
  · cases h.1
  · cases e1
    rw [← ht, Nat.mul_one] at hu
    rw [List.getElem?_take] at hu
    split at hu
    · simp only [World.cell?, hb]
      simpa using hu
    · cases hu
/-- The divisor's multiples, read: the elements of a slice in block g. -/
def MM (W : World) (V n g : Nat) (xs : List Value) : Prop :=
  xs.length = n ∧ ∀ i, i < n → ∃ A c, xs[i]? = some (.slice A (digs 256 (2 ^ i * V)).length c) ∧ (digs 256 (2 ^ i * V)).length ≤ c ∧ Kd.C (Kd.int .i64) W A (digs 256 (2 ^ i * V)).length (digs 256 (2 ^ i * V)) ∧
    ∀ ad, A = some ad → 0 < (digs 256 (2 ^ i * V)).length → ad.block ≠ g ∧ ad.block < W.heap.size
theorem C_to {W W' : World} {A : Option Addr} {n : Nat} {xs : List Int} (h : Kd.C (Kd.int .i64) W A n xs) (hk : ∀ ad, A = some ad → 0 < n → W'.heap[ad.block]? = W.heap[ad.block]?) : Kd.C (Kd.int .i64) W' A n xs := by
  refine C_same h (fun ad hA hn j => ?_)
  have hb : (ad.add j).block = ad.block := by unfold Addr.add; split <;> rfl
  simp only [World.cell?, hb, hk ad hA hn]
theorem MM.to {W W' : World} {V n g g' : Nat} {xs : List Value} (h : MM W V n g xs) (hs : W.heap.size ≤ W'.heap.size) (hb : ∀ k, k < W.heap.size → k ≠ g → W'.heap[k]? = W.heap[k]?) (hg : g' = g ∨ W.heap.size ≤ g') : MM W' V n g' xs := by
  refine ⟨h.1, fun i hi => ?_⟩
  obtain ⟨A, c, h1, h2, h3, h4⟩ := h.2 i hi
  refine ⟨A, c, h1, h2, C_to h3 (fun ad e hn => hb _ (h4 ad e hn).2 (h4 ad e hn).1), fun ad e hn => ?_⟩
  have := h4 ad e hn
  omega
theorem MM.snoc {W : World} {V n g : Nat} {xs : List Value} (h : MM W V n g xs) {A : Option Addr} {c : Nat} (h2 : (digs 256 (2 ^ n * V)).length ≤ c) (h3 : Kd.C (Kd.int .i64) W A (digs 256 (2 ^ n * V)).length (digs 256 (2 ^ n * V)))
    (h4 : ∀ ad, A = some ad → 0 < (digs 256 (2 ^ n * V)).length → ad.block ≠ g ∧ ad.block < W.heap.size) : MM W V (n + 1) g (xs ++ [.slice A (digs 256 (2 ^ n * V)).length c]) := by
  have hl := h.1
  refine ⟨by simp [hl], fun i hi => ?_⟩
  by_cases hin : i < n
  · obtain ⟨A', c', k1, k2⟩ := h.2 i hin
    exact ⟨A', c', by rw [List.getElem?_append_left (by omega)]; exact k1, k2⟩
  · obtain rfl : i = n := by omega
    exact ⟨A, c, by rw [List.getElem?_append_right (by omega), hl]; simp, h2, h3, h4⟩
theorem R_strip64 {w : World} {base : Nat} {ok : Nat → Prop} {A : Option Addr} {c : Nat} {l : List Int} (h : Kd.R (Kd.int .i64) 3 w base ok (.slice A l.length c) l) : Kd.R (Kd.int .i64) 3 w base ok (.slice A (strip l).length c) (strip l) := by
  have := Kd.R_take (m := (strip l).length) h (strip_length l)
  rw [← strip_prefix] at this
  exact this
theorem set_same {l : List Int} {m : Nat} {x : Int} (h : rd l (m : Int) = x) : l.set m x = l := by
  apply List.ext_getElem?
  intro i
  by_cases hi : m = i
  · subst hi
    by_cases hm : m < l.length
    · rw [List.getElem?_set_self hm]
      have : rd l (m : Int) = l[m] := by simp [rd, hm]
      rw [← h, this, List.getElem?_eq_getElem hm]
    · rw [List.getElem?_eq_none (by simp; omega), List.getElem?_eq_none (by omega)]
  · rw [List.getElem?_set_ne hi]
theorem rd_set_self {l : List Int} {m : Nat} (x : Int) (h : m < l.length) : rd (l.set m x) (m : Int) = x := by simp [rd, List.getD_eq_getElem?_getD, h]
set_option maxHeartbeats 4000000 in
set_option maxRecDepth 100000 in
theorem postmarkref06_Parts.calls (A0 : Option Addr) (c0 : Nat) (l0 : List Int) (A1 : Option Addr) (c1 : Nat) (l1 : List Int) (r0 r1 : List Int) (w : World) (hr0 : Kd.C (Kd.int .i64) w A0 l0.length l0) (hc0 : l0.length ≤ c0) (hr1 : Kd.C (Kd.int .i64) w A1 l1.length l1) (hc1 : l1.length ≤ c1) (h : postmarkref06_Parts.f l0 l1 = some (r0, r1)) :
    Calls Try.prog 79 #[.slice A0 l0.length c0, .slice A1 l1.length c1] w fun e w' => ∃ v0_ v1_ : Value, e = .returned (.tuple #[v0_, v1_]) ∧ Kd.R (Kd.int .i64) 3 w' w.heap.size (fun k_ => some k_ ≠ (v1_ : Value).ownBlock) v0_ r0 ∧ Kd.R (Kd.int .i64) 3 w' w.heap.size (fun k_ => some k_ ≠ (v0_ : Value).ownBlock) v1_ r1 ∧ Below w.heap.size w w' := by
  unfold postmarkref06_Parts.f at h
  by_cases hok : (dig8 l0 && dig8 l1 && decide (0 < val 256 l1)) = true
  · rw [if_pos hok] at h
    simp only [Bool.and_eq_true, decide_eq_true_eq] at hok
    obtain ⟨⟨ht0, ht1⟩, hV⟩ := hok
    obtain ⟨rfl, rfl⟩ := Prod.mk.inj (Option.some.inj h)
    clear h
    obtain ⟨d0, m0⟩ := dig8_spec ht0
    obtain ⟨d1, m1⟩ := dig8_spec ht1
    clear ht0 ht1
    have hsd := digs_val (b := 256) (by decide) d1
    have hlen := strip_length l1
    have HX := Aside0.mk (short_exact A1 c1 l1 w hr1 hc1)
    have hC1 := C_strip8 hr1
    rw [← hsd] at HX hC1 hlen
    have hdl : ∀ i, i ≤ 8 → (digs 256 (2 ^ i * val 256 l1)).length ≤ 1000001 := fun i hi => by
      refine Nat.le_trans ((digs_len (by decide) _ (l1.length + 1)).2 ?_) (by omega)
      have h1 := val_lt d1
      have h2 : 2 ^ i ≤ 2 ^ 8 := Nat.pow_le_pow_right (by decide) hi
      have h4 : 2 ^ i * val 256 l1 ≤ 2 ^ 8 * val 256 l1 := Nat.mul_le_mul_right _ h2
      rw [Nat.pow_succ]
      generalize 256 ^ l1.length = z at *
      omega
    have HDL := Aside0.mk hdl
    have hcle : (digs 256 (val 256 l1)).length ≤ c1 := Nat.le_trans hlen hc1
    generalize val 256 l1 = V at *
    have H1 := Aside0.mk (And.intro hC1 hcle)
    have H0 := Aside0.mk (And.intro hr0 (And.intro d0 hc0))
    have HV := Aside0.mk hV
    clear hsd hlen hr1 hc1 d1 m1 hdl hC1 hcle hr0 d0 hc0 hV
    go_enter Try.func79, Try.ntmps79
    go_wp2_with fail
    refine HX.out.mono ?_
    rintro e w2 ⟨rfl, rfl⟩
    clear HX
    go_wp2_with fail
    have hMM : MM (w.alloc (.cells #[.slice A1 (digs 256 V).length c1] 100)) V 1 w.heap.size [.slice A1 (digs 256 V).length c1] := by
      refine ⟨rfl, fun i hi => ?_⟩
      obtain rfl : i = 0 := by omega
      rw [show 2 ^ 0 * V = V by omega]
      exact ⟨A1, c1, rfl, H1.out.2, Kd.C_alloc H1.out.1 _, fun ad e hn => by have := C_lt H1.out.1 ad e hn; simp; omega⟩
    have hown : (w.alloc (.cells #[.slice A1 (digs 256 V).length c1] 100)).ownsRow w.heap.size 100 1 (.slice (some ⟨w.heap.size, 0, none⟩) 1 1) 1 [.slice A1 (digs 256 V).length c1] :=
      ⟨rfl, .inr ⟨_, _, _, rfl, Nat.le_refl _, World.alloc_heap_new w _, Nat.le_refl _, by decide, rfl, rfl⟩⟩
    have hB1 : Below w.heap.size w (w.alloc (.cells #[.slice A1 (digs 256 V).length c1] 100)) := (Below.refl _ w).alloc (Nat.le_refl _) _
    have HI := Aside0.mk (And.intro hMM (And.intro hown hB1))
    clear hMM hown hB1
    go_loopw [7, 6] (fun a b wr => ∃ (j g cap : Nat) (xs : List Value), a = .int .i64 j ∧ b = .slice (some ⟨g, 0, none⟩) j cap ∧ 1 ≤ j ∧ j ≤ 8 ∧ Aside0 (MM wr V j g xs ∧ wr.ownsRow w.heap.size 100 1 (.slice (some ⟨g, 0, none⟩) j cap) j xs ∧ Below w.heap.size w wr)) (fun a _ _ => 8 - (intOf a).toNat)
    case atStart => exact ⟨1, _, _, _, rfl, rfl, by omega, by omega, HI⟩
    case round =>
      obtain ⟨j, g, cap, xs, rfl, rfl, hj1, hj8, HJ⟩ := hrel
      by_cases hlt : j < 8
      · obtain ⟨A, c, k1, k2, k3, k4⟩ := HJ.out.1.2 (j - 1) (by omega)
        have f0 := own_cell HJ.out.2.1 k1
        obtain ⟨m, rfl⟩ : ∃ m, j = m + 1 := ⟨j - 1, by omega⟩
        rw [Nat.add_sub_cancel] at f0 k2 k3 k4
        obtain ⟨kr, hkr⟩ := (twice_ev _ (digs_Dg (b := 256) (by decide) (2 ^ m * V)) (by have := HDL.out m (by omega); omega)).rounds
        rw [val_digs (by decide)] at hkr
        have HT := Aside0.mk (postmarkref06_twice.calls kr A c _ _ wr k3 k2 hkr)
        have hm : (m : Int) + 1 < 8 := by omega
        have hbz := HJ.out.2.2.size
        clear k1 k2 k3 k4 hkr
        go_wp2_with fail
        refine HT.out.mono ?_
        rintro e w3 ⟨v3, rfl, hR3, hB3⟩
        rw [show 2 * (2 ^ m * V) = 2 ^ (m + 1) * V by rw [Nat.pow_succ, Nat.mul_comm (2 ^ m) 2, Nat.mul_assoc]] at hR3
        obtain ⟨A3, c3, rfl⟩ := Kd.R_slice hR3
        have hc3 := Kd.R_reads' hR3
        have hb3 : ∀ ad, A3 = some ad → 0 < (digs 256 (2 ^ (m + 1) * V)).length → wr.heap.size ≤ ad.block ∧ ad.block < w3.heap.size := fun ad e _ => by
          have h := (Kd.R_bound hR3).1 ad.block (by rw [e]; rfl)
          exact ⟨h.2.1, h.2.2.1⟩
        have hg : g < wr.heap.size := by
          obtain ⟨_, h | ⟨g', _, _, e1, _, hb, _⟩⟩ := HJ.out.2.1
          · cases h.1
          · cases e1; exact (Array.getElem?_eq_some_iff.1 hb).1
        have hM3 : MM w3 V (m + 1 + 1) g (xs ++ [.slice A3 (digs 256 (2 ^ (m + 1) * V)).length c3]) :=
          (HJ.out.1.to hB3.size (fun k hk _ => hB3.block k hk) (.inl rfl)).snoc hc3.2.1 hc3.2.2 (fun ad e hn => by have := hb3 ad e hn; omega)
        have hO3 : w3.ownsRow w.heap.size 100 1 (.slice (some ⟨g, 0, none⟩) (m + 1) cap) xs.length xs := by rw [HJ.out.1.1]; exact own_move HJ.out.2.1 (fun k hk => by cases hk; exact hB3.block _ hg)
        have HH := Aside0.mk (And.intro hM3 (And.intro hO3 (And.intro (HJ.out.2.2.trans (hB3.mono hbz)) (And.intro HJ.out.1.1 hB3.size))))
        clear hM3 hO3 hb3 hc3 hR3 hB3
        go_wp2_with (at_builtin; refine print_append (w0 := w) w.heap.size rfl _ _ 147 100 (.slice none 0 0) 24 rfl Try.underlying147 info100 rfl (by decide) (.slice (some ⟨g, 0, none⟩) (m + 1) cap) xs (.slice A3 (digs 256 (2 ^ (m + 1) * V)).length c3) rfl rfl rfl HH.out.2.1 HH.out.2.2.1 (by have := HH.out.2.2.2.2; omega) (by have := HH.out.2.2.2.1; omega) ?_; intro v4 w4 hown4 hb4 hg4 hat4; obtain ⟨q4, z4⟩ : ∃ q, q = (xs ++ [Value.slice A3 (digs 256 (2 ^ (m + 1) * V)).length c3]) := ⟨_, rfl⟩; rw [← z4] at hown4; have HQ := Aside0.mk (And.intro z4 (And.intro hown4 (And.intro hb4 (And.intro hg4 hat4)))); clear z4 hown4 hb4 hg4 hat4)
        obtain ⟨z4, hown4, hb4, hg4, hat4⟩ := HQ.out
        have hl4 : q4.length = m + 1 + 1 := by rw [z4, List.length_append, HH.out.2.2.2.1]; rfl
        rw [hl4] at hown4
        obtain ⟨g4, cap4, rfl⟩ := ownsRow_succ hown4
        refine ⟨⟨m + 1 + 1, g4, cap4, q4, rfl, rfl, by omega, by omega, ⟨?_, hown4, hb4⟩⟩, by simp [intOf]; omega⟩
        rw [z4]
        refine HH.out.1.to hg4.size (fun k hk hne => hg4.block k hk (fun e => hne (by cases e; rfl))) ?_
        rcases hat4 with h | ⟨b, h1, h2⟩
        · left; cases h; rfl
        · right; cases h1; exact h2
      · obtain rfl : j = 8 := by omega
        generalize wr = Wa at *
        clear wr
        have hbz := HJ.out.2.2.size
        have hl0 := H0.out.1.2.1
        have HM0 := Aside0.mk m0
        go_wp2_with (first
          | ((with_reducible refine gate_dst (N := 32) rfl ?_); refine Kd.R_make (Kd.int .i64) Wa.heap.size 3 rfl (N := 32) rfl 100 _ _ rfl (l0.length : Int) rfl rfl Try.underlying100 (.int .i64 0) 8 info3 rfl (by decide) (by omega) 0 (ok := fun _ => True) (okp := fun _ => True) rfl (fun _ hk => hk) trivial (by omega) (by omega) (Below.refl _ _) (Nat.le_refl _) ?_; intro vq W4 hq hbq hgq hnq; rw [Int.toNat_natCast] at hq; have HQ := Aside0.mk (And.intro hq hbq); clear hq hbq hgq hnq))
        go_loopw [10, 9] (fun a b wv => ∃ (j Rm : Nat) (qs : List Int), a = .int .i64 ((j : Int) - 1) ∧ j ≤ l0.length ∧ Aside0 (Kd.R (Kd.int .i64) 3 wv Wa.heap.size (fun k => some k ≠ vq.ownBlock) b (digs 256 Rm)) ∧ Aside0 (PO l0 qs V j Rm) ∧ Aside0 (Kd.R (Kd.int .i64) 3 wv Wa.heap.size (fun _ => True) vq qs) ∧ Aside0 (Below Wa.heap.size Wa wv)) (fun a _ _ => ((intOf a) + 1).toNat)
        case atStart => exact ⟨l0.length, 0, _, rfl, Nat.le_refl _, ⟨Kd.R_nil _ _ _ _ _⟩, ⟨PO.start HV.out⟩, ⟨HQ.out.1⟩, ⟨HQ.out.2⟩⟩
        case round =>
          obtain ⟨j, Rm, qs, rfl, hj, HR, HP, HQR, HB⟩ := hrel
          generalize wr = wv at *
          clear wr
          rcases Nat.eq_zero_or_pos j with rfl | hpos
          · obtain ⟨Aq, cq, rfl⟩ := Kd.R_slice HQR.out
            have hqr := Kd.R_reads' HQR.out
            have HS := Aside0.mk (short_exact Aq cq _ wv hqr.2.2 hqr.2.1)
            clear hqr
            go_wp2_with fail
            refine HS.out.mono ?_
            rintro e w6 ⟨rfl, rfl⟩
            go_wp2_with fail
            go_ret2
            obtain ⟨E1, E2⟩ := HP.out.done
            have eo : ∀ n, (Value.slice Aq n cq).ownBlock = (Value.slice Aq qs.length cq).ownBlock := fun n => by cases Aq <;> rfl
            have hzx := HJ.out.2.2.size
            refine ⟨.slice Aq (strip qs).length cq, _, rfl, ?_, ?_, HJ.out.2.2.trans (HB.out.mono hzx)⟩
            · rw [← E1]
              refine Kd.R_lower (Kd.R_flat (fun h => h) (R_strip64 HQR.out) (fun k hk _ e => ?_)) hzx
              rw [eo] at hk
              exact HR.out.1 k e.symm hk.symm
            · rw [← E2]
              exact Kd.R_mono (Kd.R_lower HR.out hzx) (fun k hk => by rw [eo]; exact hk)
          · obtain ⟨m, rfl⟩ : ∃ m, j = m + 1 := ⟨j - 1, by omega⟩
            rw [show (((m + 1 : Nat) : Int) - 1) = (m : Int) by omega]
            have hr0 : Kd.C (Kd.int .i64) wv A0 l0.length l0 := Kd.C_below H0.out.1 (HJ.out.2.2.trans (HB.out.mono hbz))
            obtain ⟨ad0, rfl, hcell0⟩ := Kd.at_int hr0 (m : Int) (by omega) (by omega)
            simp only [Int.toNat_natCast] at hcell0
            clear hr0
            have hx := rd_dg H0.out.2.1 (by decide) (m : Int)
            have hlt0 : (m : Int) < (l0.length : Int) := by omega
            have HAt := Aside0.mk (show rd l0 (m : Int) = rd l0 (m : Int) from rfl)
            obtain ⟨x, hxe⟩ : ∃ x, x = rd l0 (m : Int) := ⟨_, rfl⟩
            rw [← hxe] at hcell0 hx
            have HXE := Aside0.mk hxe
            clear hxe HAt
            obtain ⟨Ar, cr, rfl⟩ := Kd.R_slice HR.out
            have hown : (wv.alloc (.cells #[.int .i64 x] 3)).ownsRow wv.heap.size 3 1 (.slice (some ⟨wv.heap.size, 0, none⟩) 1 1) 1 (nums .i64 [x]) :=
              ⟨rfl, .inr ⟨_, _, _, rfl, Nat.le_refl _, World.alloc_heap_new wv _, Nat.le_refl _, by decide, rfl, rfl⟩⟩
            have hB1 : Below wv.heap.size wv (wv.alloc (.cells #[.int .i64 x] 3)) := (Below.refl _ wv).alloc (Nat.le_refl _) _
            have hrd : ReadsInt (wv.alloc (.cells #[.int .i64 x] 3)) .i64 Ar (digs 256 Rm).length (digs 256 Rm) := Kd.reads_of_C (enc := Value.int .i64) (d := (0 : Int)) (h1 := fun _ => rfl) (Kd.C_alloc (Kd.R_reads' HR.out).2.2 _)
            have hdr : (digs 256 Rm).length ≤ 1000001 := Nat.le_trans (digs_lt (by decide) (show Rm ≤ 2 ^ 0 * V by have := HP.out.lt; omega)) (HDL.out 0 (by omega))
            have HW := Aside0.mk (And.intro hown (And.intro hB1 (And.intro hrd hdr)))
            clear hown hB1 hrd hdr
            go_wp2_with (first
              | (at_builtin; refine print_append_row (w0 := wv) wv.heap.size rfl _ _ 100 3 .i64 8 rfl Try.underlying100 info3 (by decide) (.slice (some ⟨wv.heap.size, 0, none⟩) 1 1) [x] (digs 256 Rm) Ar _ cr rfl rfl HW.out.1 HW.out.2.2.1 HW.out.2.1 (by simp) (by have := HW.out.2.2.2; simp only [List.length_cons, List.length_nil]; omega) ?_; intro v4 w4 hown4 hb4 hg4 hat4; have HA := Aside0.mk (And.intro hown4 hb4); clear hown4 hb4 hg4 hat4)
              | fail)
            have hR4 : Kd.R (Kd.int .i64) 3 w4 wv.heap.size (fun _ => True) v4 ([x] ++ digs 256 Rm) := Kd.R_of_own HA.out.1 (fun _ _ => trivial)
            obtain ⟨A4, c4, rfl⟩ := Kd.R_slice hR4
            have hrd4 := Kd.R_reads' hR4
            refine (short_exact A4 c4 _ w4 hrd4.2.2 hrd4.2.1).mono ?_
            rintro e w5 ⟨rfl, rfl⟩
            have hst : strip ([x] ++ digs 256 Rm) = digs 256 (256 * Rm + x.toNat) := by
              have h1 := digs_val (b := 256) (by decide) (l := [x] ++ digs 256 Rm) (Dg.cons hx.1 hx.2 (digs_Dg (by decide) _))
              rw [← h1, List.singleton_append, val_cons, val_digs (by decide), Nat.add_comm]
            have hzq : ∀ k, vq.ownBlock = some k → k < wv.heap.size := fun k hk => ((Kd.R_bound HQR.out).1 k hk).2.2.1
            have hzw := HB.out.size
            have hR5 := Kd.R_mono (Kd.R_lower (Kd.R_bound (R_strip64 hR4)) hzw) (ok' := fun k => some k ≠ vq.ownBlock) (fun k hk e => by have := hzq k e.symm; have := hk.2.1; omega)
            rw [hst] at hR5 ⊢
            have hQ5 := Kd.R_below HQR.out HA.out.2
            have HN := Aside0.mk (PI.start HP.out.lt (show x.toNat < 256 by omega))
            have H5 := Aside0.mk (And.intro hR5 (And.intro hQ5 (HB.out.trans (HA.out.2.mono hzw))))
            have HS := Aside0.mk (set_same (HP.out.zero m (by omega)))
            have hxl : 0 ≤ x ∧ x < 256 := hx
            obtain ⟨N, hN⟩ : ∃ N, N = 256 * Rm + x.toNat := ⟨_, rfl⟩
            rw [← hN] at HN H5 ⊢
            have HNN := Aside0.mk hN
            clear hst hR4 hrd4 hzq hzw hR5 hQ5 hN HR HQR HB HW HA
            go_wp2_with fail
            go_loopw [12, 11, 9] (fun a b c wx => ∃ (k R' qd : Nat) (wo : Int), a = .int .i64 ((k : Int) - 1) ∧ b = .int .i64 wo ∧ 0 ≤ wo ∧ wo ≤ 128 ∧ k ≤ 8 ∧ Aside0 (wo = ((2 ^ k / 2 : Nat) : Int)) ∧ Aside0 (PI N V k R' qd) ∧ Aside0 (Kd.R (Kd.int .i64) 3 wx Wa.heap.size (fun k => some k ≠ vq.ownBlock) c (digs 256 R')) ∧ Aside0 (Kd.R (Kd.int .i64) 3 wx Wa.heap.size (fun _ => True) vq (qs.set m (qd : Int))) ∧ Aside0 (Below Wa.heap.size Wa wx)) (fun a _ _ _ => ((intOf a) + 1).toNat)
            case atStart => exact ⟨8, N, 0, 128, rfl, rfl, by omega, by omega, by omega, ⟨rfl⟩, HN, ⟨H5.out.1⟩, ⟨by rw [Int.ofNat_zero, HS.out]; exact H5.out.2.1⟩, ⟨H5.out.2.2⟩⟩
            case round =>
              obtain ⟨k, R', qd, wo, rfl, rfl, hw0, hw1, hk, HWO, HPI, HR, HQR, HB⟩ := hrel
              generalize wr = wx at *
              clear wr
              rcases Nat.eq_zero_or_pos k with rfl | hpos
              · go_wp2
                exact ⟨⟨m, R', _, rfl, by omega, HR, ⟨HP.out.step (by omega) (by have := HPI.out; rwa [HNN.out, HXE.out] at this)⟩, HQR, HB⟩, by simp [intOf]⟩
              · obtain ⟨t, rfl⟩ : ∃ m, k = m + 1 := ⟨k - 1, by omega⟩
                rw [show (((t + 1 : Nat) : Int) - 1) = (t : Int) by omega]
                have hgW : g < Wa.heap.size := by
                  obtain ⟨_, h | ⟨g', _, _, e1, _, hb, _⟩⟩ := HJ.out.2.1
                  · cases h.1
                  · cases e1; exact (Array.getElem?_eq_some_iff.1 hb).1
                obtain ⟨A, c, k1, k2, k3, k4⟩ := HJ.out.1.2 t (by omega)
                have f0 : wx.cell? ⟨g, t, none⟩ = _ := (HB.out.cell (p := ⟨g, t, none⟩) hgW).trans (own_cell HJ.out.2.1 k1)
                have k3 := Kd.C_below k3 HB.out
                obtain ⟨Ar, cr, rfl⟩ := Kd.R_slice HR.out
                have hrr := Kd.R_reads' HR.out
                have ht8 : (t : Int) < 8 := by omega
                have HL := Aside0.mk (less_exact Ar cr _ A c _ wx hrr.2.2 hrr.2.1 k3 k2 (digs_Dg (by decide) _) (digs_Dg (by decide) _))
                rw [val_digs (by decide), val_digs (by decide)] at HL
                have HC := Aside0.mk (And.intro k2 (And.intro k3 hrr))
                clear k1 k2 k3 k4 hrr
                by_cases hlt : R' < 2 ^ t * V
                · rw [show decide (R' < 2 ^ t * V) = true by simpa using hlt] at HL
                  have HP2 := Aside0.mk (HPI.out.no hlt)
                  clear hlt
                  go_wp2_with fail
                  refine HL.out.mono ?_
                  rintro e w6 ⟨rfl, n6, rfl⟩
                  go_wp2_with fail
                  exact ⟨⟨t, R', qd, _, rfl, rfl, by omega, by omega, by omega, ⟨by have := HWO.out; rw [Nat.pow_succ] at this; generalize 2 ^ t = z at *; omega⟩, HP2, ⟨Kd.R_drewN HR.out n6⟩, ⟨Kd.R_drewN HQR.out n6⟩, ⟨pw_below_drewN HB.out n6⟩⟩, by simp [intOf]⟩
                · rw [show decide (R' < 2 ^ t * V) = false by simpa using hlt] at HL
                  have HP2 := Aside0.mk (HPI.out.yes hlt)
                  have hq8 := HPI.out.le
                  have hr8 : (digs 256 R').length ≤ 1000001 := Nat.le_trans (digs_lt (by decide) (show R' ≤ 2 ^ (t + 1) * V by have := HPI.out.lt; omega)) (HDL.out (t + 1) (by omega))
                  obtain ⟨kr, hkr⟩ := (minus_ev _ _ (digs_Dg (b := 256) (by decide) R') (digs_Dg (b := 256) (by decide) (2 ^ t * V)) (by omega) (digs_lt (by decide) (by omega)) (by rw [val_digs (by decide), val_digs (by decide)]; omega)).rounds
                  rw [val_digs (by decide), val_digs (by decide)] at hkr
                  have HMi := Aside0.mk (fun n => postmarkref06_minus.calls kr Ar cr _ A c _ _ (wx.drewN n) (Kd.C_drewN HC.out.2.2.2.2 n) HC.out.2.2.2.1 (Kd.C_drewN HC.out.2.1 n) HC.out.1 hkr)
                  have hql : (qs.set m (qd : Int)).length = l0.length := by rw [List.length_set, HP.out.len]
                  obtain ⟨gq, cq, hv, zq1, zq2, -⟩ := Kd.R_form HQR.out (by omega)
                  rw [hql] at hv
                  subst hv
                  have hqd : qd ≤ 256 := by have := Nat.two_pow_pos (t + 1); omega
                  have hmq : m < qs.length := by have := HP.out.len; omega
                  have HQL := Aside0.mk (And.intro hql (And.intro hmq (And.intro zq1 zq2)))
                  clear hlt hkr hq8 hr8 hql hmq zq1 zq2
                  go_wp2_with fail
                  refine HL.out.mono ?_
                  rintro e w6 ⟨rfl, n6, rfl⟩
                  go_wp2_with fail
                  refine (HMi.out _).mono ?_
                  rintro e w7 ⟨v7, rfl, hR7, hB7⟩
                  have hQ7 := Kd.R_below (Kd.R_drewN HQR.out n6) hB7
                  have hcq := Kd.R_cell (0 : Int) (by rw [HQL.out.1]; exact hQ7) (m : Int) (by omega) (by rw [HQL.out.1]; omega)
                  rw [Int.toNat_natCast] at hcq
                  obtain ⟨f1, f2⟩ := hcq
                  rw [show rdOf (0 : Int) (qs.set m (qd : Int)) (m : Int) = (qd : Int) from rd_set_self _ HQL.out.2.1] at f1
                  have H7 := Aside0.mk (And.intro hR7 (And.intro hB7 hQ7))
                  clear hR7 hB7 hQ7
                  go_wp2_with fail
                  obtain ⟨hR7, hB7, hQ7⟩ := H7.out
                  have hzx := HB.out.size
                  have hwo : (qd : Int) + wo = ((qd + 2 ^ t : Nat) : Int) ∧ wo / 2 = ((2 ^ t / 2 : Nat) : Int) := by
                    have := HWO.out
                    rw [Nat.pow_succ] at this
                    generalize 2 ^ t = z at *
                    omega
                  have hgq := HQL.out.2.2.1
                  refine ⟨⟨t, R' - 2 ^ t * V, qd + 2 ^ t, _, rfl, rfl, by omega, by omega, by omega, ⟨hwo.2⟩, HP2, ⟨?_⟩, ⟨?_⟩, ⟨?_⟩⟩, by simp [intOf]⟩
                  · refine Kd.R_mono (Kd.R_far (p := ⟨gq, m, none⟩) (Kd.R_mono (Kd.R_lower (Kd.R_bound hR7) hzx) (ok' := fun k => k ≠ gq) (fun k hk e => ?_)) (fun k hk => hk) _) (fun k hk e => hk ?_)
                    · have h1 := hk.2.1
                      have h2 := HQL.out.2.2.2
                      have h3 : (wx.drewN n6).heap.size = wx.heap.size := rfl
                      omega
                    · simpa [Value.ownBlock] using e
                  · have h1 := (Kd.R_put (by rw [HQL.out.1]; exact hQ7) (m : Int) ((qd : Int) + wo)).1
                    rw [Int.toNat_natCast, HQL.out.1, List.set_set, hwo.1] at h1
                    rw [hwo.1]
                    exact h1
                  · exact ((pw_below_drewN HB.out n6).trans (hB7.mono hzx)).setCell (p := ⟨gq, m, none⟩) hgq _
  · rw [if_neg hok] at h
    cases h
end Go.Proofs.Ytlifengbicpppaa.G
end
section
namespace Go.Proofs.Ytlifengbicpppaa.G
open Go.RowKit Go.Proofs.YtlifengbicpppaaW.PrintWords Go.Proofs.YtlifengbicpppaaW.PrintLast Go.Proofs.YtlifengbicpppaaW.PrintMore
attribute [local go_sem] max2_int min2_int max_two min_two max_three min_three max_four min_four   -- for this text's walks alone
set_option linter.unusedVariables false
set_option linter.unusedSimpArgs false
def ratio_both.f (k : Nat) (l0 : List Int) (l1 : List Int) : Option (List Int × List Int × Int) := (nat_Trim.f k l0).bind fun bt439 => ((nat_Trim.f k l1).bind fun bt443 => (if bt439.2 = 0 then (if bt443.2 = 0 then (some (bt439.1, bt443.1, 0)) else (some (([] : List Int), ([] : List Int), 20))) else (some (([] : List Int), ([] : List Int), 20))))
set_option maxHeartbeats 8000000 in
set_option maxRecDepth 100000 in
theorem ratio_both.calls (k : Nat) (A0 : Option Addr) (c0 : Nat) (l0 : List Int) (A1 : Option Addr) (c1 : Nat) (l1 : List Int) (r1 : List Int) (r2 : List Int) (r3 : Int) (w : World) (hr0 : Kd.C (Kd.int .u32) w A0 l0.length l0) (hc0 : l0.length ≤ c0) (hr1 : Kd.C (Kd.int .u32) w A1 l1.length l1) (hc1 : l1.length ≤ c1) (h : ratio_both.f k l0 l1 = some (r1, r2, r3)) :
    Calls Try.prog 77 #[.slice A0 l0.length c0, .slice A1 l1.length c1] w fun e w' => ∃ v0_ v1_ : Value, e = .returned (.tuple #[v0_, v1_, .int .i64 r3]) ∧ Kd.R (Kd.int .u32) 75 w' w.heap.size (fun k_ => some k_ ≠ (v1_ : Value).ownBlock) v0_ r1 ∧ Kd.R (Kd.int .u32) 75 w' w.heap.size (fun k_ => some k_ ≠ (v0_ : Value).ownBlock) v1_ r2 ∧ Below w.heap.size w w' := by
  have HR0 := Aside0.mk hr0
  have HC0 := Aside0.mk hc0
  clear hr0 hc0
  have HR1 := Aside0.mk hr1
  have HC1 := Aside0.mk hc1
  clear hr1 hc1
  have HB := Aside0.mk (Below.refl w.heap.size w)
  have H : ((nat_Trim.f k l0).bind fun bt439 => ((nat_Trim.f k l1).bind fun bt443 => (if bt439.2 = 0 then (if bt443.2 = 0 then (some (bt439.1, bt443.1, 0)) else (some (([] : List Int), ([] : List Int), 20))) else (some (([] : List Int), ([] : List Int), 20))))) = some (r1, r2, r3) := h
  clear h
  replace H := Option.bind_eq_some_iff.mp H
  obtain ⟨⟨t439, t440⟩, A30, H⟩ := H
  replace H : ((nat_Trim.f k l1).bind fun bt443 => (if t440 = 0 then (if bt443.2 = 0 then (some (t439, bt443.1, 0)) else (some (([] : List Int), ([] : List Int), 20))) else (some (([] : List Int), ([] : List Int), 20)))) = some (r1, r2, r3) := H
  have A3 := Aside0.mk A30
  clear A30
  replace H := Option.bind_eq_some_iff.mp H
  obtain ⟨⟨t443, t444⟩, A40, H⟩ := H
  replace H : (if t440 = 0 then (if t444 = 0 then (some (t439, t443, 0)) else (some (([] : List Int), ([] : List Int), 20))) else (some (([] : List Int), ([] : List Int), 20))) = some (r1, r2, r3) := H
  have A4 := Aside0.mk A40
  clear A40
  by_cases c5 : t440 = 0
  · rw [if_pos c5] at H
    have c5b0 : (t440 == 0) = true := beq_iff_eq.mpr c5
    have c5b1 : (t440 != 0) = false := bne_eq_false_iff_eq.mpr c5
    clear c5
    by_cases c6 : t444 = 0
    · rw [if_pos c6] at H
      have c6b0 : (t444 == 0) = true := beq_iff_eq.mpr c6
      have c6b1 : (t444 != 0) = false := bne_eq_false_iff_eq.mpr c6
      clear c6
      simp only [Option.some.injEq, Prod.mk.injEq] at H
      obtain ⟨rfl, rfl, rfl⟩ := H
      go_enter Try.func77, Try.ntmps77
      go_wp2_with (first | ((with_reducible refine gate_callee (f := 86) rfl ?_); refine goesL_ (some 13) rfl rfl Try.func86 (by kernel_rfl) rfl #[.slice A0 l0.length c0] rfl (by (try simp only [List.map_toArray, List.map_cons, List.map_nil]); first | done | rfl | (simp only [List.length_drop, List.length_take]; rfl)) ?_; (with_reducible refine (nat_Trim.calls k _ _ l0 t439 t440 _ ?side1 ?side2 A3.out).mono ?_); (case side1 => repeat (first | exact HR0.out | (with_reducible refine Kd.C_alloc ?_ _) | (with_reducible refine Kd.C_drewN ?_ _) | (with_reducible refine Kd.C_drew ?_))); (case side2 => exact HC0.out); rintro e w7 ⟨v441, rfl, ho0, hb⟩; refine ⟨_, rfl, ?_⟩; have n0_ := Aside0.mk (Kd.R_lower ho0 (below_size (by repeat (first | (with_reducible first | exact HB.out | apply below_alloc | apply pw_below_drewN | apply below_drew1) | exact HB.out)))); have n1_ := Aside0.mk (below_step (by repeat (first | (with_reducible first | exact HB.out | apply below_alloc | apply pw_below_drewN | apply below_drew1) | exact HB.out)) hb); clear HB; have HO442 := n0_; have HB := n1_; clear n0_ n1_; (try clear hb); (try clear hb2); (try clear hk); (try clear hi); (try clear ho0)) | ((with_reducible refine gate_callee (f := 86) rfl ?_); refine goesL_ (some 18) rfl rfl Try.func86 (by kernel_rfl) rfl #[.slice A1 l1.length c1] rfl (by (try simp only [List.map_toArray, List.map_cons, List.map_nil]); first | done | rfl | (simp only [List.length_drop, List.length_take]; rfl)) ?_; (with_reducible refine (nat_Trim.calls k _ _ l1 t443 t444 _ ?side1 ?side2 A4.out).mono ?_); (case side1 => repeat (first | exact (Kd.C_below HR1.out HB.out) | (with_reducible refine Kd.C_alloc ?_ _) | (with_reducible refine Kd.C_drewN ?_ _) | (with_reducible refine Kd.C_drew ?_))); (case side2 => exact HC1.out); rintro e w8 ⟨v445, rfl, ho0, hb⟩; refine ⟨_, rfl, ?_⟩; have n0_ := Aside0.mk (Kd.R_elder' (by (with_reducible repeat (first | apply Kd.R_alloc | apply Kd.R_drewN | apply Kd.R_drew)); exact HO442.out) (Kd.R_base ho0) hb); have n1_ := Aside0.mk (Kd.R_lower (Kd.R_new' ho0 (Kd.R_lt (by (with_reducible repeat (first | apply Kd.R_alloc | apply Kd.R_drewN | apply Kd.R_drew)); exact HO442.out))) (below_size (by repeat (first | (with_reducible first | exact HB.out | apply below_alloc | apply pw_below_drewN | apply below_drew1) | exact HB.out)))); have n2_ := Aside0.mk (below_step (by repeat (first | (with_reducible first | exact HB.out | apply below_alloc | apply pw_below_drewN | apply below_drew1) | exact HB.out)) hb); clear HO442; clear HB; have HO442 := n0_; have HO446 := n1_; have HB := n2_; clear n0_ n1_ n2_; (try clear hb); (try clear hb2); (try clear hk); (try clear hi); (try clear ho0)))
      go_ret3
      exact ⟨_, _, by first | rfl | (simp [errW_none, errW_some] <;> rfl) | (simp [*, errW_none, errW_some] <;> rfl), by (with_reducible repeat (first | apply Kd.R_alloc | apply Kd.R_drewN | apply Kd.R_drew)); exact Kd.R_mono HO442.out (fun _ hk => hk.2), by (with_reducible repeat (first | apply Kd.R_alloc | apply Kd.R_drewN | apply Kd.R_drew)); exact Kd.R_mono HO446.out (fun _ hk => hk.2), by repeat (first | (with_reducible first | exact HB.out | apply below_alloc | apply pw_below_drewN | apply below_drew1) | exact HB.out)⟩
    · rw [if_neg c6] at H
      have c6b0 : (t444 == 0) = false := beq_eq_false_iff_ne.mpr c6
      have c6b1 : (t444 != 0) = true := bne_iff_ne.mpr c6
      simp only [Option.some.injEq, Prod.mk.injEq] at H
      obtain ⟨rfl, rfl, rfl⟩ := H
      go_enter Try.func77, Try.ntmps77
      go_wp2_with (first | ((with_reducible refine gate_callee (f := 86) rfl ?_); refine goesL_ (some 13) rfl rfl Try.func86 (by kernel_rfl) rfl #[.slice A0 l0.length c0] rfl (by (try simp only [List.map_toArray, List.map_cons, List.map_nil]); first | done | rfl | (simp only [List.length_drop, List.length_take]; rfl)) ?_; (with_reducible refine (nat_Trim.calls k _ _ l0 t439 t440 _ ?side1 ?side2 A3.out).mono ?_); (case side1 => repeat (first | exact HR0.out | (with_reducible refine Kd.C_alloc ?_ _) | (with_reducible refine Kd.C_drewN ?_ _) | (with_reducible refine Kd.C_drew ?_))); (case side2 => exact HC0.out); rintro e w9 ⟨v441, rfl, ho0, hb⟩; refine ⟨_, rfl, ?_⟩; have n0_ := Aside0.mk (Kd.R_lower ho0 (below_size (by repeat (first | (with_reducible first | exact HB.out | apply below_alloc | apply pw_below_drewN | apply below_drew1) | exact HB.out)))); have n1_ := Aside0.mk (below_step (by repeat (first | (with_reducible first | exact HB.out | apply below_alloc | apply pw_below_drewN | apply below_drew1) | exact HB.out)) hb); clear HB; have HO442 := n0_; have HB := n1_; clear n0_ n1_; (try clear hb); (try clear hb2); (try clear hk); (try clear hi); (try clear ho0)) | ((with_reducible refine gate_callee (f := 86) rfl ?_); refine goesL_ (some 18) rfl rfl Try.func86 (by kernel_rfl) rfl #[.slice A1 l1.length c1] rfl (by (try simp only [List.map_toArray, List.map_cons, List.map_nil]); first | done | rfl | (simp only [List.length_drop, List.length_take]; rfl)) ?_; (with_reducible refine (nat_Trim.calls k _ _ l1 t443 t444 _ ?side1 ?side2 A4.out).mono ?_); (case side1 => repeat (first | exact (Kd.C_below HR1.out HB.out) | (with_reducible refine Kd.C_alloc ?_ _) | (with_reducible refine Kd.C_drewN ?_ _) | (with_reducible refine Kd.C_drew ?_))); (case side2 => exact HC1.out); rintro e w10 ⟨v445, rfl, ho0, hb⟩; refine ⟨_, rfl, ?_⟩; have n0_ := Aside0.mk (Kd.R_elder' (by (with_reducible repeat (first | apply Kd.R_alloc | apply Kd.R_drewN | apply Kd.R_drew)); exact HO442.out) (Kd.R_base ho0) hb); have n1_ := Aside0.mk (Kd.R_lower (Kd.R_new' ho0 (Kd.R_lt (by (with_reducible repeat (first | apply Kd.R_alloc | apply Kd.R_drewN | apply Kd.R_drew)); exact HO442.out))) (below_size (by repeat (first | (with_reducible first | exact HB.out | apply below_alloc | apply pw_below_drewN | apply below_drew1) | exact HB.out)))); have n2_ := Aside0.mk (below_step (by repeat (first | (with_reducible first | exact HB.out | apply below_alloc | apply pw_below_drewN | apply below_drew1) | exact HB.out)) hb); clear HO442; clear HB; have HO442 := n0_; have HO446 := n1_; have HB := n2_; clear n0_ n1_ n2_; (try clear hb); (try clear hb2); (try clear hk); (try clear hi); (try clear ho0)))
      go_ret3
      exact ⟨_, _, by first | rfl | (simp [errW_none, errW_some] <;> rfl) | (simp [*, errW_none, errW_some] <;> rfl), by first | exact Kd.R_nil _ _ _ _ _ | exact Kd.N_nil _ _ _ _ _ | exact Kd.V_nil _ _ _ _ _ | exact Kd.Q_nil _ _ _ _ _ | exact Kd.S_nil _ _ _ _ _, by first | exact Kd.R_nil _ _ _ _ _ | exact Kd.N_nil _ _ _ _ _ | exact Kd.V_nil _ _ _ _ _ | exact Kd.Q_nil _ _ _ _ _ | exact Kd.S_nil _ _ _ _ _, by repeat (first | (with_reducible first | exact HB.out | apply below_alloc | apply pw_below_drewN | apply below_drew1) | exact HB.out)⟩
  · rw [if_neg c5] at H
    have c5b0 : (t440 == 0) = false := beq_eq_false_iff_ne.mpr c5
    have c5b1 : (t440 != 0) = true := bne_iff_ne.mpr c5
    simp only [Option.some.injEq, Prod.mk.injEq] at H
    obtain ⟨rfl, rfl, rfl⟩ := H
    go_enter Try.func77, Try.ntmps77
    go_wp2_with (first | ((with_reducible refine gate_callee (f := 86) rfl ?_); refine goesL_ (some 13) rfl rfl Try.func86 (by kernel_rfl) rfl #[.slice A0 l0.length c0] rfl (by (try simp only [List.map_toArray, List.map_cons, List.map_nil]); first | done | rfl | (simp only [List.length_drop, List.length_take]; rfl)) ?_; (with_reducible refine (nat_Trim.calls k _ _ l0 t439 t440 _ ?side1 ?side2 A3.out).mono ?_); (case side1 => repeat (first | exact HR0.out | (with_reducible refine Kd.C_alloc ?_ _) | (with_reducible refine Kd.C_drewN ?_ _) | (with_reducible refine Kd.C_drew ?_))); (case side2 => exact HC0.out); rintro e w11 ⟨v441, rfl, ho0, hb⟩; refine ⟨_, rfl, ?_⟩; have n0_ := Aside0.mk (Kd.R_lower ho0 (below_size (by repeat (first | (with_reducible first | exact HB.out | apply below_alloc | apply pw_below_drewN | apply below_drew1) | exact HB.out)))); have n1_ := Aside0.mk (below_step (by repeat (first | (with_reducible first | exact HB.out | apply below_alloc | apply pw_below_drewN | apply below_drew1) | exact HB.out)) hb); clear HB; have HO442 := n0_; have HB := n1_; clear n0_ n1_; (try clear hb); (try clear hb2); (try clear hk); (try clear hi); (try clear ho0)) | ((with_reducible refine gate_callee (f := 86) rfl ?_); refine goesL_ (some 18) rfl rfl Try.func86 (by kernel_rfl) rfl #[.slice A1 l1.length c1] rfl (by (try simp only [List.map_toArray, List.map_cons, List.map_nil]); first | done | rfl | (simp only [List.length_drop, List.length_take]; rfl)) ?_; (with_reducible refine (nat_Trim.calls k _ _ l1 t443 t444 _ ?side1 ?side2 A4.out).mono ?_); (case side1 => repeat (first | exact (Kd.C_below HR1.out HB.out) | (with_reducible refine Kd.C_alloc ?_ _) | (with_reducible refine Kd.C_drewN ?_ _) | (with_reducible refine Kd.C_drew ?_))); (case side2 => exact HC1.out); rintro e w12 ⟨v445, rfl, ho0, hb⟩; refine ⟨_, rfl, ?_⟩; have n0_ := Aside0.mk (Kd.R_elder' (by (with_reducible repeat (first | apply Kd.R_alloc | apply Kd.R_drewN | apply Kd.R_drew)); exact HO442.out) (Kd.R_base ho0) hb); have n1_ := Aside0.mk (Kd.R_lower (Kd.R_new' ho0 (Kd.R_lt (by (with_reducible repeat (first | apply Kd.R_alloc | apply Kd.R_drewN | apply Kd.R_drew)); exact HO442.out))) (below_size (by repeat (first | (with_reducible first | exact HB.out | apply below_alloc | apply pw_below_drewN | apply below_drew1) | exact HB.out)))); have n2_ := Aside0.mk (below_step (by repeat (first | (with_reducible first | exact HB.out | apply below_alloc | apply pw_below_drewN | apply below_drew1) | exact HB.out)) hb); clear HO442; clear HB; have HO442 := n0_; have HO446 := n1_; have HB := n2_; clear n0_ n1_ n2_; (try clear hb); (try clear hb2); (try clear hk); (try clear hi); (try clear ho0)))
    go_ret3
    exact ⟨_, _, by first | rfl | (simp [errW_none, errW_some] <;> rfl) | (simp [*, errW_none, errW_some] <;> rfl), by first | exact Kd.R_nil _ _ _ _ _ | exact Kd.N_nil _ _ _ _ _ | exact Kd.V_nil _ _ _ _ _ | exact Kd.Q_nil _ _ _ _ _ | exact Kd.S_nil _ _ _ _ _, by first | exact Kd.R_nil _ _ _ _ _ | exact Kd.N_nil _ _ _ _ _ | exact Kd.V_nil _ _ _ _ _ | exact Kd.Q_nil _ _ _ _ _ | exact Kd.S_nil _ _ _ _ _, by repeat (first | (with_reducible first | exact HB.out | apply below_alloc | apply pw_below_drewN | apply below_drew1) | exact HB.out)⟩
end Go.Proofs.Ytlifengbicpppaa.G
end
section
namespace Go.Proofs.Ytlifengbicpppaa.G
open Go.RowKit Go.Proofs.YtlifengbicpppaaW.PrintWords Go.Proofs.YtlifengbicpppaaW.PrintLast Go.Proofs.YtlifengbicpppaaW.PrintMore
attribute [local go_sem] max2_int min2_int max_two min_two max_three min_three max_four min_four   -- for this text's walks alone
set_option linter.unusedVariables false
set_option linter.unusedSimpArgs false
def ratio_Div.f (k : Nat) (l0 : List Int) (l1 : List Int) : Option (List Int × List Int × Int) := (ratio_both.f k l0 l1).bind fun bt447 => (if bt447.2.2 = 0 then (if (bt447.2.1.length : Int) = 0 then (some (([] : List Int), ([] : List Int), 60)) else ((ratio_divided.f bt447.1 bt447.2.1).bind fun bt454 => (some (bt454.1, bt454.2, 0)))) else (some (([] : List Int), ([] : List Int), bt447.2.2)))
set_option maxHeartbeats 8000000 in
set_option maxRecDepth 100000 in
theorem ratio_Div.calls (k : Nat) (A0 : Option Addr) (c0 : Nat) (l0 : List Int) (A1 : Option Addr) (c1 : Nat) (l1 : List Int) (r1 : List Int) (r2 : List Int) (r3 : Int) (w : World) (hr0 : Kd.C (Kd.int .u32) w A0 l0.length l0) (hc0 : l0.length ≤ c0) (hr1 : Kd.C (Kd.int .u32) w A1 l1.length l1) (hc1 : l1.length ≤ c1) (h : ratio_Div.f k l0 l1 = some (r1, r2, r3)) :
    Calls Try.prog 39 #[.slice A0 l0.length c0, .slice A1 l1.length c1] w fun e w' => ∃ v0_ v1_ : Value, e = .returned (.tuple #[v0_, v1_, .int .i64 r3]) ∧ Kd.R (Kd.int .u32) 75 w' w.heap.size (fun k_ => some k_ ≠ (v1_ : Value).ownBlock) v0_ r1 ∧ Kd.R (Kd.int .u32) 75 w' w.heap.size (fun k_ => some k_ ≠ (v0_ : Value).ownBlock) v1_ r2 ∧ Below w.heap.size w w' := by
  have HR0 := Aside0.mk hr0
  have HC0 := Aside0.mk hc0
  clear hr0 hc0
  have HR1 := Aside0.mk hr1
  have HC1 := Aside0.mk hc1
  clear hr1 hc1
  have HB := Aside0.mk (Below.refl w.heap.size w)
  have H : ((ratio_both.f k l0 l1).bind fun bt447 => (if bt447.2.2 = 0 then (if (bt447.2.1.length : Int) = 0 then (some (([] : List Int), ([] : List Int), 60)) else ((ratio_divided.f bt447.1 bt447.2.1).bind fun bt454 => (some (bt454.1, bt454.2, 0)))) else (some (([] : List Int), ([] : List Int), bt447.2.2)))) = some (r1, r2, r3) := h
  clear h
  replace H := Option.bind_eq_some_iff.mp H
  obtain ⟨⟨t447, t448, t449⟩, A30, H⟩ := H
  replace H : (if t449 = 0 then (if (t448.length : Int) = 0 then (some (([] : List Int), ([] : List Int), 60)) else ((ratio_divided.f t447 t448).bind fun bt454 => (some (bt454.1, bt454.2, 0)))) else (some (([] : List Int), ([] : List Int), t449))) = some (r1, r2, r3) := H
  have A3 := Aside0.mk A30
  clear A30
  by_cases c4 : t449 = 0
  · rw [if_pos c4] at H
    have c4b0 : (t449 == 0) = true := beq_iff_eq.mpr c4
    have c4b1 : (t449 != 0) = false := bne_eq_false_iff_eq.mpr c4
    clear c4
    by_cases c5 : (t448.length : Int) = 0
    · rw [if_pos c5] at H
      have c5b0 : ((t448.length : Int) == 0) = true := beq_iff_eq.mpr c5
      have c5b1 : ((t448.length : Int) != 0) = false := bne_eq_false_iff_eq.mpr c5
      clear c5
      simp only [Option.some.injEq, Prod.mk.injEq] at H
      obtain ⟨rfl, rfl, rfl⟩ := H
      go_enter Try.func39, Try.ntmps39
      go_wp2_with (first | ((with_reducible refine gate_callee (f := 77) rfl ?_); refine goesL_ (some 12) rfl rfl Try.func77 (by kernel_rfl) rfl #[.slice A0 l0.length c0, .slice A1 l1.length c1] rfl (by (try simp only [List.map_toArray, List.map_cons, List.map_nil]); first | done | rfl | (simp only [List.length_drop, List.length_take]; rfl)) ?_; (with_reducible refine (ratio_both.calls k _ _ l0 _ _ l1 t447 t448 t449 _ ?side1 ?side2 ?side3 ?side4 A3.out).mono ?_); (case side1 => repeat (first | exact HR0.out | (with_reducible refine Kd.C_alloc ?_ _) | (with_reducible refine Kd.C_drewN ?_ _) | (with_reducible refine Kd.C_drew ?_))); (case side2 => exact HC0.out); (case side3 => repeat (first | exact HR1.out | (with_reducible refine Kd.C_alloc ?_ _) | (with_reducible refine Kd.C_drewN ?_ _) | (with_reducible refine Kd.C_drew ?_))); (case side4 => exact HC1.out); rintro e w6 ⟨v450, v452, rfl, ho0, ho1, hb⟩; refine ⟨_, rfl, ?_⟩; have n0_ := Aside0.mk (Kd.R_lower ho0 (below_size (by repeat (first | (with_reducible first | exact HB.out | apply below_alloc | apply pw_below_drewN | apply below_drew1) | exact HB.out)))); have n1_ := Aside0.mk (Kd.R_lower ho1 (below_size (by repeat (first | (with_reducible first | exact HB.out | apply below_alloc | apply pw_below_drewN | apply below_drew1) | exact HB.out)))); have n2_ := Aside0.mk (below_step (by repeat (first | (with_reducible first | exact HB.out | apply below_alloc | apply pw_below_drewN | apply below_drew1) | exact HB.out)) hb); clear HB; have HO451 := n0_; have HO453 := n1_; have HB := n2_; clear n0_ n1_ n2_; (try clear hb); (try clear hb2); (try clear hk); (try clear hi); (try clear ho0); (try clear ho1); obtain ⟨Ao7, co7, eo7⟩ := Kd.R_slice HO453.out; subst eo7))
      go_ret3
      exact ⟨_, _, by first | rfl | (simp [errW_none, errW_some] <;> rfl) | (simp [*, errW_none, errW_some] <;> rfl), by first | exact Kd.R_nil _ _ _ _ _ | exact Kd.N_nil _ _ _ _ _ | exact Kd.V_nil _ _ _ _ _ | exact Kd.Q_nil _ _ _ _ _ | exact Kd.S_nil _ _ _ _ _, by first | exact Kd.R_nil _ _ _ _ _ | exact Kd.N_nil _ _ _ _ _ | exact Kd.V_nil _ _ _ _ _ | exact Kd.Q_nil _ _ _ _ _ | exact Kd.S_nil _ _ _ _ _, by repeat (first | (with_reducible first | exact HB.out | apply below_alloc | apply pw_below_drewN | apply below_drew1) | exact HB.out)⟩
    · rw [if_neg c5] at H
      have c5b0 : ((t448.length : Int) == 0) = false := beq_eq_false_iff_ne.mpr c5
      have c5b1 : ((t448.length : Int) != 0) = true := bne_iff_ne.mpr c5
      have c5b2 : ¬ (t448 = []) := fun h_ => c5 (by rw [h_]; rfl)
      replace H := Option.bind_eq_some_iff.mp H
      obtain ⟨⟨t454, t455⟩, A80, H⟩ := H
      replace H : (some (t454, t455, 0)) = some (r1, r2, r3) := H
      have A8 := Aside0.mk A80
      clear A80
      simp only [Option.some.injEq, Prod.mk.injEq] at H
      obtain ⟨rfl, rfl, rfl⟩ := H
      go_enter Try.func39, Try.ntmps39
      go_wp2_with (first | ((with_reducible refine gate_callee (f := 77) rfl ?_); refine goesL_ (some 12) rfl rfl Try.func77 (by kernel_rfl) rfl #[.slice A0 l0.length c0, .slice A1 l1.length c1] rfl (by (try simp only [List.map_toArray, List.map_cons, List.map_nil]); first | done | rfl | (simp only [List.length_drop, List.length_take]; rfl)) ?_; (with_reducible refine (ratio_both.calls k _ _ l0 _ _ l1 t447 t448 t449 _ ?side1 ?side2 ?side3 ?side4 A3.out).mono ?_); (case side1 => repeat (first | exact HR0.out | (with_reducible refine Kd.C_alloc ?_ _) | (with_reducible refine Kd.C_drewN ?_ _) | (with_reducible refine Kd.C_drew ?_))); (case side2 => exact HC0.out); (case side3 => repeat (first | exact HR1.out | (with_reducible refine Kd.C_alloc ?_ _) | (with_reducible refine Kd.C_drewN ?_ _) | (with_reducible refine Kd.C_drew ?_))); (case side4 => exact HC1.out); rintro e w9 ⟨v450, v452, rfl, ho0, ho1, hb⟩; refine ⟨_, rfl, ?_⟩; have n0_ := Aside0.mk (Kd.R_lower ho0 (below_size (by repeat (first | (with_reducible first | exact HB.out | apply below_alloc | apply pw_below_drewN | apply below_drew1) | exact HB.out)))); have n1_ := Aside0.mk (Kd.R_lower ho1 (below_size (by repeat (first | (with_reducible first | exact HB.out | apply below_alloc | apply pw_below_drewN | apply below_drew1) | exact HB.out)))); have n2_ := Aside0.mk (below_step (by repeat (first | (with_reducible first | exact HB.out | apply below_alloc | apply pw_below_drewN | apply below_drew1) | exact HB.out)) hb); clear HB; have HO451 := n0_; have HO453 := n1_; have HB := n2_; clear n0_ n1_ n2_; (try clear hb); (try clear hb2); (try clear hk); (try clear hi); (try clear ho0); (try clear ho1); obtain ⟨Ao10, co10, eo10⟩ := Kd.R_slice HO453.out; subst eo10; obtain ⟨Ao11, co11, eo11⟩ := Kd.R_slice HO451.out; subst eo11) | ((with_reducible refine gate_callee (f := 78) rfl ?_); refine goesL_ (some 27) rfl rfl Try.func78 (by kernel_rfl) rfl #[.slice Ao11 t447.length co11, .slice Ao10 t448.length co10] rfl (by (try simp only [List.map_toArray, List.map_cons, List.map_nil]); first | done | rfl | (simp only [List.length_drop, List.length_take]; rfl)) ?_; (with_reducible refine (ratio_divided.calls _ _ t447 _ _ t448 t454 t455 _ ?side1 ?side2 ?side3 ?side4 A8.out).mono ?_); (case side1 => repeat (first | exact (Kd.R_reads' HO451.out).2.2 | (with_reducible refine Kd.C_alloc ?_ _) | (with_reducible refine Kd.C_drewN ?_ _) | (with_reducible refine Kd.C_drew ?_))); (case side2 => exact (Kd.R_reads' HO451.out).2.1); (case side3 => repeat (first | exact (Kd.R_reads' HO453.out).2.2 | (with_reducible refine Kd.C_alloc ?_ _) | (with_reducible refine Kd.C_drewN ?_ _) | (with_reducible refine Kd.C_drew ?_))); (case side4 => exact (Kd.R_reads' HO453.out).2.1); rintro e w12 ⟨v456, v458, rfl, ho0, ho1, hb⟩; refine ⟨_, rfl, ?_⟩; have n0_ := Aside0.mk (Kd.R_mono (Kd.R_told (Kd.R_told (Kd.R_old (by (with_reducible repeat (first | apply Kd.R_alloc | apply Kd.R_drewN | apply Kd.R_drew)); exact HO451.out) hb) (Kd.R_base ho0)) (Kd.R_base ho1)) (fun _ h_ => h_.1)); have n1_ := Aside0.mk (Kd.R_mono (Kd.R_told (Kd.R_told (Kd.R_old (by (with_reducible repeat (first | apply Kd.R_alloc | apply Kd.R_drewN | apply Kd.R_drew)); exact HO453.out) hb) (Kd.R_base ho0)) (Kd.R_base ho1)) (fun _ h_ => h_.1)); have n2_ := Aside0.mk (Kd.R_lower (Kd.R_new' (Kd.R_new' ho0 (Kd.R_lt (by (with_reducible repeat (first | apply Kd.R_alloc | apply Kd.R_drewN | apply Kd.R_drew)); exact HO451.out))) (Kd.R_lt (by (with_reducible repeat (first | apply Kd.R_alloc | apply Kd.R_drewN | apply Kd.R_drew)); exact HO453.out))) (below_size (by repeat (first | (with_reducible first | exact HB.out | apply below_alloc | apply pw_below_drewN | apply below_drew1) | exact HB.out)))); have n3_ := Aside0.mk (Kd.R_lower (Kd.R_new' (Kd.R_new' ho1 (Kd.R_lt (by (with_reducible repeat (first | apply Kd.R_alloc | apply Kd.R_drewN | apply Kd.R_drew)); exact HO451.out))) (Kd.R_lt (by (with_reducible repeat (first | apply Kd.R_alloc | apply Kd.R_drewN | apply Kd.R_drew)); exact HO453.out))) (below_size (by repeat (first | (with_reducible first | exact HB.out | apply below_alloc | apply pw_below_drewN | apply below_drew1) | exact HB.out)))); have n4_ := Aside0.mk (below_step (by repeat (first | (with_reducible first | exact HB.out | apply below_alloc | apply pw_below_drewN | apply below_drew1) | exact HB.out)) hb); clear HO451; clear HO453; clear HB; have HO451 := n0_; have HO453 := n1_; have HO457 := n2_; have HO459 := n3_; have HB := n4_; clear n0_ n1_ n2_ n3_ n4_; (try clear hb); (try clear hb2); (try clear hk); (try clear hi); (try clear ho0); (try clear ho1)))
      go_ret3
      exact ⟨_, _, by first | rfl | (simp [errW_none, errW_some] <;> rfl) | (simp [*, errW_none, errW_some] <;> rfl), by (with_reducible repeat (first | apply Kd.R_alloc | apply Kd.R_drewN | apply Kd.R_drew)); exact Kd.R_mono HO457.out (fun _ hk => hk.1.1), by (with_reducible repeat (first | apply Kd.R_alloc | apply Kd.R_drewN | apply Kd.R_drew)); exact Kd.R_mono HO459.out (fun _ hk => hk.1.1), by repeat (first | (with_reducible first | exact HB.out | apply below_alloc | apply pw_below_drewN | apply below_drew1) | exact HB.out)⟩
  · rw [if_neg c4] at H
    have c4b0 : (t449 == 0) = false := beq_eq_false_iff_ne.mpr c4
    have c4b1 : (t449 != 0) = true := bne_iff_ne.mpr c4
    simp only [Option.some.injEq, Prod.mk.injEq] at H
    obtain ⟨rfl, rfl, rfl⟩ := H
    go_enter Try.func39, Try.ntmps39
    go_wp2_with (first | ((with_reducible refine gate_callee (f := 77) rfl ?_); refine goesL_ (some 12) rfl rfl Try.func77 (by kernel_rfl) rfl #[.slice A0 l0.length c0, .slice A1 l1.length c1] rfl (by (try simp only [List.map_toArray, List.map_cons, List.map_nil]); first | done | rfl | (simp only [List.length_drop, List.length_take]; rfl)) ?_; (with_reducible refine (ratio_both.calls k _ _ l0 _ _ l1 t447 t448 t449 _ ?side1 ?side2 ?side3 ?side4 A3.out).mono ?_); (case side1 => repeat (first | exact HR0.out | (with_reducible refine Kd.C_alloc ?_ _) | (with_reducible refine Kd.C_drewN ?_ _) | (with_reducible refine Kd.C_drew ?_))); (case side2 => exact HC0.out); (case side3 => repeat (first | exact HR1.out | (with_reducible refine Kd.C_alloc ?_ _) | (with_reducible refine Kd.C_drewN ?_ _) | (with_reducible refine Kd.C_drew ?_))); (case side4 => exact HC1.out); rintro e w13 ⟨v450, v452, rfl, ho0, ho1, hb⟩; refine ⟨_, rfl, ?_⟩; have n0_ := Aside0.mk (Kd.R_lower ho0 (below_size (by repeat (first | (with_reducible first | exact HB.out | apply below_alloc | apply pw_below_drewN | apply below_drew1) | exact HB.out)))); have n1_ := Aside0.mk (Kd.R_lower ho1 (below_size (by repeat (first | (with_reducible first | exact HB.out | apply below_alloc | apply pw_below_drewN | apply below_drew1) | exact HB.out)))); have n2_ := Aside0.mk (below_step (by repeat (first | (with_reducible first | exact HB.out | apply below_alloc | apply pw_below_drewN | apply below_drew1) | exact HB.out)) hb); clear HB; have HO451 := n0_; have HO453 := n1_; have HB := n2_; clear n0_ n1_ n2_; (try clear hb); (try clear hb2); (try clear hk); (try clear hi); (try clear ho0); (try clear ho1)))
    go_ret3
    exact ⟨_, _, by first | rfl | (simp [errW_none, errW_some] <;> rfl) | (simp [*, errW_none, errW_some] <;> rfl), by first | exact Kd.R_nil _ _ _ _ _ | exact Kd.N_nil _ _ _ _ _ | exact Kd.V_nil _ _ _ _ _ | exact Kd.Q_nil _ _ _ _ _ | exact Kd.S_nil _ _ _ _ _, by first | exact Kd.R_nil _ _ _ _ _ | exact Kd.N_nil _ _ _ _ _ | exact Kd.V_nil _ _ _ _ _ | exact Kd.Q_nil _ _ _ _ _ | exact Kd.S_nil _ _ _ _ _, by repeat (first | (with_reducible first | exact HB.out | apply below_alloc | apply pw_below_drewN | apply below_drew1) | exact HB.out)⟩
end Go.Proofs.Ytlifengbicpppaa.G
end
section
namespace Go.Proofs.Ytlifengbicpppaa.G
open Go.RowKit Go.Proofs.YtlifengbicpppaaW.PrintWords Go.Proofs.YtlifengbicpppaaW.PrintLast Go.Proofs.YtlifengbicpppaaW.PrintMore
attribute [local go_sem] max2_int min2_int max_two min_two max_three min_three max_four min_four   -- for this text's walks alone
set_option linter.unusedVariables false
set_option linter.unusedSimpArgs false
def ratio_Mod.f (k : Nat) (l0 : List Int) (l1 : List Int) : Option (List Int × Int) := (ratio_Div.f k l0 l1).bind fun bt460 => (some (bt460.2.1, bt460.2.2))
set_option maxHeartbeats 8000000 in
set_option maxRecDepth 100000 in
theorem ratio_Mod.calls (k : Nat) (A0 : Option Addr) (c0 : Nat) (l0 : List Int) (A1 : Option Addr) (c1 : Nat) (l1 : List Int) (r1 : List Int) (r2 : Int) (w : World) (hr0 : Kd.C (Kd.int .u32) w A0 l0.length l0) (hc0 : l0.length ≤ c0) (hr1 : Kd.C (Kd.int .u32) w A1 l1.length l1) (hc1 : l1.length ≤ c1) (h : ratio_Mod.f k l0 l1 = some (r1, r2)) :
    Calls Try.prog 41 #[.slice A0 l0.length c0, .slice A1 l1.length c1] w fun e w' => ∃ v0_ : Value, e = .returned (.tuple #[v0_, .int .i64 r2]) ∧ Kd.R (Kd.int .u32) 75 w' w.heap.size (fun _ => True) v0_ r1 ∧ Below w.heap.size w w' := by
  have HR0 := Aside0.mk hr0
  have HC0 := Aside0.mk hc0
  clear hr0 hc0
  have HR1 := Aside0.mk hr1
  have HC1 := Aside0.mk hc1
  clear hr1 hc1
  have HB := Aside0.mk (Below.refl w.heap.size w)
  have H : ((ratio_Div.f k l0 l1).bind fun bt460 => (some (bt460.2.1, bt460.2.2))) = some (r1, r2) := h
  clear h
  replace H := Option.bind_eq_some_iff.mp H
  obtain ⟨⟨t460, t461, t462⟩, A30, H⟩ := H
  replace H : (some (t461, t462)) = some (r1, r2) := H
  have A3 := Aside0.mk A30
  clear A30
  simp only [Option.some.injEq, Prod.mk.injEq] at H
  obtain ⟨rfl, rfl⟩ := H
  go_enter Try.func41, Try.ntmps41
  go_wp2_with (first | ((with_reducible refine gate_callee (f := 39) rfl ?_); refine goesL_ (some 12) rfl rfl Try.func39 (by kernel_rfl) rfl #[.slice A0 l0.length c0, .slice A1 l1.length c1] rfl (by (try simp only [List.map_toArray, List.map_cons, List.map_nil]); first | done | rfl | (simp only [List.length_drop, List.length_take]; rfl)) ?_; (with_reducible refine (ratio_Div.calls k _ _ l0 _ _ l1 t460 t461 t462 _ ?side1 ?side2 ?side3 ?side4 A3.out).mono ?_); (case side1 => repeat (first | exact HR0.out | (with_reducible refine Kd.C_alloc ?_ _) | (with_reducible refine Kd.C_drewN ?_ _) | (with_reducible refine Kd.C_drew ?_))); (case side2 => exact HC0.out); (case side3 => repeat (first | exact HR1.out | (with_reducible refine Kd.C_alloc ?_ _) | (with_reducible refine Kd.C_drewN ?_ _) | (with_reducible refine Kd.C_drew ?_))); (case side4 => exact HC1.out); rintro e w4 ⟨v463, v465, rfl, ho0, ho1, hb⟩; refine ⟨_, rfl, ?_⟩; have n0_ := Aside0.mk (Kd.R_lower ho0 (below_size (by repeat (first | (with_reducible first | exact HB.out | apply below_alloc | apply pw_below_drewN | apply below_drew1) | exact HB.out)))); have n1_ := Aside0.mk (Kd.R_lower ho1 (below_size (by repeat (first | (with_reducible first | exact HB.out | apply below_alloc | apply pw_below_drewN | apply below_drew1) | exact HB.out)))); have n2_ := Aside0.mk (below_step (by repeat (first | (with_reducible first | exact HB.out | apply below_alloc | apply pw_below_drewN | apply below_drew1) | exact HB.out)) hb); clear HB; have HO464 := n0_; have HO466 := n1_; have HB := n2_; clear n0_ n1_ n2_; (try clear hb); (try clear hb2); (try clear hk); (try clear hi); (try clear ho0); (try clear ho1)))
  go_ret2
  exact ⟨_, by first | rfl | (simp [errW_none, errW_some] <;> rfl) | (simp [*, errW_none, errW_some] <;> rfl), by (with_reducible repeat (first | apply Kd.R_alloc | apply Kd.R_drewN | apply Kd.R_drew)); exact Kd.R_mono HO466.out (fun _ hk => trivial), by repeat (first | (with_reducible first | exact HB.out | apply below_alloc | apply pw_below_drewN | apply below_drew1) | exact HB.out)⟩
end Go.Proofs.Ytlifengbicpppaa.G
end
section
namespace Go.Proofs.Ytlifengbicpppaa.G
open Go.RowKit Go.Proofs.YtlifengbicpppaaW.PrintWords Go.Proofs.YtlifengbicpppaaW.PrintLast Go.Proofs.YtlifengbicpppaaW.PrintMore
attribute [local go_sem] max2_int min2_int max_two min_two max_three min_three max_four min_four   -- for this text's walks alone
set_option linter.unusedVariables false
set_option linter.unusedSimpArgs false
end Go.Proofs.Ytlifengbicpppaa.G
end
section
namespace Go.Proofs.Ytlifengbicpppaa.G
open Go.RowKit Go.Proofs.YtlifengbicpppaaW.PrintWords Go.Proofs.YtlifengbicpppaaW.PrintLast Go.Proofs.YtlifengbicpppaaW.PrintMore
attribute [local go_sem] max2_int min2_int max_two min_two max_three min_three max_four min_four   -- for this text's walks alone
set_option linter.unusedVariables false
set_option linter.unusedSimpArgs false
def postmarkref06_Div.f (k : Nat) (l0 : List Int) (l1 : List Int) : Option (List Int × List Int × Int) := (postmarkref02_May.f k l0 l1).bind fun t285 => (if t285 = true then ((postmarkref02_Digits.f k l1).bind fun t286 => (if (t286.length : Int) = 0 then (some (([] : List Int), ([] : List Int), 60)) else ((postmarkref02_Digits.f k l0).bind fun t289 => ((postmarkref06_Parts.f t289 t286).bind fun bt292 => ((postmarkref02_Limbs.f k bt292.1).bind fun t298 => ((postmarkref02_Limbs.f k bt292.2).bind fun t301 => (some (t298, t301, 0)))))))) else (some (([] : List Int), ([] : List Int), 20)))
set_option maxHeartbeats 8000000 in
set_option maxRecDepth 100000 in
theorem postmarkref06_Div.calls (k : Nat) (A0 : Option Addr) (c0 : Nat) (l0 : List Int) (A1 : Option Addr) (c1 : Nat) (l1 : List Int) (r1 : List Int) (r2 : List Int) (r3 : Int) (w : World) (hr0 : Kd.C (Kd.int .u32) w A0 l0.length l0) (hc0 : l0.length ≤ c0) (hr1 : Kd.C (Kd.int .u32) w A1 l1.length l1) (hc1 : l1.length ≤ c1) (h : postmarkref06_Div.f k l0 l1 = some (r1, r2, r3)) :
    Calls Try.prog 40 #[.slice A0 l0.length c0, .slice A1 l1.length c1] w fun e w' => ∃ v0_ v1_ : Value, e = .returned (.tuple #[v0_, v1_, .int .i64 r3]) ∧ Kd.R (Kd.int .u32) 75 w' w.heap.size (fun k_ => some k_ ≠ (v1_ : Value).ownBlock) v0_ r1 ∧ Kd.R (Kd.int .u32) 75 w' w.heap.size (fun k_ => some k_ ≠ (v0_ : Value).ownBlock) v1_ r2 ∧ Below w.heap.size w w' := by
  have HR0 := Aside0.mk hr0
  have HC0 := Aside0.mk hc0
  clear hr0 hc0
  have HR1 := Aside0.mk hr1
  have HC1 := Aside0.mk hc1
  clear hr1 hc1
  have HB := Aside0.mk (Below.refl w.heap.size w)
  have H : ((postmarkref02_May.f k l0 l1).bind fun t285 => (if t285 = true then ((postmarkref02_Digits.f k l1).bind fun t286 => (if (t286.length : Int) = 0 then (some (([] : List Int), ([] : List Int), 60)) else ((postmarkref02_Digits.f k l0).bind fun t289 => ((postmarkref06_Parts.f t289 t286).bind fun bt292 => ((postmarkref02_Limbs.f k bt292.1).bind fun t298 => ((postmarkref02_Limbs.f k bt292.2).bind fun t301 => (some (t298, t301, 0)))))))) else (some (([] : List Int), ([] : List Int), 20)))) = some (r1, r2, r3) := h
  clear h
  replace H := Option.bind_eq_some_iff.mp H
  obtain ⟨t285, A30, H⟩ := H
  replace H : (if t285 = true then ((postmarkref02_Digits.f k l1).bind fun t286 => (if (t286.length : Int) = 0 then (some (([] : List Int), ([] : List Int), 60)) else ((postmarkref02_Digits.f k l0).bind fun t289 => ((postmarkref06_Parts.f t289 t286).bind fun bt292 => ((postmarkref02_Limbs.f k bt292.1).bind fun t298 => ((postmarkref02_Limbs.f k bt292.2).bind fun t301 => (some (t298, t301, 0)))))))) else (some (([] : List Int), ([] : List Int), 20))) = some (r1, r2, r3) := H
  have A3 := Aside0.mk A30
  clear A30
  by_cases c4 : t285 = true
  · subst c4
    have H1 : ((postmarkref02_Digits.f k l1).bind fun t286 => (if (t286.length : Int) = 0 then (some (([] : List Int), ([] : List Int), 60)) else ((postmarkref02_Digits.f k l0).bind fun t289 => ((postmarkref06_Parts.f t289 t286).bind fun bt292 => ((postmarkref02_Limbs.f k bt292.1).bind fun t298 => ((postmarkref02_Limbs.f k bt292.2).bind fun t301 => (some (t298, t301, 0)))))))) = some (r1, r2, r3) := by rw [if_pos rfl] at H; exact H
    clear H
    have H := H1
    clear H1
    replace H := Option.bind_eq_some_iff.mp H
    obtain ⟨t286, A50, H⟩ := H
    replace H : (if (t286.length : Int) = 0 then (some (([] : List Int), ([] : List Int), 60)) else ((postmarkref02_Digits.f k l0).bind fun t289 => ((postmarkref06_Parts.f t289 t286).bind fun bt292 => ((postmarkref02_Limbs.f k bt292.1).bind fun t298 => ((postmarkref02_Limbs.f k bt292.2).bind fun t301 => (some (t298, t301, 0))))))) = some (r1, r2, r3) := H
    have A5 := Aside0.mk A50
    clear A50
    by_cases c6 : (t286.length : Int) = 0
    · rw [if_pos c6] at H
      have c6b0 : ((t286.length : Int) == 0) = true := beq_iff_eq.mpr c6
      have c6b1 : ((t286.length : Int) != 0) = false := bne_eq_false_iff_eq.mpr c6
      clear c6
      simp only [Option.some.injEq, Prod.mk.injEq] at H
      obtain ⟨rfl, rfl, rfl⟩ := H
      go_enter Try.func40, Try.ntmps40
      go_wp2_with (first | ((with_reducible refine gate_callee (f := 30) rfl ?_); refine goesL_ (some 13) rfl rfl Try.func30 (by kernel_rfl) rfl #[.slice A0 l0.length c0, .slice A1 l1.length c1] rfl (by (try simp only [List.map_toArray, List.map_cons, List.map_nil]); first | done | rfl | (simp only [List.length_drop, List.length_take]; rfl)) ?_; (with_reducible refine (postmarkref02_May.calls k _ _ l0 _ _ l1 true _ ?side1 ?side2 ?side3 ?side4 A3.out).mono ?_); (case side1 => repeat (first | exact HR0.out | (with_reducible refine Kd.C_alloc ?_ _) | (with_reducible refine Kd.C_drewN ?_ _) | (with_reducible refine Kd.C_drew ?_))); (case side2 => exact HC0.out); (case side3 => repeat (first | exact HR1.out | (with_reducible refine Kd.C_alloc ?_ _) | (with_reducible refine Kd.C_drewN ?_ _) | (with_reducible refine Kd.C_drew ?_))); (case side4 => exact HC1.out); rintro e w7 ⟨rfl, hb⟩; refine ⟨_, rfl, ?_⟩; have n0_ := Aside0.mk (below_step (by repeat (first | (with_reducible first | exact HB.out | apply below_alloc | apply pw_below_drewN | apply below_drew1) | exact HB.out)) hb); clear HB; have HB := n0_; clear n0_; (try clear hb); (try clear hb2); (try clear hk); (try clear hi)) | ((with_reducible refine gate_callee (f := 76) rfl ?_); refine goesL_ (some 17) rfl rfl Try.func76 (by kernel_rfl) rfl #[.slice A1 l1.length c1] rfl (by (try simp only [List.map_toArray, List.map_cons, List.map_nil]); first | done | rfl | (simp only [List.length_drop, List.length_take]; rfl)) ?_; (with_reducible refine (postmarkref02_Digits.calls k _ _ l1 t286 _ ?side1 ?side2 A5.out).mono ?_); (case side1 => repeat (first | exact (Kd.C_below HR1.out HB.out) | (with_reducible refine Kd.C_alloc ?_ _) | (with_reducible refine Kd.C_drewN ?_ _) | (with_reducible refine Kd.C_drew ?_))); (case side2 => exact HC1.out); rintro e w8 ⟨v287, rfl, ho0, hb⟩; refine ⟨_, rfl, ?_⟩; have n0_ := Aside0.mk (Kd.R_lower ho0 (below_size (by repeat (first | (with_reducible first | exact HB.out | apply below_alloc | apply pw_below_drewN | apply below_drew1) | exact HB.out)))); have n1_ := Aside0.mk (below_step (by repeat (first | (with_reducible first | exact HB.out | apply below_alloc | apply pw_below_drewN | apply below_drew1) | exact HB.out)) hb); clear HB; have HO288 := n0_; have HB := n1_; clear n0_ n1_; (try clear hb); (try clear hb2); (try clear hk); (try clear hi); (try clear ho0); obtain ⟨Ao9, co9, eo9⟩ := Kd.R_slice HO288.out; subst eo9))
      go_ret3
      exact ⟨_, _, by first | rfl | (simp [errW_none, errW_some] <;> rfl) | (simp [*, errW_none, errW_some] <;> rfl), by first | exact Kd.R_nil _ _ _ _ _ | exact Kd.N_nil _ _ _ _ _ | exact Kd.V_nil _ _ _ _ _ | exact Kd.Q_nil _ _ _ _ _ | exact Kd.S_nil _ _ _ _ _, by first | exact Kd.R_nil _ _ _ _ _ | exact Kd.N_nil _ _ _ _ _ | exact Kd.V_nil _ _ _ _ _ | exact Kd.Q_nil _ _ _ _ _ | exact Kd.S_nil _ _ _ _ _, by repeat (first | (with_reducible first | exact HB.out | apply below_alloc | apply pw_below_drewN | apply below_drew1) | exact HB.out)⟩
    · rw [if_neg c6] at H
      have c6b0 : ((t286.length : Int) == 0) = false := beq_eq_false_iff_ne.mpr c6
      have c6b1 : ((t286.length : Int) != 0) = true := bne_iff_ne.mpr c6
      have c6b2 : ¬ (t286 = []) := fun h_ => c6 (by rw [h_]; rfl)
      replace H := Option.bind_eq_some_iff.mp H
      obtain ⟨t289, A100, H⟩ := H
      replace H : ((postmarkref06_Parts.f t289 t286).bind fun bt292 => ((postmarkref02_Limbs.f k bt292.1).bind fun t298 => ((postmarkref02_Limbs.f k bt292.2).bind fun t301 => (some (t298, t301, 0))))) = some (r1, r2, r3) := H
      have A10 := Aside0.mk A100
      clear A100
      replace H := Option.bind_eq_some_iff.mp H
      obtain ⟨⟨t292, t293⟩, A110, H⟩ := H
      replace H : ((postmarkref02_Limbs.f k t292).bind fun t298 => ((postmarkref02_Limbs.f k t293).bind fun t301 => (some (t298, t301, 0)))) = some (r1, r2, r3) := H
      have A11 := Aside0.mk A110
      clear A110
      replace H := Option.bind_eq_some_iff.mp H
      obtain ⟨t298, A120, H⟩ := H
      replace H : ((postmarkref02_Limbs.f k t293).bind fun t301 => (some (t298, t301, 0))) = some (r1, r2, r3) := H
      have A12 := Aside0.mk A120
      clear A120
      replace H := Option.bind_eq_some_iff.mp H
      obtain ⟨t301, A130, H⟩ := H
      replace H : (some (t298, t301, 0)) = some (r1, r2, r3) := H
      have A13 := Aside0.mk A130
      clear A130
      simp only [Option.some.injEq, Prod.mk.injEq] at H
      obtain ⟨rfl, rfl, rfl⟩ := H
      go_enter Try.func40, Try.ntmps40
      go_wp2_with (first | ((with_reducible refine gate_callee (f := 30) rfl ?_); refine goesL_ (some 13) rfl rfl Try.func30 (by kernel_rfl) rfl #[.slice A0 l0.length c0, .slice A1 l1.length c1] rfl (by (try simp only [List.map_toArray, List.map_cons, List.map_nil]); first | done | rfl | (simp only [List.length_drop, List.length_take]; rfl)) ?_; (with_reducible refine (postmarkref02_May.calls k _ _ l0 _ _ l1 true _ ?side1 ?side2 ?side3 ?side4 A3.out).mono ?_); (case side1 => repeat (first | exact HR0.out | (with_reducible refine Kd.C_alloc ?_ _) | (with_reducible refine Kd.C_drewN ?_ _) | (with_reducible refine Kd.C_drew ?_))); (case side2 => exact HC0.out); (case side3 => repeat (first | exact HR1.out | (with_reducible refine Kd.C_alloc ?_ _) | (with_reducible refine Kd.C_drewN ?_ _) | (with_reducible refine Kd.C_drew ?_))); (case side4 => exact HC1.out); rintro e w14 ⟨rfl, hb⟩; refine ⟨_, rfl, ?_⟩; have n0_ := Aside0.mk (below_step (by repeat (first | (with_reducible first | exact HB.out | apply below_alloc | apply pw_below_drewN | apply below_drew1) | exact HB.out)) hb); clear HB; have HB := n0_; clear n0_; (try clear hb); (try clear hb2); (try clear hk); (try clear hi)) | ((with_reducible refine gate_callee (f := 76) rfl ?_); refine goesL_ (some 17) rfl rfl Try.func76 (by kernel_rfl) rfl #[.slice A1 l1.length c1] rfl (by (try simp only [List.map_toArray, List.map_cons, List.map_nil]); first | done | rfl | (simp only [List.length_drop, List.length_take]; rfl)) ?_; (with_reducible refine (postmarkref02_Digits.calls k _ _ l1 t286 _ ?side1 ?side2 A5.out).mono ?_); (case side1 => repeat (first | exact (Kd.C_below HR1.out HB.out) | (with_reducible refine Kd.C_alloc ?_ _) | (with_reducible refine Kd.C_drewN ?_ _) | (with_reducible refine Kd.C_drew ?_))); (case side2 => exact HC1.out); rintro e w15 ⟨v287, rfl, ho0, hb⟩; refine ⟨_, rfl, ?_⟩; have n0_ := Aside0.mk (Kd.R_lower ho0 (below_size (by repeat (first | (with_reducible first | exact HB.out | apply below_alloc | apply pw_below_drewN | apply below_drew1) | exact HB.out)))); have n1_ := Aside0.mk (below_step (by repeat (first | (with_reducible first | exact HB.out | apply below_alloc | apply pw_below_drewN | apply below_drew1) | exact HB.out)) hb); clear HB; have HO288 := n0_; have HB := n1_; clear n0_ n1_; (try clear hb); (try clear hb2); (try clear hk); (try clear hi); (try clear ho0); obtain ⟨Ao16, co16, eo16⟩ := Kd.R_slice HO288.out; subst eo16) | ((with_reducible refine gate_callee (f := 76) rfl ?_); refine goesL_ (some 23) rfl rfl Try.func76 (by kernel_rfl) rfl #[.slice A0 l0.length c0] rfl (by (try simp only [List.map_toArray, List.map_cons, List.map_nil]); first | done | rfl | (simp only [List.length_drop, List.length_take]; rfl)) ?_; (with_reducible refine (postmarkref02_Digits.calls k _ _ l0 t289 _ ?side1 ?side2 A10.out).mono ?_); (case side1 => repeat (first | exact (Kd.C_below HR0.out HB.out) | (with_reducible refine Kd.C_alloc ?_ _) | (with_reducible refine Kd.C_drewN ?_ _) | (with_reducible refine Kd.C_drew ?_))); (case side2 => exact HC0.out); rintro e w17 ⟨v290, rfl, ho0, hb⟩; refine ⟨_, rfl, ?_⟩; have n0_ := Aside0.mk (Kd.R_elder' (by (with_reducible repeat (first | apply Kd.R_alloc | apply Kd.R_drewN | apply Kd.R_drew)); exact HO288.out) (Kd.R_base ho0) hb); have n1_ := Aside0.mk (Kd.R_lower (Kd.R_new' ho0 (Kd.R_lt (by (with_reducible repeat (first | apply Kd.R_alloc | apply Kd.R_drewN | apply Kd.R_drew)); exact HO288.out))) (below_size (by repeat (first | (with_reducible first | exact HB.out | apply below_alloc | apply pw_below_drewN | apply below_drew1) | exact HB.out)))); have n2_ := Aside0.mk (below_step (by repeat (first | (with_reducible first | exact HB.out | apply below_alloc | apply pw_below_drewN | apply below_drew1) | exact HB.out)) hb); clear HO288; clear HB; have HO288 := n0_; have HO291 := n1_; have HB := n2_; clear n0_ n1_ n2_; (try clear hb); (try clear hb2); (try clear hk); (try clear hi); (try clear ho0); obtain ⟨Ao18, co18, eo18⟩ := Kd.R_slice HO291.out; subst eo18) | ((with_reducible refine gate_callee (f := 79) rfl ?_); refine goesL_ (some 25) rfl rfl Try.func79 (by kernel_rfl) rfl #[.slice Ao18 t289.length co18, .slice Ao16 t286.length co16] rfl (by (try simp only [List.map_toArray, List.map_cons, List.map_nil]); first | done | rfl | (simp only [List.length_drop, List.length_take]; rfl)) ?_; (with_reducible refine (postmarkref06_Parts.calls _ _ t289 _ _ t286 t292 t293 _ ?side1 ?side2 ?side3 ?side4 A11.out).mono ?_); (case side1 => repeat (first | exact (Kd.R_reads' HO291.out).2.2 | (with_reducible refine Kd.C_alloc ?_ _) | (with_reducible refine Kd.C_drewN ?_ _) | (with_reducible refine Kd.C_drew ?_))); (case side2 => exact (Kd.R_reads' HO291.out).2.1); (case side3 => repeat (first | exact (Kd.R_reads' HO288.out).2.2 | (with_reducible refine Kd.C_alloc ?_ _) | (with_reducible refine Kd.C_drewN ?_ _) | (with_reducible refine Kd.C_drew ?_))); (case side4 => exact (Kd.R_reads' HO288.out).2.1); rintro e w19 ⟨v294, v296, rfl, ho0, ho1, hb⟩; refine ⟨_, rfl, ?_⟩; have n0_ := Aside0.mk (Kd.R_mono (Kd.R_told (Kd.R_told (Kd.R_old (by (with_reducible repeat (first | apply Kd.R_alloc | apply Kd.R_drewN | apply Kd.R_drew)); exact HO288.out) hb) (Kd.R_base ho0)) (Kd.R_base ho1)) (fun _ h_ => h_.1)); have n1_ := Aside0.mk (Kd.R_mono (Kd.R_told (Kd.R_told (Kd.R_old (by (with_reducible repeat (first | apply Kd.R_alloc | apply Kd.R_drewN | apply Kd.R_drew)); exact HO291.out) hb) (Kd.R_base ho0)) (Kd.R_base ho1)) (fun _ h_ => h_.1)); have n2_ := Aside0.mk (Kd.R_lower (Kd.R_new' (Kd.R_new' ho0 (Kd.R_lt (by (with_reducible repeat (first | apply Kd.R_alloc | apply Kd.R_drewN | apply Kd.R_drew)); exact HO288.out))) (Kd.R_lt (by (with_reducible repeat (first | apply Kd.R_alloc | apply Kd.R_drewN | apply Kd.R_drew)); exact HO291.out))) (below_size (by repeat (first | (with_reducible first | exact HB.out | apply below_alloc | apply pw_below_drewN | apply below_drew1) | exact HB.out)))); have n3_ := Aside0.mk (Kd.R_lower (Kd.R_new' (Kd.R_new' ho1 (Kd.R_lt (by (with_reducible repeat (first | apply Kd.R_alloc | apply Kd.R_drewN | apply Kd.R_drew)); exact HO288.out))) (Kd.R_lt (by (with_reducible repeat (first | apply Kd.R_alloc | apply Kd.R_drewN | apply Kd.R_drew)); exact HO291.out))) (below_size (by repeat (first | (with_reducible first | exact HB.out | apply below_alloc | apply pw_below_drewN | apply below_drew1) | exact HB.out)))); have n4_ := Aside0.mk (below_step (by repeat (first | (with_reducible first | exact HB.out | apply below_alloc | apply pw_below_drewN | apply below_drew1) | exact HB.out)) hb); clear HO288; clear HO291; clear HB; have HO288 := n0_; have HO291 := n1_; have HO295 := n2_; have HO297 := n3_; have HB := n4_; clear n0_ n1_ n2_ n3_ n4_; (try clear hb); (try clear hb2); (try clear hk); (try clear hi); (try clear ho0); (try clear ho1); obtain ⟨Ao20, co20, eo20⟩ := Kd.R_slice HO295.out; subst eo20) | ((with_reducible refine gate_callee (f := 80) rfl ?_); refine goesL_ (some 29) rfl rfl Try.func80 (by kernel_rfl) rfl #[.slice Ao20 t292.length co20] rfl (by (try simp only [List.map_toArray, List.map_cons, List.map_nil]); first | done | rfl | (simp only [List.length_drop, List.length_take]; rfl)) ?_; (with_reducible refine (postmarkref02_Limbs.calls k (fun k_ => some k_ = (.slice Ao20 t292.length co20 : Value).ownBlock) (.slice Ao20 t292.length co20) t292 t298 w _ ?side1 ?side2 A12.out).mono ?_); (case side1 => repeat (first | (with_reducible first | exact HB.out | apply below_alloc | apply pw_below_drewN | apply below_drew1) | exact HB.out)); (case side2 => exact Kd.R_tight rfl HO295.out); rintro e w21 ⟨v299, rfl, ho0, hb, hkp⟩; refine ⟨_, rfl, ?_⟩; have n0_ := Aside0.mk (Kd.R_mono (ok' := fun k_ => some k_ ≠ (.slice Ao18 t289.length co18 : Value).ownBlock ∧ some k_ ≠ (v296 : Value).ownBlock) (Kd.R_keptB (HO288.out) hkp (fun k_ hk_ hs_ => (hk_.1.2) hs_)) (fun k_ hk_ => ⟨hk_.1.1.1.2, hk_.1.2⟩)); have n1_ := Aside0.mk (Kd.R_mono (ok' := fun k_ => some k_ ≠ (.slice Ao16 t286.length co16 : Value).ownBlock ∧ some k_ ≠ (v296 : Value).ownBlock) (Kd.R_keptB (HO291.out) hkp (fun k_ hk_ hs_ => (hk_.1.2) hs_)) (fun k_ hk_ => ⟨hk_.1.1.1.2, hk_.1.2⟩)); have n2_ := Aside0.mk (Kd.R_mono (ok' := fun k_ => some k_ ≠ (.slice Ao16 t286.length co16 : Value).ownBlock ∧ some k_ ≠ (.slice Ao18 t289.length co18 : Value).ownBlock) (Kd.R_keptB (HO297.out) hkp (fun k_ hk_ hs_ => (hk_.1.1) hs_)) (fun k_ hk_ => ⟨hk_.1.1.2, hk_.1.2⟩)); have n3_ := Aside0.mk (Kd.R_mono (ok' := fun k_ => True) ho0 (fun k_ hk_ => trivial)); have n4_ := Aside0.mk (hb); clear HO288; clear HO291; clear HO297; clear HB; clear HO295; have HO288 := n0_; have HO291 := n1_; have HO297 := n2_; have HO300 := n3_; have HB := n4_; clear n0_ n1_ n2_ n3_ n4_; (try clear hb); (try clear hkp); (try clear ho0); obtain ⟨Ao22, co22, eo22⟩ := Kd.R_slice HO297.out; subst eo22) | ((with_reducible refine gate_callee (f := 80) rfl ?_); refine goesL_ (some 31) rfl rfl Try.func80 (by kernel_rfl) rfl #[.slice Ao22 t293.length co22] rfl (by (try simp only [List.map_toArray, List.map_cons, List.map_nil]); first | done | rfl | (simp only [List.length_drop, List.length_take]; rfl)) ?_; (with_reducible refine (postmarkref02_Limbs.calls k (fun k_ => some k_ = (.slice Ao22 t293.length co22 : Value).ownBlock) (.slice Ao22 t293.length co22) t293 t301 w _ ?side1 ?side2 A13.out).mono ?_); (case side1 => repeat (first | (with_reducible first | exact HB.out | apply below_alloc | apply pw_below_drewN | apply below_drew1) | exact HB.out)); (case side2 => exact Kd.R_tight rfl HO297.out); rintro e w23 ⟨v302, rfl, ho0, hb, hkp⟩; refine ⟨_, rfl, ?_⟩; have n0_ := Aside0.mk (Kd.R_mono (ok' := fun k_ => some k_ ≠ (.slice Ao18 t289.length co18 : Value).ownBlock) (Kd.R_keptB (HO288.out) hkp (fun k_ hk_ hs_ => (hk_.2) hs_)) (fun k_ hk_ => hk_.1.1)); have n1_ := Aside0.mk (Kd.R_mono (ok' := fun k_ => some k_ ≠ (.slice Ao16 t286.length co16 : Value).ownBlock) (Kd.R_keptB (HO291.out) hkp (fun k_ hk_ hs_ => (hk_.2) hs_)) (fun k_ hk_ => hk_.1.1)); have n2_ := Aside0.mk (Kd.R_mono (ok' := fun k_ => some k_ ≠ (v302 : Value).ownBlock) (Kd.R_keptB ((Kd.R_apart' HO300.out (Kd.R_typed HO297.out) (by decide))) hkp (fun k_ hk_ hs_ => (hk_.2) hs_)) (fun k_ hk_ => fun e_ => Or.elim (ho0.1 k_ e_.symm) (fun hs_ => hk_.2.1 hs_) (fun hn_ => Nat.not_le.2 hk_.2.2 hn_))); have n3_ := Aside0.mk (Kd.R_mono (ok' := fun k_ => some k_ ≠ (v299 : Value).ownBlock) ho0 (fun k_ hk_ => Or.elim hk_ (fun hs_ => fun e_ => ((((Kd.R_apart' HO300.out (Kd.R_typed HO297.out) (by decide))).1 k_ e_.symm).2) hs_) (fun hn_ => (Kd.fresh' (Kd.R_lt (by (with_reducible repeat (first | apply Kd.R_alloc | apply Kd.R_drewN | apply Kd.R_drew)); exact HO300.out)) k_ hn_)))); have n4_ := Aside0.mk (hb); clear HO288; clear HO291; clear HO300; clear HB; clear HO297; have HO288 := n0_; have HO291 := n1_; have HO300 := n2_; have HO303 := n3_; have HB := n4_; clear n0_ n1_ n2_ n3_ n4_; (try clear hb); (try clear hkp); (try clear ho0)))
      go_ret3
      exact ⟨_, _, by first | rfl | (simp [errW_none, errW_some] <;> rfl) | (simp [*, errW_none, errW_some] <;> rfl), by (with_reducible repeat (first | apply Kd.R_alloc | apply Kd.R_drewN | apply Kd.R_drew)); exact HO300.out, by (with_reducible repeat (first | apply Kd.R_alloc | apply Kd.R_drewN | apply Kd.R_drew)); exact HO303.out, by repeat (first | (with_reducible first | exact HB.out | apply below_alloc | apply pw_below_drewN | apply below_drew1) | exact HB.out)⟩
  · replace c4 := Bool.eq_false_iff.mpr c4
    subst c4
    have H1 : (some (([] : List Int), ([] : List Int), 20)) = some (r1, r2, r3) := by rw [if_neg (show ¬ (false = true) by decide)] at H; exact H
    clear H
    have H := H1
    clear H1
    simp only [Option.some.injEq, Prod.mk.injEq] at H
    obtain ⟨rfl, rfl, rfl⟩ := H
    go_enter Try.func40, Try.ntmps40
    go_wp2_with (first | ((with_reducible refine gate_callee (f := 30) rfl ?_); refine goesL_ (some 13) rfl rfl Try.func30 (by kernel_rfl) rfl #[.slice A0 l0.length c0, .slice A1 l1.length c1] rfl (by (try simp only [List.map_toArray, List.map_cons, List.map_nil]); first | done | rfl | (simp only [List.length_drop, List.length_take]; rfl)) ?_; (with_reducible refine (postmarkref02_May.calls k _ _ l0 _ _ l1 false _ ?side1 ?side2 ?side3 ?side4 A3.out).mono ?_); (case side1 => repeat (first | exact HR0.out | (with_reducible refine Kd.C_alloc ?_ _) | (with_reducible refine Kd.C_drewN ?_ _) | (with_reducible refine Kd.C_drew ?_))); (case side2 => exact HC0.out); (case side3 => repeat (first | exact HR1.out | (with_reducible refine Kd.C_alloc ?_ _) | (with_reducible refine Kd.C_drewN ?_ _) | (with_reducible refine Kd.C_drew ?_))); (case side4 => exact HC1.out); rintro e w24 ⟨rfl, hb⟩; refine ⟨_, rfl, ?_⟩; have n0_ := Aside0.mk (below_step (by repeat (first | (with_reducible first | exact HB.out | apply below_alloc | apply pw_below_drewN | apply below_drew1) | exact HB.out)) hb); clear HB; have HB := n0_; clear n0_; (try clear hb); (try clear hb2); (try clear hk); (try clear hi)))
    go_ret3
    exact ⟨_, _, by first | rfl | (simp [errW_none, errW_some] <;> rfl) | (simp [*, errW_none, errW_some] <;> rfl), by first | exact Kd.R_nil _ _ _ _ _ | exact Kd.N_nil _ _ _ _ _ | exact Kd.V_nil _ _ _ _ _ | exact Kd.Q_nil _ _ _ _ _ | exact Kd.S_nil _ _ _ _ _, by first | exact Kd.R_nil _ _ _ _ _ | exact Kd.N_nil _ _ _ _ _ | exact Kd.V_nil _ _ _ _ _ | exact Kd.Q_nil _ _ _ _ _ | exact Kd.S_nil _ _ _ _ _, by repeat (first | (with_reducible first | exact HB.out | apply below_alloc | apply pw_below_drewN | apply below_drew1) | exact HB.out)⟩
end Go.Proofs.Ytlifengbicpppaa.G
end
section
namespace Go.Proofs.Ytlifengbicpppaa.G
open Go.RowKit Go.Proofs.YtlifengbicpppaaW.PrintWords Go.Proofs.YtlifengbicpppaaW.PrintLast Go.Proofs.YtlifengbicpppaaW.PrintMore
attribute [local go_sem] max2_int min2_int max_two min_two max_three min_three max_four min_four   -- for this text's walks alone
set_option linter.unusedVariables false
set_option linter.unusedSimpArgs false
end Go.Proofs.Ytlifengbicpppaa.G
end
section
namespace Go.Proofs.Ytlifengbicpppaa.G
open Go.RowKit Go.Proofs.YtlifengbicpppaaW.PrintWords Go.Proofs.YtlifengbicpppaaW.PrintLast Go.Proofs.YtlifengbicpppaaW.PrintMore
attribute [local go_sem] max2_int min2_int max_two min_two max_three min_three max_four min_four   -- for this text's walks alone
set_option linter.unusedVariables false
set_option linter.unusedSimpArgs false
def postmarklaw06_great.l0 : Nat → Int → List (List Int) → Int → Int → Option (Bool)
  | 0, _, _, _, _ => none
  | k + 1, x0, x1, x7, x8 => if x8 < x7 then (if 0 ≤ x8 then (if x8 < (x1.length : Int) then (if ((rd_L2 x1 x8).length : Int) > x0 then (some true) else (postmarklaw06_great.l0 k x0 x1 x7 (wrap64 (x8 + 1)))) else (none)) else (none)) else (some false)
def postmarklaw06_great.f (k : Nat) (a0 : Int) (l1 : List (List Int)) : Option (Bool) := postmarklaw06_great.l0 k a0 l1 (l1.length : Int) 0
set_option maxHeartbeats 8000000 in
set_option maxRecDepth 100000 in
theorem postmarklaw06_great.calls (k : Nat) (a0 : Int) (A1 : Option Addr) (c1 : Nat) (l1 : List (List Int)) (r : Bool) (w : World) (hr1 : Kd.C (Kd.slice 75 (Kd.int .u32)) w A1 l1.length l1) (hc1 : l1.length ≤ c1) (h : postmarklaw06_great.f k a0 l1 = some r) :
    Calls Try.prog 29 #[.int .i64 a0, .slice A1 l1.length c1] w fun e w' => e = .returned (.bool r) ∧ Drawn0 w w' := by
  have HR1 := Aside0.mk hr1
  have HC1 := Aside0.mk hc1
  clear hr1 hc1
  have H : (postmarklaw06_great.l0 k a0 l1 (l1.length : Int) 0) = some r := h
  clear h
  have H' := Aside0.mk H
  clear H
  go_enter Try.func29, Try.ntmps29
  go_wp2
  go_loopg [8] k (fun kq v8 w' => ∃ (x8_1 : Int), v8 = .int .i64 x8_1 ∧ Aside0 (postmarklaw06_great.l0 kq a0 l1 (l1.length : Int) x8_1 = some r) ∧ Aside0 (kq ≤ k) ∧ Drawn0 w w')
  case atStart => exact ⟨(0), (by first | rfl | (simp; done) | (simp [*]; done)), H', ⟨Nat.le_refl _⟩, by repeat (first | exact Drawn0.refl _ | apply Drawn0.step)⟩
  case round =>
    clear H'
    try clear c1
    try clear c2
    try clear p2
    obtain ⟨x8_1, rfl, HA, HK1, ⟨m1, rfl⟩⟩ := hrel
    cases gk with
    | zero => exact absurd HA.out (by simp [postmarklaw06_great.l0])
    | succ k1 =>
      have H := HA.out
      clear HA
      simp only [postmarklaw06_great.l0] at H
      by_cases c3 : x8_1 < (l1.length : Int)
      · rw [if_pos c3] at H
        have c3b0 : decide (x8_1 < (l1.length : Int)) = true := decide_eq_true c3
        clear c3
        by_cases c4 : 0 ≤ x8_1
        · rw [if_pos c4] at H
          have c4b0 : decide (0 ≤ x8_1) = true := decide_eq_true c4
          clear c4
          by_cases c5 : x8_1 < (l1.length : Int)
          · rw [if_pos c5] at H
            have c5b0 : decide (x8_1 < (l1.length : Int)) = true := decide_eq_true c5
            clear c5
            by_cases c6 : ((rd_L2 l1 x8_1).length : Int) > a0
            · rw [if_pos c6] at H
              have c6b0 : decide (a0 < ((rd_L2 l1 x8_1).length : Int)) = true := decide_eq_true c6
              clear c6
              obtain rfl := Option.some.inj H
              have p558 : 0 ≤ (x8_1 : Int) := of_decide_eq_true (by first | (with_reducible assumption) | assumption)
              have q558 : x8_1 < (l1.length : Int) := of_decide_eq_true (by first | (with_reducible assumption) | assumption)
              obtain ⟨ad558, A558_0, c558_0, e558, hx558_0, hl558_0, hi558_0⟩ := at_L2 HR1.out x8_1 p558 q558
              cases e558
              have HR558_0 := Aside0.mk hi558_0
              have HC558_0 := Aside0.mk hl558_0
              clear hi558_0 hl558_0
              replace p558 := eq_true p558
              replace q558 := eq_true q558
              go_wp2
              go_ret
              exact ⟨by first | rfl | (simp; done) | (simp [*]; done), by repeat (first | exact Drawn0.refl _ | apply Drawn0.step)⟩
            · rw [if_neg c6] at H
              have c6b0 : decide (a0 < ((rd_L2 l1 x8_1).length : Int)) = false := decide_eq_false c6
              clear c6
              have H' := Aside0.mk H
              clear H
              have p558 : 0 ≤ (x8_1 : Int) := of_decide_eq_true (by first | (with_reducible assumption) | assumption)
              have q558 : x8_1 < (l1.length : Int) := of_decide_eq_true (by first | (with_reducible assumption) | assumption)
              obtain ⟨ad558, A558_0, c558_0, e558, hx558_0, hl558_0, hi558_0⟩ := at_L2 HR1.out x8_1 p558 q558
              cases e558
              have HR558_0 := Aside0.mk hi558_0
              have HC558_0 := Aside0.mk hl558_0
              clear hi558_0 hl558_0
              replace p558 := eq_true p558
              replace q558 := eq_true q558
              go_wp2
              go_roundg k1
              case measure => have := HK1.out; omega
              case rel => exact ⟨(wrap64 (x8_1 + 1)), (by first | rfl | (simp; done) | (simp [*]; done)), H', ⟨by have := HK1.out; omega⟩, by repeat (first | exact Drawn0.refl _ | apply Drawn0.step)⟩
          · rw [if_neg c5] at H
            exact absurd H (by simp)
        · rw [if_neg c4] at H
          exact absurd H (by simp)
      · rw [if_neg c3] at H
        have c3b0 : decide (x8_1 < (l1.length : Int)) = false := decide_eq_false c3
        clear c3
        obtain rfl := Option.some.inj H
        go_wp2
        go_ret
        exact ⟨by first | rfl | (simp; done) | (simp [*]; done), by repeat (first | exact Drawn0.refl _ | apply Drawn0.step)⟩
end Go.Proofs.Ytlifengbicpppaa.G
end
section
namespace Go.Proofs.Ytlifengbicpppaa.G
open Go.RowKit Go.Proofs.YtlifengbicpppaaW.PrintWords Go.Proofs.YtlifengbicpppaaW.PrintLast Go.Proofs.YtlifengbicpppaaW.PrintMore
open Go.Proofs.Ytlifengbicpppaa.Num
/-- Limbs that may be a natural's. -/
structure Lb (l : List Int) : Prop where
  dg : Dg 4294967296 l
  len : l.length < 1000000
def fits (l : List Int) : Bool := decide ((strip l).length ≤ 256)
theorem Lb.strip_eq {l : List Int} (h : Lb l) : strip l = digs 4294967296 (val 4294967296 l) := (digs_val (by decide) h.dg).symm
theorem trimmed_digs {n : Nat} (h : (digs 4294967296 n).length < 1000000) : trimmed (digs 4294967296 n) = true := by
  simp only [trimmed, Bool.and_eq_true, decide_eq_true_eq, List.all_eq_true]
  exact ⟨⟨fun x hx => digs_Dg (by decide) n x hx, strip_digs (by decide) n⟩, by omega⟩
theorem divided_eq (a b : Nat) (hb : 0 < b) (ha : (digs 4294967296 a).length < 1000000) (hbl : (digs 4294967296 b).length < 1000000) :
    ratio_divided.f (digs 4294967296 a) (digs 4294967296 b) = some (digs 4294967296 (a / b), digs 4294967296 (a % b)) := by
  have hne : digs 4294967296 b ≠ [] := fun e => by rw [digs_eq_nil (by decide)] at e; omega
  unfold ratio_divided.f
  rw [trimmed_digs ha, trimmed_digs hbl, val_digs (by decide), val_digs (by decide)]
  simp [hne]
theorem parts_eq (a b : Nat) (hb : 0 < b) (ha : (digs 256 a).length < 1000000) (hbl : (digs 256 b).length < 1000000) :
    postmarkref06_Parts.f (digs 256 a) (digs 256 b) = some (digs 256 (a / b), digs 256 (a % b)) := by
  unfold postmarkref06_Parts.f
  rw [dig8_of (digs_Dg (by decide) _) ha, dig8_of (digs_Dg (by decide) _) hbl, val_digs (by decide), val_digs (by decide)]
  simp [hb]
theorem both_ev (x y : List Int) (hx : Lb x) (hy : Lb y) : Ev (fun k => ratio_both.f k x y) (if (fits x && fits y) = true then (strip x, strip y, 0) else ([], [], 20)) := by
  unfold ratio_both.f
  refine (trim_ev x hx.len).bind ?_
  refine (trim_ev y hy.len).bind ?_
  by_cases h1 : 256 < (strip x).length
  · have : fits x = false := by unfold fits; simp; omega
    simp [h1, this]
    exact Ev.now _
  · have e1 : fits x = true := by unfold fits; simp; omega
    by_cases h2 : 256 < (strip y).length
    · have : fits y = false := by unfold fits; simp; omega
      simp [h1, h2, this]
      exact Ev.now _
    · have e2 : fits y = true := by unfold fits; simp; omega
      simp [h1, h2, e1, e2]
      exact Ev.now _
/-- What Div comes to. -/
def DIV (x y : List Int) : List Int × List Int × Int :=
  if (fits x && fits y) = true then (if val 4294967296 y = 0 then ([], [], 60) else (digs 4294967296 (val 4294967296 x / val 4294967296 y), digs 4294967296 (val 4294967296 x % val 4294967296 y), 0)) else ([], [], 20)
theorem fits_len {x : List Int} (h : fits x = true) : (strip x).length ≤ 256 := by simpa [fits] using h
theorem div_ev (x y : List Int) (hx : Lb x) (hy : Lb y) : Ev (fun k => ratio_Div.f k x y) (DIV x y) := by
  unfold ratio_Div.f DIV
  refine (both_ev x y hx hy).bind ?_
  by_cases hf : (fits x && fits y) = true
  · simp only [if_pos hf, if_true]
    rw [Bool.and_eq_true] at hf
    have l1 := fits_len hf.1
    have l2 := fits_len hf.2
    rw [hx.strip_eq] at l1
    rw [hy.strip_eq] at l2
    have e0 := digs_eq_nil (b := 4294967296) (by decide) (n := val 4294967296 y)
    by_cases h0 : val 4294967296 y = 0
    · rw [if_pos h0]
      have : strip y = [] := by rw [hy.strip_eq]; exact e0.2 h0
      simp [this]
      exact Ev.now _
    · rw [if_neg h0]
      have hne : ¬ ((strip y).length : Int) = 0 := by
        rw [hy.strip_eq]
        intro h
        exact h0 (e0.1 (List.eq_nil_of_length_eq_zero (by omega)))
      simp only [hne, if_false]
      rw [hx.strip_eq, hy.strip_eq, divided_eq _ _ (by omega) (by omega) (by omega)]
      exact Ev.now _
  · simp only [if_neg hf]
    simp
    exact Ev.now _
theorem mod_ev (x y : List Int) (hx : Lb x) (hy : Lb y) : Ev (fun k => ratio_Mod.f k x y) ((DIV x y).2.1, (DIV x y).2.2) := by
  unfold ratio_Mod.f
  exact (div_ev x y hx hy).bind (Ev.now _)
theorem refdiv_ev (x y : List Int) (hx : Lb x) (hy : Lb y) : Ev (fun k => postmarkref06_Div.f k x y) (DIV x y) := by
  unfold postmarkref06_Div.f DIV
  refine (may_ev x y hx.dg hy.dg hx.len hy.len).bind ?_
  show Ev (fun k => if (fits x && fits y) = true then _ else _) _
  by_cases hf : (fits x && fits y) = true
  · simp only [if_pos hf]
    rw [Bool.and_eq_true] at hf
    have l1 := fits_len hf.1
    have l2 := fits_len hf.2
    rw [hx.strip_eq] at l1
    rw [hy.strip_eq] at l2
    have m1 := (len_max _).2 l1
    have m2 := (len_max _).2 l2
    refine (digits_ev y hy.dg hy.len).bind ?_
    have e0 := digs_eq_nil (b := 256) (by decide) (n := val 4294967296 y)
    by_cases h0 : val 4294967296 y = 0
    · rw [if_pos h0]
      have : digs 256 (val 4294967296 y) = [] := e0.2 h0
      simp only [this, List.length_nil]
      exact Ev.now _
    · rw [if_neg h0]
      have hne : ¬ ((digs 256 (val 4294967296 y)).length : Int) = 0 := by
        intro h
        exact h0 (e0.1 (List.eq_nil_of_length_eq_zero (by omega)))
      simp only [hne, if_false]
      refine (digits_ev x hx.dg hx.len).bind ?_
      rw [parts_eq _ _ (by omega) (by omega) (by omega)]
      simp only [Option.bind_some]
      have q1 : (digs 256 (val 4294967296 x / val 4294967296 y)).length ≤ (digs 256 (val 4294967296 x)).length := digs_lt (by decide) (Nat.div_le_self _ _)
      have q2 : (digs 256 (val 4294967296 x % val 4294967296 y)).length ≤ (digs 256 (val 4294967296 x)).length := digs_lt (by decide) (Nat.mod_le _ _)
      refine (limbs_ev _ (by omega)).bind ?_
      refine (limbs_ev _ (by omega)).bind ?_
      exact Ev.now _
  · simp only [if_neg hf]
    exact Ev.now _
theorem great6_l0 (m : Int) (l : List (List Int)) (hl : l.length < 1000000) : ∀ (d i : Nat), d = l.length - i → i ≤ l.length → Ev (fun k => postmarklaw06_great.l0 k m l (l.length : Int) (i : Int)) ((l.drop i).any (fun x => decide (m < x.length)))
  | 0, i, hd, hi => by
    rw [List.drop_eq_nil_of_le (by omega)]
    refine Ev.step (f := fun _ => some false) (fun k => ?_) (Ev.now _)
    simp only [postmarklaw06_great.l0]
    rw [if_neg (by omega)]
  | d + 1, i, hd, hi => by
    have h1 : (i : Int) < (l.length : Int) := by omega
    have h2 : (0 : Int) ≤ (i : Int) := by omega
    have e : wrap64 ((i : Int) + 1) = ((i + 1 : Nat) : Int) := (w64 (by omega) (by omega)).trans (by omega)
    have hil : i < l.length := by clear e; omega
    have hr : rd_L2 l (i : Int) = l[i] := by simp [rd_L2, hil]
    rw [List.drop_eq_getElem_cons hil, List.any_cons]
    refine Ev.step (f := fun k => if (l[i].length : Int) > m then some true else postmarklaw06_great.l0 k m l (l.length : Int) ((i + 1 : Nat) : Int)) (fun k => ?_) ?_
    · simp only [postmarklaw06_great.l0]
      rw [if_pos h1, if_pos h2, hr, e, if_pos h1]
    · by_cases hg : (l[i].length : Int) > m
      · simp only [if_pos hg, decide_eq_true (show m < (l[i].length : Int) from hg), Bool.true_or]
        exact Ev.now _
      · simp only [if_neg hg, decide_eq_false (show ¬ m < (l[i].length : Int) from hg), Bool.false_or]
        exact great6_l0 m l hl d (i + 1) (by clear e; omega) hil
theorem great6_ev (m : Int) (l : List (List Int)) (hl : l.length < 1000000) : Ev (fun k => postmarklaw06_great.f k m l) (l.any (fun x => decide (m < x.length))) := by
  have := great6_l0 m l hl l.length 0 (by omega) (by omega)
  rw [List.drop_zero] at this
  exact this
end Go.Proofs.Ytlifengbicpppaa.G
end
section
namespace Go.Proofs.Ytlifengbicpppaa.G
open Go.RowKit Go.Proofs.YtlifengbicpppaaW.PrintWords Go.Proofs.YtlifengbicpppaaW.PrintLast Go.Proofs.YtlifengbicpppaaW.PrintMore
attribute [local go_sem] max2_int min2_int max_two min_two max_three min_three max_four min_four   -- for this text's walks alone
set_option linter.unusedVariables false
set_option linter.unusedSimpArgs false
def postmarkref02_Same.l0 : Nat → List Int → List Int → Int → Option (Bool)
  | 0, _, _, _ => none
  | k + 1, x0, x1, x5 => if x5 < (x0.length : Int) then (if 0 ≤ x5 then (if x5 < (x1.length : Int) then (if (rd x0 x5) = (rd x1 x5) then (postmarkref02_Same.l0 k x0 x1 (wrap64 (x5 + 1))) else (some false)) else (none)) else (none)) else (some true)
def postmarkref02_Same.f (k : Nat) (l0 : List Int) (l1 : List Int) : Option (Bool) := if (l0.length : Int) = (l1.length : Int) then (postmarkref02_Same.l0 k l0 l1 0) else (some false)
set_option maxHeartbeats 8000000 in
set_option maxRecDepth 100000 in
theorem postmarkref02_Same.calls (k : Nat) (A0 : Option Addr) (c0 : Nat) (l0 : List Int) (A1 : Option Addr) (c1 : Nat) (l1 : List Int) (r : Bool) (w : World) (hr0 : Kd.C (Kd.int .u32) w A0 l0.length l0) (hc0 : l0.length ≤ c0) (hr1 : Kd.C (Kd.int .u32) w A1 l1.length l1) (hc1 : l1.length ≤ c1) (h : postmarkref02_Same.f k l0 l1 = some r) :
    Calls Try.prog 34 #[.slice A0 l0.length c0, .slice A1 l1.length c1] w fun e w' => e = .returned (.bool r) ∧ Drawn0 w w' := by
  have HR0 := Aside0.mk hr0
  have HC0 := Aside0.mk hc0
  clear hr0 hc0
  have HR1 := Aside0.mk hr1
  have HC1 := Aside0.mk hc1
  clear hr1 hc1
  have H : (if (l0.length : Int) = (l1.length : Int) then (postmarkref02_Same.l0 k l0 l1 0) else (some false)) = some r := h
  clear h
  by_cases c3 : (l0.length : Int) = (l1.length : Int)
  · rw [if_pos c3] at H
    have c3b0 : ((l0.length : Int) == (l1.length : Int)) = true := beq_iff_eq.mpr c3
    have c3b1 : ((l0.length : Int) != (l1.length : Int)) = false := bne_eq_false_iff_eq.mpr c3
    have c3b2 : (l0.length == l1.length) = true := by first | simpa using c3 | (simp at c3 ⊢; omega)
    clear c3
    have H' := Aside0.mk H
    clear H
    go_enter Try.func34, Try.ntmps34
    go_wp2
    repeat (go_quiet (fail); try go_wp2)
    go_loopg [5] k (fun kq v5 w' => ∃ (x5_1 : Int), v5 = .int .i64 x5_1 ∧ Aside0 (postmarkref02_Same.l0 kq l0 l1 x5_1 = some r) ∧ Aside0 (kq ≤ k) ∧ Drawn0 w w')
    case atStart => exact ⟨(0), (by first | rfl | (simp; done) | (simp [*]; done)), H', ⟨Nat.le_refl _⟩, by repeat (first | exact Drawn0.refl _ | apply Drawn0.step)⟩
    case round =>
      clear H'
      try clear c1
      try clear p2
      try clear c3
      try clear c3b0
      try clear c3b1
      try clear c3b2
      obtain ⟨x5_1, rfl, HA, HK1, ⟨m1, rfl⟩⟩ := hrel
      cases gk with
      | zero => exact absurd HA.out (by simp [postmarkref02_Same.l0])
      | succ k1 =>
        have H := HA.out
        clear HA
        simp only [postmarkref02_Same.l0] at H
        by_cases c4 : x5_1 < (l0.length : Int)
        · rw [if_pos c4] at H
          have c4b0 : decide (x5_1 < (l0.length : Int)) = true := decide_eq_true c4
          clear c4
          by_cases c5 : 0 ≤ x5_1
          · rw [if_pos c5] at H
            have c5b0 : decide (0 ≤ x5_1) = true := decide_eq_true c5
            clear c5
            by_cases c6 : x5_1 < (l1.length : Int)
            · rw [if_pos c6] at H
              have c6b0 : decide (x5_1 < (l1.length : Int)) = true := decide_eq_true c6
              clear c6
              by_cases c7 : (rd l0 x5_1) = (rd l1 x5_1)
              · rw [if_pos c7] at H
                have c7b0 : ((rd l0 x5_1) == (rd l1 x5_1)) = true := beq_iff_eq.mpr c7
                have c7b1 : ((rd l0 x5_1) != (rd l1 x5_1)) = false := bne_eq_false_iff_eq.mpr c7
                clear c7
                have H' := Aside0.mk H
                clear H
                have p180 : 0 ≤ (x5_1 : Int) := of_decide_eq_true (by first | (with_reducible assumption) | assumption)
                have q180 : x5_1 < (l0.length : Int) := of_decide_eq_true (by first | (with_reducible assumption) | assumption)
                obtain ⟨ad180, e180, hx180_0⟩ := Kd.at_int HR0.out x5_1 p180 q180
                cases e180
                replace p180 := eq_true p180
                replace q180 := eq_true q180
                have p181 : 0 ≤ (x5_1 : Int) := of_decide_eq_true (by first | (with_reducible assumption) | assumption)
                have q181 : x5_1 < (l1.length : Int) := of_decide_eq_true (by first | (with_reducible assumption) | assumption)
                obtain ⟨ad181, e181, hx181_0⟩ := Kd.at_int HR1.out x5_1 p181 q181
                cases e181
                replace p181 := eq_true p181
                replace q181 := eq_true q181
                go_wp2
                repeat (go_quiet (fail); try go_wp2)
                go_roundg k1
                case measure => have := HK1.out; omega
                case rel => exact ⟨(wrap64 (x5_1 + 1)), (by first | rfl | (simp; done) | (simp [*]; done)), H', ⟨by have := HK1.out; omega⟩, by repeat (first | exact Drawn0.refl _ | apply Drawn0.step)⟩
              · rw [if_neg c7] at H
                have c7b0 : ((rd l0 x5_1) == (rd l1 x5_1)) = false := beq_eq_false_iff_ne.mpr c7
                have c7b1 : ((rd l0 x5_1) != (rd l1 x5_1)) = true := bne_iff_ne.mpr c7
                obtain rfl := Option.some.inj H
                have p180 : 0 ≤ (x5_1 : Int) := of_decide_eq_true (by first | (with_reducible assumption) | assumption)
                have q180 : x5_1 < (l0.length : Int) := of_decide_eq_true (by first | (with_reducible assumption) | assumption)
                obtain ⟨ad180, e180, hx180_0⟩ := Kd.at_int HR0.out x5_1 p180 q180
                cases e180
                replace p180 := eq_true p180
                replace q180 := eq_true q180
                have p181 : 0 ≤ (x5_1 : Int) := of_decide_eq_true (by first | (with_reducible assumption) | assumption)
                have q181 : x5_1 < (l1.length : Int) := of_decide_eq_true (by first | (with_reducible assumption) | assumption)
                obtain ⟨ad181, e181, hx181_0⟩ := Kd.at_int HR1.out x5_1 p181 q181
                cases e181
                replace p181 := eq_true p181
                replace q181 := eq_true q181
                go_wp2
                repeat (go_quiet (fail); try go_wp2)
                go_ret
                exact ⟨by first | rfl | (simp; done) | (simp [*]; done), by repeat (first | exact Drawn0.refl _ | apply Drawn0.step)⟩
            · rw [if_neg c6] at H
              exact absurd H (by simp)
          · rw [if_neg c5] at H
            exact absurd H (by simp)
        · rw [if_neg c4] at H
          have c4b0 : decide (x5_1 < (l0.length : Int)) = false := decide_eq_false c4
          clear c4
          obtain rfl := Option.some.inj H
          go_wp2
          repeat (go_quiet (fail); try go_wp2)
          go_ret
          exact ⟨by first | rfl | (simp; done) | (simp [*]; done), by repeat (first | exact Drawn0.refl _ | apply Drawn0.step)⟩
  · rw [if_neg c3] at H
    have c3b0 : ((l0.length : Int) == (l1.length : Int)) = false := beq_eq_false_iff_ne.mpr c3
    have c3b1 : ((l0.length : Int) != (l1.length : Int)) = true := bne_iff_ne.mpr c3
    have c3b2 : (l0.length == l1.length) = false := by first | simpa using c3 | (simp at c3 ⊢; omega)
    obtain rfl := Option.some.inj H
    go_enter Try.func34, Try.ntmps34
    go_wp2
    repeat (go_quiet (fail); try go_wp2)
    go_ret
    exact ⟨by first | rfl | (simp; done) | (simp [*]; done), by repeat (first | exact Drawn0.refl _ | apply Drawn0.step)⟩
end Go.Proofs.Ytlifengbicpppaa.G
end
section
namespace Go.Proofs.Ytlifengbicpppaa.G
open Go.RowKit Go.Proofs.YtlifengbicpppaaW.PrintWords Go.Proofs.YtlifengbicpppaaW.PrintLast Go.Proofs.YtlifengbicpppaaW.PrintMore
open Go.Proofs.Ytlifengbicpppaa.Num
theorem same_l0 (x : List Int) (hl : x.length ≤ 9223372036854775807) : ∀ (d i : Nat), d = x.length - i → i ≤ x.length → Ev (fun k => postmarkref02_Same.l0 k x x (i : Int)) true
  | 0, i, hd, hi => by
    refine Ev.step (f := fun _ => some true) (fun k => ?_) (Ev.now _)
    simp only [postmarkref02_Same.l0]
    rw [if_neg (by omega)]
  | d + 1, i, hd, hi => by
    refine Ev.step (f := fun k => postmarkref02_Same.l0 k x x ((i + 1 : Nat) : Int)) (fun k => ?_) (same_l0 x hl d (i + 1) (by omega) (by omega))
    have h1 : (i : Int) < (x.length : Int) := by omega
    have h2 : (0 : Int) ≤ (i : Int) := by omega
    have e : wrap64 ((i : Int) + 1) = ((i + 1 : Nat) : Int) := (w64 (by omega) (by omega)).trans (by omega)
    simp only [postmarkref02_Same.l0]
    simp only [if_pos h1, if_pos h2, e, if_true]
theorem same_ev (x : List Int) (hl : x.length ≤ 9223372036854775807) : Ev (fun k => postmarkref02_Same.f k x x) true := by
  refine Ev.congr (f := fun k => postmarkref02_Same.l0 k x x ((0 : Nat) : Int)) (fun k => ?_) (same_l0 x hl x.length 0 (by omega) (by omega))
  unfold postmarkref02_Same.f
  rw [if_pos rfl]
  rfl
end Go.Proofs.Ytlifengbicpppaa.G
end
section
namespace Go.Proofs.Ytlifengbicpppaa.G
open Go.RowKit Go.Proofs.YtlifengbicpppaaW.PrintWords Go.Proofs.YtlifengbicpppaaW.PrintLast Go.Proofs.YtlifengbicpppaaW.PrintMore
open Go.Proofs.Ytlifengbicpppaa.Num
/-- Rows that are written over, each of the call's own, no two the same. -/
structure KV (b0 : Nat) (vs : List Value) (W : World) : Prop where
  row : ∀ (i : Nat) (v : Value), vs[i]? = some v → ∃ xs, Kd.R (Kd.int .u32) 75 W b0 (fun _ => True) v xs
  ne : ∀ (i j : Nat) (u v : Value), vs[i]? = some u → vs[j]? = some v → i ≠ j → ∀ k, u.ownBlock = some k → v.ownBlock ≠ some k
/-- Only these rows have changed. -/
structure KO (b0 : Nat) (vs : List Value) (V W : World) : Prop where
  size : W.heap.size = V.heap.size
  below : Below b0 V W
  block : ∀ k, (∀ (i : Nat) (v : Value), vs[i]? = some v → v.ownBlock ≠ some k) → W.heap[k]? = V.heap[k]?
theorem KO.refl (b0 : Nat) (vs : List Value) (V : World) : KO b0 vs V V := ⟨rfl, Below.refl _ _, fun _ _ => rfl⟩
theorem KO.drewN {b0 : Nat} {vs : List Value} {V W : World} (h : KO b0 vs V W) (n : Nat) : KO b0 vs V (W.drewN n) := ⟨h.size, pw_below_drewN h.below n, h.block⟩
theorem KV.drewN {b0 : Nat} {vs : List Value} {W : World} (h : KV b0 vs W) (n : Nat) : KV b0 vs (W.drewN n) := ⟨fun i v hv => by obtain ⟨xs, hx⟩ := h.row i v hv; exact ⟨xs, Kd.R_drewN hx n⟩, h.ne⟩
theorem KO.set {b0 g i n c : Nat} {vs : List Value} {V W : World} (h : KO b0 vs V W) (hv : vs[i]? = some (.slice (some ⟨g, 0, none⟩) n c)) (hg : b0 ≤ g) (o : Nat) (u : Value) : KO b0 vs V (W.setCell ⟨g, o, none⟩ u) :=
  ⟨by rw [World.size_setCell]; exact h.size, h.below.setCell (p := ⟨g, o, none⟩) hg u, fun k hk => (Below.heap_setCell W ⟨g, o, none⟩ u k (fun e => by
    subst e
    exact hk i _ hv rfl)).trans (h.block k hk)⟩
theorem KV.set {b0 g i n c : Nat} {vs : List Value} {W : World} {xs : List Int} (h : KV b0 vs W) (hv : vs[i]? = some (.slice (some ⟨g, 0, none⟩) n c)) (hR : Kd.R (Kd.int .u32) 75 W b0 (fun _ => True) (.slice (some ⟨g, 0, none⟩) n c) xs) (o : Nat) (u : Int) :
    KV b0 vs (W.setCell ⟨g, o, none⟩ (.int .u32 u)) := by
  refine ⟨fun j v hj => ?_, h.ne⟩
  by_cases hij : i = j
  · subst hij
    rw [hv] at hj
    cases hj
    have hn := (Kd.R_reads' hR).1
    subst hn
    exact ⟨_, (Kd.R_put hR (o : Int) u).1⟩
  · obtain ⟨ys, hy⟩ := h.row j v hj
    have hne := h.ne i j _ v hv hj hij g rfl
    refine ⟨ys, Kd.R_mono (Kd.R_far (p := ⟨g, o, none⟩) (Kd.R_flat (ok' := fun k => k ≠ g) (fun h => h) hy (fun k hk _ e => hne (by rw [hk, e]))) (fun k hk => hk) _) (fun _ _ => trivial)⟩
set_option maxHeartbeats 4000000 in
set_option maxRecDepth 100000 in
theorem kept6_any (g n c0 : Nat) (x : List Int) (A1 : Option Addr) (c1 : Nat) (A2 : Option Addr) (c2 : Nat) (vs : List Value) (b0 : Nat) (w : World)
    (hx : x.length = n) (hxl : n < 1000000) (hc0 : n + 1 ≤ c0) (hc1 : n ≤ c1) (hp : Kd.C (Kd.int .u32) w (some ⟨g, 0, none⟩) (n + 1) (x ++ [7])) (hq : Kd.C (Kd.int .u32) w A1 n x)
    (hv : KV b0 vs w) (hvl : vs.length < 1000000)
    (hcell : ∀ (i : Nat) (v : Value), vs[i]? = some v → ∃ B o, A2 = some ⟨B, o, none⟩ ∧ w.cell? ⟨B, o + i, none⟩ = some v ∧ ∀ (j : Nat) (u : Value), vs[j]? = some u → u.ownBlock ≠ some B)
    (hgv : ∀ (j : Nat) (u : Value), vs[j]? = some u → u.ownBlock ≠ some g) (hAv : ∀ ad, A1 = some ad → 0 < n → ∀ (j : Nat) (u : Value), vs[j]? = some u → u.ownBlock ≠ some ad.block) :
    Calls Try.prog 35 #[.slice (some ⟨g, 0, none⟩) n c0, .slice A1 n c1, .slice A2 vs.length c2] w fun e w' => e = .returned (.bool true) ∧ Below b0 w w' ∧ w.heap.size ≤ w'.heap.size := by
  have H := Aside0.mk (And.intro hp (And.intro hq (And.intro hv (And.intro hcell (And.intro hgv hAv)))))
  have HX := Aside0.mk hx
  clear hp hq hv hcell hgv hAv hx
  go_enter Try.func35, Try.ntmps35
  go_wp2
  go_loopw [11] (fun a wr => ∃ i : Nat, a = .int .i64 i ∧ i ≤ vs.length ∧ Aside0 (KV b0 vs wr) ∧ Aside0 (KO b0 vs w wr)) (fun a _ => vs.length - (intOf a).toNat)
  case atStart => exact ⟨0, rfl, Nat.zero_le _, ⟨H.out.2.2.1⟩, ⟨KO.refl _ _ _⟩⟩
  case round =>
    obtain ⟨i, rfl, hi, HV, HO⟩ := hrel
    by_cases hlt : i < vs.length
    · obtain ⟨v, hv⟩ : ∃ v, vs[i]? = some v := ⟨_, List.getElem?_eq_getElem hlt⟩
      obtain ⟨B, o, rfl, hc, hB⟩ := H.out.2.2.2.1 i v hv
      generalize wr = W1 at *
      clear wr
      have f0 : W1.cell? ⟨B, o + i, none⟩ = some v := by
        have := HO.out.block B hB
        simp only [World.cell?, this] at hc ⊢
        exact hc
      obtain ⟨xs, hR⟩ := HV.out.row i v hv
      obtain ⟨A, c, rfl⟩ := Kd.R_slice hR
      have hxm := (Kd.R_reads' hR).2.2.2.1
      have hlt' : (i : Int) < (vs.length : Int) := by omega
      have HVI := Aside0.mk (And.intro hv hB)
      obtain ⟨L, hL⟩ : ∃ L, L = xs.length := ⟨_, rfl⟩
      rw [← hL] at f0 HVI hxm
      have HL := Aside0.mk hL
      clear hv hc hB hR hL
      go_wp2
      go_loopw [19] (fun a wr => ∃ k : Nat, a = .int .i64 k ∧ k ≤ L ∧ Aside0 (KV b0 vs wr) ∧ Aside0 (KO b0 vs w wr)) (fun a _ => L - (intOf a).toNat)
      case atStart => exact ⟨0, rfl, Nat.zero_le _, HV, HO⟩
      case round =>
        obtain ⟨k, rfl, hk, HV, HO⟩ := hrel
        generalize wr = W2 at *
        clear wr f0
        by_cases hlk : k < L
        · have hc := (H.out.2.2.2.1 i _ HVI.out.1)
          obtain ⟨B', o', e, hc, hB⟩ := hc
          cases e
          have f0 : W2.cell? ⟨B, o + i, none⟩ = some (.slice A L c) := by
            have := HO.out.block B hB
            simp only [World.cell?, this] at hc ⊢
            exact hc
          obtain ⟨ys, hR⟩ := HV.out.row i _ HVI.out.1
          have hyl := (Kd.R_reads' hR).1
          obtain ⟨g2, c2, e, hg2, -⟩ := Kd.R_form hR (by omega)
          cases e
          have c1 := Kd.R_cell (0 : Int) (by rw [← hyl]; exact hR) (k : Int) (by omega) (by omega)
          rw [Int.toNat_natCast] at c1
          obtain ⟨f1, f2⟩ := c1
          have hkl : (k : Int) < (ys.length : Int) := by omega
          have HY := Aside0.mk (And.intro hR hg2)
          clear hR hc hB
          generalize rdOf (0 : Int) ys (k : Int) = y at *
          obtain ⟨z, hz⟩ : ∃ z, IntKind.u32.wrap (y + 1) = z := ⟨_, rfl⟩
          go_wp2
          obtain ⟨S, hS0, hSe⟩ : ∃ S : World → Prop, S W2.drew ∧ ∀ w', S w' → w'.cell? ⟨B, o + i, none⟩ = some (.slice (some ⟨g2, 0, none⟩) ys.length c) ∧ w'.cell? ⟨g2, k, none⟩ = some (.int .u32 y) := ⟨_, ⟨f0, f1⟩, fun _ h => h⟩
          refine wp_region_TN (st := 14) S (by kernel_rfl) ?_
          iterate 14
            refine wpTL_held (v := ?_) (by kernel_rfl) (fun _ _ _ h => h) hS0 (Or.inl ⟨by rfl, fun w' hw' => ?_⟩) ?_
            rotate_left 1
            · obtain ⟨s1, s2⟩ := hSe _ hw'
              go_simp
              try with_reducible rfl
            simp only [Act.put, List.setIfInBounds_toArray, List.set_cons_zero, List.set_cons_succ, Nat.reduceAdd]
          refine wpTL_run (by kernel_rfl) (fun K hK => ?_)
          go_simp
          refine hK _ _ (stored (by kernel_rfl)) ?_
          clear hK K
          simp only [Act.put, List.setIfInBounds_toArray, List.set_cons_zero, List.set_cons_succ, Nat.reduceAdd]
          refine wpTL_end (by kernel_rfl) ?_
          refine onlyN ?_
          go_wp2
          exact ⟨⟨k + 1, rfl, by omega, ⟨(HV.out.set HVI.out.1 HY.out.1 k z).drewN 1⟩, ⟨(HO.out.set HVI.out.1 HY.out.2 k _).drewN 1⟩⟩, by simp [intOf]; omega⟩
        · go_wp2
          exact ⟨⟨i + 1, rfl, by omega, HV, HO⟩, by simp [intOf]; omega⟩
    · generalize wr = W1 at *
      clear wr
      have hgb := HO.out.block g H.out.2.2.2.2.1
      have hp : Kd.C (Kd.int .u32) W1 (some ⟨g, 0, none⟩) (n + 1) (x ++ [7]) := C_same H.out.1 (fun ad hA hn j => by cases hA; rw [add_plain]; simp only [World.cell?, hgb])
      have hq : Kd.C (Kd.int .u32) W1 A1 n x := C_same H.out.2.1 (fun ad hA hn j => by
        have := HO.out.block ad.block (H.out.2.2.2.2.2 ad hA hn)
        have hb : (ad.add j).block = ad.block := by unfold Addr.add; split <;> rfl
        simp only [World.cell?, hb, this])
      obtain ⟨ad, e, h7⟩ := Kd.at_int hp (n : Int) (by omega) (by omega)
      cases e
      rw [Int.toNat_natCast, add_plain] at h7
      have e7 : rd (x ++ [7]) (n : Int) = 7 := by have := HX.out; subst this; simp [rd, List.getD_eq_getElem?_getD]
      rw [e7] at h7
      have hp2 : Kd.C (Kd.int .u32) W1 (some ⟨g, 0, none⟩) x.length x := by
        have hp' : Kd.C (Kd.int .u32) W1 (some ⟨g, 0, none⟩) (x ++ [7]).length (x ++ [7]) := by rw [show (x ++ [(7 : Int)]).length = n + 1 by simp [HX.out]]; exact hp
        have := Kd.C_take (m := x.length) hp' (by simp)
        rwa [List.take_left] at this
      obtain ⟨ks, hks⟩ := (same_ev x (by have := HX.out; omega)).rounds
      have HS := Aside0.mk (postmarkref02_Same.calls ks (some ⟨g, 0, none⟩) c0 x A1 c1 x true W1 hp2 (by have := HX.out; omega) (by have := HX.out; rw [this]; exact hq) (by have := HX.out; omega) hks)
      rw [HX.out] at HS
      clear hp hq hp2 hgb e7 hks
      go_wp2_with fail
      refine HS.out.mono ?_
      rintro e w3 ⟨rfl, ⟨⟨nd, rfl⟩⟩⟩
      have f7 : W1.cell? ⟨g, n, none⟩ = some (.int .u32 7) := h7
      clear h7
      have hn1 : n < n + 1 := by omega
      go_wp2_with fail
      go_ret
      exact ⟨rfl, pw_below_drewN HO.out.below nd, by show w.heap.size ≤ W1.heap.size; rw [HO.out.size]; exact Nat.le_refl _⟩
/-- A row of the call's own, known whole, is read. -/
theorem C_own7 {W : World} {g n c b : Nat} {x : List Int} (h : Kd.R (Kd.int .u32) 75 W b (fun _ => True) (.slice (some ⟨g, 0, none⟩) (n + 1) c) (x ++ [7])) (hn : x.length = n) :
    Kd.C (Kd.int .u32) W (some ⟨g, 0, none⟩) (n + 1) (x ++ [7]) ∧ Kd.C (Kd.int .u32) W (some ⟨g, 0, none⟩) n x ∧ b ≤ g ∧ g < W.heap.size := by
  have h1 := (Kd.R_reads' h).2.2
  have h2 := Kd.C_take (m := x.length) h1 (by simp)
  rw [List.take_left] at h2
  have h3 := (Kd.R_bound h).1 g rfl
  subst hn
  refine ⟨?_, h2, h3.2.1, h3.2.2.1⟩
  rw [show (x ++ [(7 : Int)]).length = x.length + 1 by simp] at h1
  exact h1
set_option maxHeartbeats 1000000 in
theorem kept6_none (g n c0 : Nat) (x : List Int) (A1 : Option Addr) (c1 : Nat) (w : World) (b : Nat)
    (hx : x.length = n) (hxl : n < 1000000) (hc0 : n + 1 ≤ c0) (hc1 : n ≤ c1) (hp : Kd.R (Kd.int .u32) 75 w b (fun _ => True) (.slice (some ⟨g, 0, none⟩) (n + 1) c0) (x ++ [7])) (hq : Kd.C (Kd.int .u32) w A1 n x) (b0 : Nat) :
    Calls Try.prog 35 #[.slice (some ⟨g, 0, none⟩) n c0, .slice A1 n c1, .slice none 0 0] w fun e w' => e = .returned (.bool true) ∧ Below b0 w w' ∧ w.heap.size ≤ w'.heap.size :=
  kept6_any g n c0 x A1 c1 none 0 [] b0 w hx hxl hc0 hc1 (C_own7 hp hx).1 hq ⟨fun i v h => by simp at h, fun i j u v h => by simp at h⟩ (by simp) (fun i v h => by simp at h) (fun i v h => by simp at h) (fun ad _ _ j u h => by simp at h)
/-- Some answers are written over. -/
theorem kept6_list (g n c0 : Nat) (x : List Int) (A1 : Option Addr) (c1 : Nat) (w : World) (b b0 : Nat) (vs : List Value)
    (hx : x.length = n) (hxl : n < 1000000) (hc0 : n + 1 ≤ c0) (hc1 : n ≤ c1) (hp : Kd.R (Kd.int .u32) 75 w b (fun _ => True) (.slice (some ⟨g, 0, none⟩) (n + 1) c0) (x ++ [7])) (hq : Kd.C (Kd.int .u32) w A1 n x)
    (hv : KV b0 vs w) (hvl : vs.length < 1000000) (hg : g < b0) (hA : ∀ ad, A1 = some ad → 0 < n → ad.block < b0) :
    Calls Try.prog 35 #[.slice (some ⟨g, 0, none⟩) n c0, .slice A1 n c1, .slice (some ⟨w.heap.size, 0, none⟩) vs.length vs.length] (w.alloc (.cells vs.toArray 46)) fun e w' => e = .returned (.bool true) ∧ Below b0 (w.alloc (.cells vs.toArray 46)) w' ∧ (w.alloc (.cells vs.toArray 46)).heap.size ≤ w'.heap.size := by
  have hb : ∀ (i : Nat) (v : Value), vs[i]? = some v → ∀ k, v.ownBlock = some k → b0 ≤ k ∧ k < w.heap.size := fun i v hi k hk => by
    obtain ⟨xs, hR⟩ := hv.row i v hi
    have := (Kd.R_bound hR).1 k hk
    exact ⟨this.2.1, this.2.2.1⟩
  refine kept6_any g n c0 x A1 c1 (some ⟨w.heap.size, 0, none⟩) vs.length vs b0 _ hx hxl hc0 hc1 (C_own7 (Kd.R_alloc hp _) hx).1 (Kd.C_alloc hq _) ⟨fun i v h => ?_, hv.ne⟩ hvl (fun i v h => ?_) (fun i v h e => ?_) (fun ad e hn j u h e' => ?_)
  · obtain ⟨xs, hR⟩ := hv.row i v h
    exact ⟨xs, Kd.R_alloc hR _⟩
  · refine ⟨_, _, rfl, ?_, fun j u hj e => by have := (hb j u hj _ e).2; omega⟩
    rw [Nat.zero_add]
    unfold World.cell?
    rw [World.alloc_heap_new]
    simpa using h
  · have := (hb i v h _ e).1; omega
  · have := (hb j u h _ e').1; have := hA ad e hn; omega
end Go.Proofs.Ytlifengbicpppaa.G
end
section
namespace Go.Proofs.Ytlifengbicpppaa.G
open Go.RowKit Go.Proofs.YtlifengbicpppaaW.PrintWords Go.Proofs.YtlifengbicpppaaW.PrintLast Go.Proofs.YtlifengbicpppaaW.PrintMore
set_option maxHeartbeats 1000000 in
set_option maxRecDepth 100000 in
theorem twin6_any (A0 : Option Addr) (c0 : Nat) (l0 : List Int) (w : World) (hr0 : Kd.C (Kd.int .u32) w A0 l0.length l0) (hl : l0.length < 1000000) :
    Calls Try.prog 31 #[.slice A0 l0.length c0] w fun e w' => ∃ g c, e = .returned (.slice (some ⟨g, 0, none⟩) l0.length c) ∧ l0.length + 1 ≤ c ∧ Kd.R (Kd.int .u32) 75 w' w.heap.size (fun _ => True) (.slice (some ⟨g, 0, none⟩) (l0.length + 1) c) (l0 ++ [7]) ∧ Below w.heap.size w w' := by
  have HR0 := Aside0.mk hr0
  have LM := Aside0.mk hl
  clear hr0
  have HB := Aside0.mk (Below.refl w.heap.size w)
  go_enter Try.func31, Try.ntmps31
  go_wp2_with (first
    | ((with_reducible refine gate_dst (N := 3) rfl ?_); refine Kd.R_lit (Kd.int .u32) _ 75 ?hg (N := 3) ?hd (xs := ([] : List Int)) (inner := []) (ok := fun _ => True) (okp := fun _ => True) ?hr ?hp (fun _ hk => hk) trivial (Below.refl _ _) (Nat.le_refl _) (by simp) ?_; (case hd => rfl); (case hg => rfl); (case hr => first | (go_simp; done) | (go_simp; rfl)); (case hp => exact (Reps.none _ _)); intro v1 w1 ho7 hb hg_ hnew_; clear hg_ hnew_; have HO1 := Aside0.mk ho7; have HB1 := Aside0.mk hb; clear hb ho7)
    | ((with_reducible refine gate_builtin (b := .append) (xs := #[.tmp 3, .tmp 4]) rfl ?_); at_builtin; refine Kd.R_append_rows (Kd.int .u32) (w0 := w) w.heap.size rfl (.tmp 3) (.tmp 4) 46 75 (.int .u32 0) 4 rfl Try.underlying46 info75 rfl (by decide) (by omega) v1 [] l0 _ _ _ (fun _ => True) (fun _ => False) rfl rfl ?aO ?aR (fun _ _ h => h) (fun _ h => h.elim) ?aF ?aB ?aS ?aL ?_; (case aR => exact Kd.C_below HR0.out HB1.out); (case aB => exact HB1.out); (case aF => exact (fun _ _ => trivial)); (case aO => exact HO1.out); (case aS => exact HB1.out.size); (case aL => have := LM.out; simp; omega); intro v2 w2 ho hb hg hat; have HB2 := Aside0.mk hb; have HO2 := Aside0.mk (Kd.own_of_R ho); clear ho hb hg hat)
    | ((with_reducible refine gate_builtin (b := .append) (xs := #[.tmp 5, .tmp 6]) rfl ?_); at_builtin; refine print_append_num (w0 := w) w.heap.size rfl _ _ 46 75 .u32 4 rfl Try.underlying46 info75 (by decide) v2 ([] ++ l0) 7 rfl rfl HO2.out HB2.out HB2.out.size (by have := LM.out; simp; omega) ?_; intro v3 w3 hown hb3 hg hat; simp only [List.nil_append, List.length_append, List.length_cons, List.length_nil, Nat.zero_add] at hown; obtain ⟨g, c, rfl⟩ := ownsRow_succ hown; have hc : l0.length + 1 ≤ c := by { rcases hown.2 with h | ⟨_, _, _, e, _, _, h, _⟩ ; (cases h.1) ; (cases e; exact h) }; have HH := Aside0.mk (And.intro hown hb3); clear hown hb3 hg hat HO1 HO2))
  go_ret
  refine ⟨g, c, rfl, hc, ?_, HH.out.2⟩
  have := HH.out.1
  rw [show l0.length + 1 = (l0 ++ [7]).length by simp] at this ⊢
  exact Kd.R_of_own this (fun _ _ => trivial)
end Go.Proofs.Ytlifengbicpppaa.G
end
section
namespace Go.Proofs.Ytlifengbicpppaa.G
open Go.RowKit Go.Proofs.YtlifengbicpppaaW.PrintWords Go.Proofs.YtlifengbicpppaaW.PrintLast Go.Proofs.YtlifengbicpppaaW.PrintMore
open Go.Proofs.Ytlifengbicpppaa.Num
theorem great6_two (m : Int) (w : World) (A0 : Option Addr) (c0 : Nat) (l0 : List Int) (A1 : Option Addr) (c1 : Nat) (l1 : List Int) (hr0 : Kd.C (Kd.int .u32) w A0 l0.length l0) (hc0 : l0.length ≤ c0) (hr1 : Kd.C (Kd.int .u32) w A1 l1.length l1) (hc1 : l1.length ≤ c1) :
    Calls Try.prog 29 #[.int .i64 m, .slice (some ⟨w.heap.size, 0, none⟩) 2 2] (w.alloc (.cells #[.slice A0 l0.length c0, .slice A1 l1.length c1] 46)) fun e w' => e = .returned (.bool (decide (m < l0.length) || decide (m < l1.length))) ∧ ∃ n, w' = (w.alloc (.cells #[.slice A0 l0.length c0, .slice A1 l1.length c1] 46)).drewN n := by
  obtain ⟨k, hk⟩ := (great6_ev m [l0, l1] (by simp)).rounds
  simp only [List.any_cons, List.any_nil, Bool.or_false] at hk
  refine (postmarklaw06_great.calls k m _ 2 [l0, l1] _ _ (C_two w hr0 hc0 hr1 hc1) (by simp) hk).mono ?_
  rintro e w' ⟨rfl, ⟨h⟩⟩
  exact ⟨rfl, h⟩
theorem may_call (w : World) (A0 : Option Addr) (c0 : Nat) (l0 : List Int) (A1 : Option Addr) (c1 : Nat) (l1 : List Int) (hr0 : Kd.C (Kd.int .u32) w A0 l0.length l0) (hc0 : l0.length ≤ c0) (hr1 : Kd.C (Kd.int .u32) w A1 l1.length l1) (hc1 : l1.length ≤ c1) (hx : Lb l0) (hy : Lb l1) :
    Calls Try.prog 30 #[.slice A0 l0.length c0, .slice A1 l1.length c1] w fun e w' => e = .returned (.bool (fits l0 && fits l1)) ∧ Below w.heap.size w w' := by
  obtain ⟨k, hk⟩ := (may_ev l0 l1 hx.dg hy.dg hx.len hy.len).rounds
  exact postmarkref02_May.calls k A0 c0 l0 A1 c1 l1 _ w hr0 hc0 hr1 hc1 hk
end Go.Proofs.Ytlifengbicpppaa.G
end
section
namespace Go.Proofs.Ytlifengbicpppaa.G
open Go.RowKit Go.Proofs.YtlifengbicpppaaW.PrintWords Go.Proofs.YtlifengbicpppaaW.PrintLast Go.Proofs.YtlifengbicpppaaW.PrintMore
open Go.Proofs.Ytlifengbicpppaa.Num
set_option maxHeartbeats 1000000 in
/-- Two lists of limbs that are the same. -/
theorem same_call (w : World) (A0 : Option Addr) (c0 : Nat) (A1 : Option Addr) (c1 : Nat) (l : List Int) (h0 : Kd.C (Kd.int .u32) w A0 l.length l) (hc0 : l.length ≤ c0) (h1 : Kd.C (Kd.int .u32) w A1 l.length l) (hc1 : l.length ≤ c1) :
    Calls Try.prog 34 #[.slice A0 l.length c0, .slice A1 l.length c1] w fun e w' => e = .returned (.bool true) ∧ ∃ n, w' = w.drewN n := by
  obtain ⟨ks, hks⟩ := (same_ev l h0.2.1).rounds
  refine (postmarkref02_Same.calls ks A0 c0 l A1 c1 l true w h0 hc0 h1 hc1 hks).mono ?_
  rintro e w' ⟨rfl, ⟨h⟩⟩
  exact ⟨rfl, h⟩
end Go.Proofs.Ytlifengbicpppaa.G
end
section
namespace Go.Proofs.Ytlifengbicpppaa.G
open Go.RowKit Go.Proofs.YtlifengbicpppaaW.PrintWords Go.Proofs.YtlifengbicpppaaW.PrintLast Go.Proofs.YtlifengbicpppaaW.PrintMore
attribute [local go_sem] max2_int min2_int max_two min_two max_three min_three max_four min_four   -- for this text's walks alone
set_option linter.unusedVariables false
set_option linter.unusedSimpArgs false
def cmp_isNaN_int.f (a0 : Int) : Option (Bool) := some (a0 != a0)
set_option maxHeartbeats 8000000 in
set_option maxRecDepth 100000 in
theorem cmp_isNaN_int.calls (a0 : Int) (r : Bool) (w : World) (h : cmp_isNaN_int.f a0 = some r) :
    Calls Try.prog 134 #[.int .i64 a0] w fun e w' => e = .returned (.bool r) ∧ Drawn0 w w' := by
  have H : (some (a0 != a0)) = some r := h
  clear h
  obtain rfl := Option.some.inj H
  go_enter Try.func134, Try.ntmps134
  go_wp2
  go_ret
  exact ⟨by first | rfl | (simp; done) | (simp [*]; done), by repeat (first | exact Drawn0.refl _ | apply Drawn0.step)⟩
end Go.Proofs.Ytlifengbicpppaa.G
end
section
namespace Go.Proofs.Ytlifengbicpppaa.G
open Go.RowKit Go.Proofs.YtlifengbicpppaaW.PrintWords Go.Proofs.YtlifengbicpppaaW.PrintLast Go.Proofs.YtlifengbicpppaaW.PrintMore
attribute [local go_sem] max2_int min2_int max_two min_two max_three min_three max_four min_four   -- for this text's walks alone
set_option linter.unusedVariables false
set_option linter.unusedSimpArgs false
def cmp_Compare_int.f (a0 : Int) (a1 : Int) : Option (Int) := (cmp_isNaN_int.f a0).bind fun t107 => ((cmp_isNaN_int.f a1).bind fun t108 => (if t107 = true then (if t108 = true then (some 0) else (some (-1))) else (if t108 = true then (some 1) else (if a0 < a1 then (some (-1)) else (if a0 > a1 then (some 1) else (some 0))))))
set_option maxHeartbeats 8000000 in
set_option maxRecDepth 100000 in
theorem cmp_Compare_int.calls (a0 : Int) (a1 : Int) (r : Int) (w : World) (h : cmp_Compare_int.f a0 a1 = some r) :
    Calls Try.prog 111 #[.int .i64 a0, .int .i64 a1] w fun e w' => e = .returned (.int .i64 r) ∧ Drawn0 w w' := by
  have H : ((cmp_isNaN_int.f a0).bind fun t107 => ((cmp_isNaN_int.f a1).bind fun t108 => (if t107 = true then (if t108 = true then (some 0) else (some (-1))) else (if t108 = true then (some 1) else (if a0 < a1 then (some (-1)) else (if a0 > a1 then (some 1) else (some 0))))))) = some r := h
  clear h
  replace H := Option.bind_eq_some_iff.mp H
  obtain ⟨t107, A30, H⟩ := H
  replace H : ((cmp_isNaN_int.f a1).bind fun t108 => (if t107 = true then (if t108 = true then (some 0) else (some (-1))) else (if t108 = true then (some 1) else (if a0 < a1 then (some (-1)) else (if a0 > a1 then (some 1) else (some 0)))))) = some r := H
  have A3 := Aside0.mk A30
  clear A30
  replace H := Option.bind_eq_some_iff.mp H
  obtain ⟨t108, A40, H⟩ := H
  replace H : (if t107 = true then (if t108 = true then (some 0) else (some (-1))) else (if t108 = true then (some 1) else (if a0 < a1 then (some (-1)) else (if a0 > a1 then (some 1) else (some 0))))) = some r := H
  have A4 := Aside0.mk A40
  clear A40
  by_cases c5 : t107 = true
  · subst c5
    have H1 : (if t108 = true then (some 0) else (some (-1))) = some r := by rw [if_pos rfl] at H; exact H
    clear H
    have H := H1
    clear H1
    by_cases c6 : t108 = true
    · subst c6
      have H1 : (some 0) = some r := by rw [if_pos rfl] at H; exact H
      clear H
      have H := H1
      clear H1
      obtain rfl := Option.some.inj H
      go_enter Try.func111, Try.ntmps111
      go_wp2_with (first | ((with_reducible refine gate_callee (f := 134) rfl ?_); refine goesL_ (some 8) rfl rfl Try.func134 (by kernel_rfl) rfl #[.int .i64 a0] rfl (by (try simp only [List.map_toArray, List.map_cons, List.map_nil]); first | done | rfl | (simp only [List.length_drop, List.length_take]; rfl)) ?_; (with_reducible refine (cmp_isNaN_int.calls a0 true _ A3.out).mono ?_); rintro e w' ⟨rfl, ⟨nd, rfl⟩⟩; refine ⟨_, rfl, ?_⟩) | ((with_reducible refine gate_callee (f := 134) rfl ?_); refine goesL_ (some 10) rfl rfl Try.func134 (by kernel_rfl) rfl #[.int .i64 a1] rfl (by (try simp only [List.map_toArray, List.map_cons, List.map_nil]); first | done | rfl | (simp only [List.length_drop, List.length_take]; rfl)) ?_; (with_reducible refine (cmp_isNaN_int.calls a1 true _ A4.out).mono ?_); rintro e w' ⟨rfl, ⟨nd, rfl⟩⟩; refine ⟨_, rfl, ?_⟩))
      go_ret
      exact ⟨by first | rfl | (simp; done) | (simp [*]; done), by repeat (first | exact Drawn0.refl _ | apply Drawn0.step)⟩
    · replace c6 := Bool.eq_false_iff.mpr c6
      subst c6
      have H1 : (some (-1)) = some r := by rw [if_neg (show ¬ (false = true) by decide)] at H; exact H
      clear H
      have H := H1
      clear H1
      obtain rfl := Option.some.inj H
      go_enter Try.func111, Try.ntmps111
      go_wp2_with (first | ((with_reducible refine gate_callee (f := 134) rfl ?_); refine goesL_ (some 8) rfl rfl Try.func134 (by kernel_rfl) rfl #[.int .i64 a0] rfl (by (try simp only [List.map_toArray, List.map_cons, List.map_nil]); first | done | rfl | (simp only [List.length_drop, List.length_take]; rfl)) ?_; (with_reducible refine (cmp_isNaN_int.calls a0 true _ A3.out).mono ?_); rintro e w' ⟨rfl, ⟨nd, rfl⟩⟩; refine ⟨_, rfl, ?_⟩) | ((with_reducible refine gate_callee (f := 134) rfl ?_); refine goesL_ (some 10) rfl rfl Try.func134 (by kernel_rfl) rfl #[.int .i64 a1] rfl (by (try simp only [List.map_toArray, List.map_cons, List.map_nil]); first | done | rfl | (simp only [List.length_drop, List.length_take]; rfl)) ?_; (with_reducible refine (cmp_isNaN_int.calls a1 false _ A4.out).mono ?_); rintro e w' ⟨rfl, ⟨nd, rfl⟩⟩; refine ⟨_, rfl, ?_⟩))
      go_ret
      exact ⟨by first | rfl | (simp; done) | (simp [*]; done), by repeat (first | exact Drawn0.refl _ | apply Drawn0.step)⟩
  · replace c5 := Bool.eq_false_iff.mpr c5
    subst c5
    have H1 : (if t108 = true then (some 1) else (if a0 < a1 then (some (-1)) else (if a0 > a1 then (some 1) else (some 0)))) = some r := by rw [if_neg (show ¬ (false = true) by decide)] at H; exact H
    clear H
    have H := H1
    clear H1
    by_cases c7 : t108 = true
    · subst c7
      have H1 : (some 1) = some r := by rw [if_pos rfl] at H; exact H
      clear H
      have H := H1
      clear H1
      obtain rfl := Option.some.inj H
      go_enter Try.func111, Try.ntmps111
      go_wp2_with (first | ((with_reducible refine gate_callee (f := 134) rfl ?_); refine goesL_ (some 8) rfl rfl Try.func134 (by kernel_rfl) rfl #[.int .i64 a0] rfl (by (try simp only [List.map_toArray, List.map_cons, List.map_nil]); first | done | rfl | (simp only [List.length_drop, List.length_take]; rfl)) ?_; (with_reducible refine (cmp_isNaN_int.calls a0 false _ A3.out).mono ?_); rintro e w' ⟨rfl, ⟨nd, rfl⟩⟩; refine ⟨_, rfl, ?_⟩) | ((with_reducible refine gate_callee (f := 134) rfl ?_); refine goesL_ (some 10) rfl rfl Try.func134 (by kernel_rfl) rfl #[.int .i64 a1] rfl (by (try simp only [List.map_toArray, List.map_cons, List.map_nil]); first | done | rfl | (simp only [List.length_drop, List.length_take]; rfl)) ?_; (with_reducible refine (cmp_isNaN_int.calls a1 true _ A4.out).mono ?_); rintro e w' ⟨rfl, ⟨nd, rfl⟩⟩; refine ⟨_, rfl, ?_⟩))
      go_ret
      exact ⟨by first | rfl | (simp; done) | (simp [*]; done), by repeat (first | exact Drawn0.refl _ | apply Drawn0.step)⟩
    · replace c7 := Bool.eq_false_iff.mpr c7
      subst c7
      have H1 : (if a0 < a1 then (some (-1)) else (if a0 > a1 then (some 1) else (some 0))) = some r := by rw [if_neg (show ¬ (false = true) by decide)] at H; exact H
      clear H
      have H := H1
      clear H1
      by_cases c8 : a0 < a1
      · rw [if_pos c8] at H
        have c8b0 : decide (a0 < a1) = true := decide_eq_true c8
        clear c8
        obtain rfl := Option.some.inj H
        go_enter Try.func111, Try.ntmps111
        go_wp2_with (first | ((with_reducible refine gate_callee (f := 134) rfl ?_); refine goesL_ (some 8) rfl rfl Try.func134 (by kernel_rfl) rfl #[.int .i64 a0] rfl (by (try simp only [List.map_toArray, List.map_cons, List.map_nil]); first | done | rfl | (simp only [List.length_drop, List.length_take]; rfl)) ?_; (with_reducible refine (cmp_isNaN_int.calls a0 false _ A3.out).mono ?_); rintro e w' ⟨rfl, ⟨nd, rfl⟩⟩; refine ⟨_, rfl, ?_⟩) | ((with_reducible refine gate_callee (f := 134) rfl ?_); refine goesL_ (some 10) rfl rfl Try.func134 (by kernel_rfl) rfl #[.int .i64 a1] rfl (by (try simp only [List.map_toArray, List.map_cons, List.map_nil]); first | done | rfl | (simp only [List.length_drop, List.length_take]; rfl)) ?_; (with_reducible refine (cmp_isNaN_int.calls a1 false _ A4.out).mono ?_); rintro e w' ⟨rfl, ⟨nd, rfl⟩⟩; refine ⟨_, rfl, ?_⟩))
        go_ret
        exact ⟨by first | rfl | (simp; done) | (simp [*]; done), by repeat (first | exact Drawn0.refl _ | apply Drawn0.step)⟩
      · rw [if_neg c8] at H
        have c8b0 : decide (a0 < a1) = false := decide_eq_false c8
        clear c8
        by_cases c9 : a0 > a1
        · rw [if_pos c9] at H
          have c9b0 : decide (a1 < a0) = true := decide_eq_true c9
          clear c9
          obtain rfl := Option.some.inj H
          go_enter Try.func111, Try.ntmps111
          go_wp2_with (first | ((with_reducible refine gate_callee (f := 134) rfl ?_); refine goesL_ (some 8) rfl rfl Try.func134 (by kernel_rfl) rfl #[.int .i64 a0] rfl (by (try simp only [List.map_toArray, List.map_cons, List.map_nil]); first | done | rfl | (simp only [List.length_drop, List.length_take]; rfl)) ?_; (with_reducible refine (cmp_isNaN_int.calls a0 false _ A3.out).mono ?_); rintro e w' ⟨rfl, ⟨nd, rfl⟩⟩; refine ⟨_, rfl, ?_⟩) | ((with_reducible refine gate_callee (f := 134) rfl ?_); refine goesL_ (some 10) rfl rfl Try.func134 (by kernel_rfl) rfl #[.int .i64 a1] rfl (by (try simp only [List.map_toArray, List.map_cons, List.map_nil]); first | done | rfl | (simp only [List.length_drop, List.length_take]; rfl)) ?_; (with_reducible refine (cmp_isNaN_int.calls a1 false _ A4.out).mono ?_); rintro e w' ⟨rfl, ⟨nd, rfl⟩⟩; refine ⟨_, rfl, ?_⟩))
          go_ret
          exact ⟨by first | rfl | (simp; done) | (simp [*]; done), by repeat (first | exact Drawn0.refl _ | apply Drawn0.step)⟩
        · rw [if_neg c9] at H
          have c9b0 : decide (a1 < a0) = false := decide_eq_false c9
          clear c9
          obtain rfl := Option.some.inj H
          go_enter Try.func111, Try.ntmps111
          go_wp2_with (first | ((with_reducible refine gate_callee (f := 134) rfl ?_); refine goesL_ (some 8) rfl rfl Try.func134 (by kernel_rfl) rfl #[.int .i64 a0] rfl (by (try simp only [List.map_toArray, List.map_cons, List.map_nil]); first | done | rfl | (simp only [List.length_drop, List.length_take]; rfl)) ?_; (with_reducible refine (cmp_isNaN_int.calls a0 false _ A3.out).mono ?_); rintro e w' ⟨rfl, ⟨nd, rfl⟩⟩; refine ⟨_, rfl, ?_⟩) | ((with_reducible refine gate_callee (f := 134) rfl ?_); refine goesL_ (some 10) rfl rfl Try.func134 (by kernel_rfl) rfl #[.int .i64 a1] rfl (by (try simp only [List.map_toArray, List.map_cons, List.map_nil]); first | done | rfl | (simp only [List.length_drop, List.length_take]; rfl)) ?_; (with_reducible refine (cmp_isNaN_int.calls a1 false _ A4.out).mono ?_); rintro e w' ⟨rfl, ⟨nd, rfl⟩⟩; refine ⟨_, rfl, ?_⟩))
          go_ret
          exact ⟨by first | rfl | (simp; done) | (simp [*]; done), by repeat (first | exact Drawn0.refl _ | apply Drawn0.step)⟩
end Go.Proofs.Ytlifengbicpppaa.G
end
section
namespace Go.Proofs.Ytlifengbicpppaa.G
open Go.RowKit Go.Proofs.YtlifengbicpppaaW.PrintWords Go.Proofs.YtlifengbicpppaaW.PrintLast Go.Proofs.YtlifengbicpppaaW.PrintMore
attribute [local go_sem] max2_int min2_int max_two min_two max_three min_three max_four min_four   -- for this text's walks alone
set_option linter.unusedVariables false
set_option linter.unusedSimpArgs false
def cmp_isNaN_uint32.f (a0 : Int) : Option (Bool) := some (a0 != a0)
set_option maxHeartbeats 8000000 in
set_option maxRecDepth 100000 in
theorem cmp_isNaN_uint32.calls (a0 : Int) (r : Bool) (w : World) (h : cmp_isNaN_uint32.f a0 = some r) :
    Calls Try.prog 136 #[.int .u32 a0] w fun e w' => e = .returned (.bool r) ∧ Drawn0 w w' := by
  have H : (some (a0 != a0)) = some r := h
  clear h
  obtain rfl := Option.some.inj H
  go_enter Try.func136, Try.ntmps136
  go_wp2
  go_ret
  exact ⟨by first | rfl | (simp; done) | (simp [*]; done), by repeat (first | exact Drawn0.refl _ | apply Drawn0.step)⟩
end Go.Proofs.Ytlifengbicpppaa.G
end
section
namespace Go.Proofs.Ytlifengbicpppaa.G
open Go.RowKit Go.Proofs.YtlifengbicpppaaW.PrintWords Go.Proofs.YtlifengbicpppaaW.PrintLast Go.Proofs.YtlifengbicpppaaW.PrintMore
attribute [local go_sem] max2_int min2_int max_two min_two max_three min_three max_four min_four   -- for this text's walks alone
set_option linter.unusedVariables false
set_option linter.unusedSimpArgs false
def cmp_Compare_uint32.f (a0 : Int) (a1 : Int) : Option (Int) := (cmp_isNaN_uint32.f a0).bind fun t109 => ((cmp_isNaN_uint32.f a1).bind fun t110 => (if t109 = true then (if t110 = true then (some 0) else (some (-1))) else (if t110 = true then (some 1) else (if a0 < a1 then (some (-1)) else (if a0 > a1 then (some 1) else (some 0))))))
set_option maxHeartbeats 8000000 in
set_option maxRecDepth 100000 in
theorem cmp_Compare_uint32.calls (a0 : Int) (a1 : Int) (r : Int) (w : World) (h : cmp_Compare_uint32.f a0 a1 = some r) :
    Calls Try.prog 113 #[.int .u32 a0, .int .u32 a1] w fun e w' => e = .returned (.int .i64 r) ∧ Drawn0 w w' := by
  have H : ((cmp_isNaN_uint32.f a0).bind fun t109 => ((cmp_isNaN_uint32.f a1).bind fun t110 => (if t109 = true then (if t110 = true then (some 0) else (some (-1))) else (if t110 = true then (some 1) else (if a0 < a1 then (some (-1)) else (if a0 > a1 then (some 1) else (some 0))))))) = some r := h
  clear h
  replace H := Option.bind_eq_some_iff.mp H
  obtain ⟨t109, A30, H⟩ := H
  replace H : ((cmp_isNaN_uint32.f a1).bind fun t110 => (if t109 = true then (if t110 = true then (some 0) else (some (-1))) else (if t110 = true then (some 1) else (if a0 < a1 then (some (-1)) else (if a0 > a1 then (some 1) else (some 0)))))) = some r := H
  have A3 := Aside0.mk A30
  clear A30
  replace H := Option.bind_eq_some_iff.mp H
  obtain ⟨t110, A40, H⟩ := H
  replace H : (if t109 = true then (if t110 = true then (some 0) else (some (-1))) else (if t110 = true then (some 1) else (if a0 < a1 then (some (-1)) else (if a0 > a1 then (some 1) else (some 0))))) = some r := H
  have A4 := Aside0.mk A40
  clear A40
  by_cases c5 : t109 = true
  · subst c5
    have H1 : (if t110 = true then (some 0) else (some (-1))) = some r := by rw [if_pos rfl] at H; exact H
    clear H
    have H := H1
    clear H1
    by_cases c6 : t110 = true
    · subst c6
      have H1 : (some 0) = some r := by rw [if_pos rfl] at H; exact H
      clear H
      have H := H1
      clear H1
      obtain rfl := Option.some.inj H
      go_enter Try.func113, Try.ntmps113
      go_wp2_with (first | ((with_reducible refine gate_callee (f := 136) rfl ?_); refine goesL_ (some 8) rfl rfl Try.func136 (by kernel_rfl) rfl #[.int .u32 a0] rfl (by (try simp only [List.map_toArray, List.map_cons, List.map_nil]); first | done | rfl | (simp only [List.length_drop, List.length_take]; rfl)) ?_; (with_reducible refine (cmp_isNaN_uint32.calls a0 true _ A3.out).mono ?_); rintro e w' ⟨rfl, ⟨nd, rfl⟩⟩; refine ⟨_, rfl, ?_⟩) | ((with_reducible refine gate_callee (f := 136) rfl ?_); refine goesL_ (some 10) rfl rfl Try.func136 (by kernel_rfl) rfl #[.int .u32 a1] rfl (by (try simp only [List.map_toArray, List.map_cons, List.map_nil]); first | done | rfl | (simp only [List.length_drop, List.length_take]; rfl)) ?_; (with_reducible refine (cmp_isNaN_uint32.calls a1 true _ A4.out).mono ?_); rintro e w' ⟨rfl, ⟨nd, rfl⟩⟩; refine ⟨_, rfl, ?_⟩))
      go_ret
      exact ⟨by first | rfl | (simp; done) | (simp [*]; done), by repeat (first | exact Drawn0.refl _ | apply Drawn0.step)⟩
    · replace c6 := Bool.eq_false_iff.mpr c6
      subst c6
      have H1 : (some (-1)) = some r := by rw [if_neg (show ¬ (false = true) by decide)] at H; exact H
      clear H
      have H := H1
      clear H1
      obtain rfl := Option.some.inj H
      go_enter Try.func113, Try.ntmps113
      go_wp2_with (first | ((with_reducible refine gate_callee (f := 136) rfl ?_); refine goesL_ (some 8) rfl rfl Try.func136 (by kernel_rfl) rfl #[.int .u32 a0] rfl (by (try simp only [List.map_toArray, List.map_cons, List.map_nil]); first | done | rfl | (simp only [List.length_drop, List.length_take]; rfl)) ?_; (with_reducible refine (cmp_isNaN_uint32.calls a0 true _ A3.out).mono ?_); rintro e w' ⟨rfl, ⟨nd, rfl⟩⟩; refine ⟨_, rfl, ?_⟩) | ((with_reducible refine gate_callee (f := 136) rfl ?_); refine goesL_ (some 10) rfl rfl Try.func136 (by kernel_rfl) rfl #[.int .u32 a1] rfl (by (try simp only [List.map_toArray, List.map_cons, List.map_nil]); first | done | rfl | (simp only [List.length_drop, List.length_take]; rfl)) ?_; (with_reducible refine (cmp_isNaN_uint32.calls a1 false _ A4.out).mono ?_); rintro e w' ⟨rfl, ⟨nd, rfl⟩⟩; refine ⟨_, rfl, ?_⟩))
      go_ret
      exact ⟨by first | rfl | (simp; done) | (simp [*]; done), by repeat (first | exact Drawn0.refl _ | apply Drawn0.step)⟩
  · replace c5 := Bool.eq_false_iff.mpr c5
    subst c5
    have H1 : (if t110 = true then (some 1) else (if a0 < a1 then (some (-1)) else (if a0 > a1 then (some 1) else (some 0)))) = some r := by rw [if_neg (show ¬ (false = true) by decide)] at H; exact H
    clear H
    have H := H1
    clear H1
    by_cases c7 : t110 = true
    · subst c7
      have H1 : (some 1) = some r := by rw [if_pos rfl] at H; exact H
      clear H
      have H := H1
      clear H1
      obtain rfl := Option.some.inj H
      go_enter Try.func113, Try.ntmps113
      go_wp2_with (first | ((with_reducible refine gate_callee (f := 136) rfl ?_); refine goesL_ (some 8) rfl rfl Try.func136 (by kernel_rfl) rfl #[.int .u32 a0] rfl (by (try simp only [List.map_toArray, List.map_cons, List.map_nil]); first | done | rfl | (simp only [List.length_drop, List.length_take]; rfl)) ?_; (with_reducible refine (cmp_isNaN_uint32.calls a0 false _ A3.out).mono ?_); rintro e w' ⟨rfl, ⟨nd, rfl⟩⟩; refine ⟨_, rfl, ?_⟩) | ((with_reducible refine gate_callee (f := 136) rfl ?_); refine goesL_ (some 10) rfl rfl Try.func136 (by kernel_rfl) rfl #[.int .u32 a1] rfl (by (try simp only [List.map_toArray, List.map_cons, List.map_nil]); first | done | rfl | (simp only [List.length_drop, List.length_take]; rfl)) ?_; (with_reducible refine (cmp_isNaN_uint32.calls a1 true _ A4.out).mono ?_); rintro e w' ⟨rfl, ⟨nd, rfl⟩⟩; refine ⟨_, rfl, ?_⟩))
      go_ret
      exact ⟨by first | rfl | (simp; done) | (simp [*]; done), by repeat (first | exact Drawn0.refl _ | apply Drawn0.step)⟩
    · replace c7 := Bool.eq_false_iff.mpr c7
      subst c7
      have H1 : (if a0 < a1 then (some (-1)) else (if a0 > a1 then (some 1) else (some 0))) = some r := by rw [if_neg (show ¬ (false = true) by decide)] at H; exact H
      clear H
      have H := H1
      clear H1
      by_cases c8 : a0 < a1
      · rw [if_pos c8] at H
        have c8b0 : decide (a0 < a1) = true := decide_eq_true c8
        clear c8
        obtain rfl := Option.some.inj H
        go_enter Try.func113, Try.ntmps113
        go_wp2_with (first | ((with_reducible refine gate_callee (f := 136) rfl ?_); refine goesL_ (some 8) rfl rfl Try.func136 (by kernel_rfl) rfl #[.int .u32 a0] rfl (by (try simp only [List.map_toArray, List.map_cons, List.map_nil]); first | done | rfl | (simp only [List.length_drop, List.length_take]; rfl)) ?_; (with_reducible refine (cmp_isNaN_uint32.calls a0 false _ A3.out).mono ?_); rintro e w' ⟨rfl, ⟨nd, rfl⟩⟩; refine ⟨_, rfl, ?_⟩) | ((with_reducible refine gate_callee (f := 136) rfl ?_); refine goesL_ (some 10) rfl rfl Try.func136 (by kernel_rfl) rfl #[.int .u32 a1] rfl (by (try simp only [List.map_toArray, List.map_cons, List.map_nil]); first | done | rfl | (simp only [List.length_drop, List.length_take]; rfl)) ?_; (with_reducible refine (cmp_isNaN_uint32.calls a1 false _ A4.out).mono ?_); rintro e w' ⟨rfl, ⟨nd, rfl⟩⟩; refine ⟨_, rfl, ?_⟩))
        go_ret
        exact ⟨by first | rfl | (simp; done) | (simp [*]; done), by repeat (first | exact Drawn0.refl _ | apply Drawn0.step)⟩
      · rw [if_neg c8] at H
        have c8b0 : decide (a0 < a1) = false := decide_eq_false c8
        clear c8
        by_cases c9 : a0 > a1
        · rw [if_pos c9] at H
          have c9b0 : decide (a1 < a0) = true := decide_eq_true c9
          clear c9
          obtain rfl := Option.some.inj H
          go_enter Try.func113, Try.ntmps113
          go_wp2_with (first | ((with_reducible refine gate_callee (f := 136) rfl ?_); refine goesL_ (some 8) rfl rfl Try.func136 (by kernel_rfl) rfl #[.int .u32 a0] rfl (by (try simp only [List.map_toArray, List.map_cons, List.map_nil]); first | done | rfl | (simp only [List.length_drop, List.length_take]; rfl)) ?_; (with_reducible refine (cmp_isNaN_uint32.calls a0 false _ A3.out).mono ?_); rintro e w' ⟨rfl, ⟨nd, rfl⟩⟩; refine ⟨_, rfl, ?_⟩) | ((with_reducible refine gate_callee (f := 136) rfl ?_); refine goesL_ (some 10) rfl rfl Try.func136 (by kernel_rfl) rfl #[.int .u32 a1] rfl (by (try simp only [List.map_toArray, List.map_cons, List.map_nil]); first | done | rfl | (simp only [List.length_drop, List.length_take]; rfl)) ?_; (with_reducible refine (cmp_isNaN_uint32.calls a1 false _ A4.out).mono ?_); rintro e w' ⟨rfl, ⟨nd, rfl⟩⟩; refine ⟨_, rfl, ?_⟩))
          go_ret
          exact ⟨by first | rfl | (simp; done) | (simp [*]; done), by repeat (first | exact Drawn0.refl _ | apply Drawn0.step)⟩
        · rw [if_neg c9] at H
          have c9b0 : decide (a1 < a0) = false := decide_eq_false c9
          clear c9
          obtain rfl := Option.some.inj H
          go_enter Try.func113, Try.ntmps113
          go_wp2_with (first | ((with_reducible refine gate_callee (f := 136) rfl ?_); refine goesL_ (some 8) rfl rfl Try.func136 (by kernel_rfl) rfl #[.int .u32 a0] rfl (by (try simp only [List.map_toArray, List.map_cons, List.map_nil]); first | done | rfl | (simp only [List.length_drop, List.length_take]; rfl)) ?_; (with_reducible refine (cmp_isNaN_uint32.calls a0 false _ A3.out).mono ?_); rintro e w' ⟨rfl, ⟨nd, rfl⟩⟩; refine ⟨_, rfl, ?_⟩) | ((with_reducible refine gate_callee (f := 136) rfl ?_); refine goesL_ (some 10) rfl rfl Try.func136 (by kernel_rfl) rfl #[.int .u32 a1] rfl (by (try simp only [List.map_toArray, List.map_cons, List.map_nil]); first | done | rfl | (simp only [List.length_drop, List.length_take]; rfl)) ?_; (with_reducible refine (cmp_isNaN_uint32.calls a1 false _ A4.out).mono ?_); rintro e w' ⟨rfl, ⟨nd, rfl⟩⟩; refine ⟨_, rfl, ?_⟩))
          go_ret
          exact ⟨by first | rfl | (simp; done) | (simp [*]; done), by repeat (first | exact Drawn0.refl _ | apply Drawn0.step)⟩
end Go.Proofs.Ytlifengbicpppaa.G
end
