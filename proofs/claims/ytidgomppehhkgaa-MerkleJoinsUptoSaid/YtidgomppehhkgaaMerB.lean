/- The law MerkleJoins (walk). -/
import Derived.Test.YtidgomppehhkgaaMerA
set_option linter.unusedVariables false
set_option linter.unusedSimpArgs false
namespace Go.Proofs.Ytidgomppehhkgaa
open Go.RowKit
attribute [local go_sem high] dg_cells guard_dg rs_l rs_lh rs_lhm rs_h rs_hm rs_all

theorem SlD.gr {w w' : World} {g n c : Nat} {ds : List (List UInt8)} {row : Option Nat} (h : SlD w (.slice (some ⟨g, 0, none⟩) n c) ds) (hg : w.grownBy w' row) (hne : some g ≠ row) : SlD w' (.slice (some ⟨g, 0, none⟩) n c) ds := by
  obtain ⟨⟨A', c', e, h1, h2, h3, h4⟩, h32⟩ := h
  injection e with e1 e2 e3
  subst e1; subst e2; subst e3
  exact ⟨⟨_, _, rfl, h1, h2, h3, h4.grown hg (fun ad e => by cases e; exact hne)⟩, h32⟩
theorem gr_setRow (w : World) (D : Nat) (cs : Array Value) : w.grownBy (w.setRow D cs) (some D) := by
  refine ⟨rfl, rfl, rfl, ?_, fun k _ hne => heap_setRow_other w D k cs (fun e => hne (by rw [e]))⟩
  show _ ≤ (w.heap.modify D _).size
  rw [Array.size_modify]; exact Nat.le_refl _
/-- What the peaks so far make, with what is left behind them. -/
def JInv (ds : List (List UInt8)) (a : Nat) (ps : List (List UInt8)) : Prop := (a < ds.length → List.foldr nodeL (rootL (ds.drop a)) ps = rootL ds) ∧ (a = ds.length → 0 < ps.length ∧ joined ps = rootL ds)
theorem JInv.next {ds : List (List UInt8)} {a j : Nat} {ps : List (List UInt8)} (h : JInv ds a ps) (hn : ds.length < 2 ^ 63) (h1 : 2 ^ j ≤ ds.length - a) (ha : a < ds.length) (h2 : ds.length - a < 2 * 2 ^ j) :
    JInv ds (a + 2 ^ j) (ps ++ [rootL ((ds.drop a).take (2 ^ j))]) := by
  have h3 := h.1 ha
  refine ⟨fun hlt => ?_, fun he => ?_⟩
  · rw [List.foldr_append, ← h3]
    congr 1
    show nodeL (rootL ((ds.drop a).take (2 ^ j))) (rootL (ds.drop (a + 2 ^ j))) = _
    rw [root_peak (l := ds.drop a) (j := j) (by rw [List.length_drop]; omega) (by rw [List.length_drop]; omega) (by rw [List.length_drop]; omega), List.drop_drop]
  · refine ⟨by simp, ?_⟩
    rw [joined_snoc, ← h3, List.take_of_length_le (by rw [List.length_drop]; omega)]
/-- The head of the peaks from m on. -/
def jFrom (ps : List (List UInt8)) (m : Nat) : List UInt8 := List.foldr nodeL (ps.getLastD []) (ps.dropLast.drop m)
theorem jFrom_last (ps : List (List UInt8)) (h : 0 < ps.length) : jFrom ps (ps.length - 1) = ps.getD (ps.length - 1) [] := by
  unfold jFrom
  rw [List.drop_eq_nil_of_le (by simp), List.foldr_nil]
  have hne : ps ≠ [] := by intro e; subst e; simp at h
  rw [List.getLastD_eq_getLast?, List.getLast?_eq_getElem?, List.getD_eq_getElem?_getD]
theorem jFrom_step (ps : List (List UInt8)) (m : Nat) (h : m + 1 < ps.length) : jFrom ps m = nodeL (ps.getD m []) (jFrom ps (m + 1)) := by
  unfold jFrom
  have hl : m < ps.dropLast.length := by rw [List.length_dropLast]; omega
  rw [List.drop_eq_getElem_cons hl, List.foldr_cons, List.getElem_dropLast]
  congr 1
  simp [show m < ps.length by omega]
theorem jFrom_zero (ps : List (List UInt8)) : jFrom ps 0 = joined ps := rfl
theorem jFrom_length (ps : List (List UInt8)) (h : 0 < ps.length) (h32 : All32 ps) : ∀ k, k ≤ ps.length - 1 → (jFrom ps (ps.length - 1 - k)).length = 32
  | 0, _ => by rw [Nat.sub_zero, jFrom_last ps h]; apply h32; simp [show ps.length - 1 < ps.length by omega]
  | k + 1, hk => by
    rw [jFrom_step ps (ps.length - 1 - (k + 1)) (by omega)]
    exact nodeL_length _ _
theorem jFrom_32 (ps : List (List UInt8)) (h : 0 < ps.length) (h32 : All32 ps) (m : Nat) (hm : m ≤ ps.length - 1) : (jFrom ps m).length = 32 := by
  have := jFrom_length ps h h32 (ps.length - 1 - m) (by omega)
  rwa [show ps.length - 1 - (ps.length - 1 - m) = m by omega] at this
set_option maxRecDepth 10000 in
set_option maxHeartbeats 8000000 in
theorem law_MerkleJoins (v : Value) (ds : List (List UInt8)) (w : World) (hv : SlD w v ds) (hl : ds.length * 32 ≤ 1048576) :
    Calls Try.prog 4 #[v] w fun e w' => e = .returned (.bool true) ∧ Below w.heap.size w w' := by
  have h32 := hv.2
  have hls : ds.length ≤ 1048576 := by omega
  obtain ⟨⟨A, c, rfl, hc, _⟩, _⟩ := id hv
  have hrl := rootL_length ds.length ds (Nat.le_refl _) (by omega) h32
  have cr := fun w' h => root_any ds.length (.slice A ds.length c) ds w' (Nat.le_refl _) hls h
  go_enter Try.func4, Try.ntmps4
  go_wp2_with fail
  go_loopw [3] (fun ik wr => ∃ (j k : Nat), Hid (2 ^ j = k) ∧ 1 ≤ k ∧ k ≤ 2 * ds.length + 1 ∧ ik = .int .i64 k ∧ Below w.heap.size w wr) (fun ik _ => 2 * ds.length + 2 - (intOf ik).toNat)
  case atStart => exact ⟨0, 1, rfl, by omega, by omega, rfl, Below.refl _ _⟩
  case round =>
    obtain ⟨j, k, hk, hk1, hk2, rfl, bw⟩ := hrel
    have w0 : IntKind.i64.wrap (2 * (k : Int)) = 2 * (k : Int) := by rw [IntKind.wrap_i64]; omega
    have w1 : IntKind.i64.wrap ((ds.length : Int) - k) = (ds.length : Int) - k := by rw [IntKind.wrap_i64]; omega
    by_cases hlt : k < ds.length
    · have hltI : (k : Int) < ds.length := by omega
      by_cases h2 : k < ds.length - k
      · have h2I : (k : Int) < (ds.length : Int) - k := by omega
        go_wp2_with fail
        go_roundw
        case rel => exact ⟨j + 1, 2 * k, by have := hk.out; unfold Hid; rw [Nat.pow_succ, this]; omega, by omega, by omega, by go_num, bw⟩
        case measure => simp [intOf]; omega
      · have h2I : ¬ (k : Int) < (ds.length : Int) - k := by omega
        have hpk := root_peak (l := ds) (j := j) (by omega) (by rw [hk.out]; exact hlt) (by rw [hk.out]; omega)
        rw [hk.out] at hpk
        have hL0 := hv.slice 0 k (by omega) (by omega)
        simp only [List.drop_zero, Nat.sub_zero, slA_zero] at hL0
        have hR0 := hv.slice k ds.length (by omega) (Nat.le_refl _)
        rw [List.take_of_length_le (by simp)] at hR0
        have cl := fun w' h => root_any ds.length (.slice A k c) (ds.take k) w' (by rw [List.length_take]; omega) hls h
        have crr := fun w' h => root_any ds.length (.slice (slA A k c 32) (ds.length - k) (c - k)) (ds.drop k) w' (by rw [List.length_drop]; omega) hls h
        have hdl := rootL_length ds.length (ds.take k) (by rw [List.length_take]; omega) (by omega) (h32.take k)
        have hdr := rootL_length ds.length (ds.drop k) (by rw [List.length_drop]; omega) (by omega) (h32.drop k)
        have q1 := neq_dg_self (rootL ds) hrl
        rw [hpk] at q1 cr
        generalize rootL (ds.take k) = dl at *
        generalize rootL (ds.drop k) = dr at *
        have cn := fun w' => node_any dl dr hdl hdr w'
        generalize nodeL dl dr = dn at *
        replace hpk : Hid _ := hpk
        have hcur : Below w.heap.size w wr := bw
        have e0 := Ext.refl wr
        have kc : (k : Int) ≤ c := by omega
        have kd : (k : Int) ≤ ds.length := by omega
        go_wp2_with fail
        refine wp_region_E (by kernel_rfl) ?_
        replace hcur := below_via hcur (ext_drew _)
        refine wpAnyE_take (i := 0) (v := ?_) (some 21) rfl rfl (by kernel_rfl) (by kernel_rfl) (by kernel_rfl) (fun _ _ _ h => h) ?_ ?_
        rotate_left 1
        · (refine Or.inl ⟨by rfl, ?_⟩; intro w' hw'; have hq := below_via hcur hw'; (try go_simp); (try rfl); done)
        try simp only [Act.put, List.setIfInBounds_toArray, List.set_cons_zero, List.set_cons_succ]
        refine wpAnyE_take (i := 2) (v := ?_) (some 23) rfl rfl (by kernel_rfl) (by kernel_rfl) (by kernel_rfl) (fun _ _ _ h => h) ?_ ?_
        rotate_left 1
        · (refine Or.inl ⟨by rfl, ?_⟩; intro w' hw'; have hq := below_via hcur hw'; (try go_simp); (try rfl); done)
        try simp only [Act.put, List.setIfInBounds_toArray, List.set_cons_zero, List.set_cons_succ]
        refine wpAnyE_take (i := 3) (v := ?_) (some 24) rfl rfl (by kernel_rfl) (by kernel_rfl) (by kernel_rfl) (fun _ _ _ h => h) ?_ ?_
        rotate_left 1
        · (refine Or.inl ⟨by rfl, ?_⟩; intro w' hw'; have hq := below_via hcur hw'; (try go_simp); (try rfl); done)
        try simp only [Act.put, List.setIfInBounds_toArray, List.set_cons_zero, List.set_cons_succ]
        refine wpAnyE_take (i := 4) (v := ?_) (some 25) rfl rfl (by kernel_rfl) (by kernel_rfl) (by kernel_rfl) (fun _ _ _ h => h) ?_ ?_
        rotate_left 1
        · (refine Or.inl ⟨by rfl, ?_⟩; intro w' hw'; have hq := below_via hcur hw'; (try go_simp); (try rfl); done)
        try simp only [Act.put, List.setIfInBounds_toArray, List.set_cons_zero, List.set_cons_succ]
        refine wpAnyE_take (i := 6) (v := ?_) (some 27) rfl rfl (by kernel_rfl) (by kernel_rfl) (by kernel_rfl) (fun _ _ _ h => h) ?_ ?_
        rotate_left 1
        · (refine Or.inl ⟨by rfl, ?_⟩; intro w' hw'; have hq := below_via hcur hw'; (try go_simp); (try rfl); done)
        try simp only [Act.put, List.setIfInBounds_toArray, List.set_cons_zero, List.set_cons_succ]
        refine wpAnyE_take (i := 7) (v := ?_) (some 28) rfl rfl (by kernel_rfl) (by kernel_rfl) (by kernel_rfl) (fun _ _ _ h => h) ?_ ?_
        rotate_left 1
        · (refine Or.inl ⟨by rfl, ?_⟩; intro w' hw'; have hq := below_via hcur hw'; (try go_simp); (try rfl); done)
        try simp only [Act.put, List.setIfInBounds_toArray, List.set_cons_zero, List.set_cons_succ]
        refine wpAnyE_take (i := 8) (v := ?_) (some 29) rfl rfl (by kernel_rfl) (by kernel_rfl) (by kernel_rfl) (fun _ _ _ h => h) ?_ ?_
        rotate_left 1
        · (refine Or.inl ⟨by rfl, ?_⟩; intro w' hw'; have hq := below_via hcur hw'; (try go_simp); (try rfl); done)
        try simp only [Act.put, List.setIfInBounds_toArray, List.set_cons_zero, List.set_cons_succ]
        refine wpAnyE_one (i := 1) rfl (by kernel_rfl) (by rfl) (fun K hK => ?_)
        go_simp
        (with_reducible refine (cr _ (hv.below hcur)).mono ?_); rintro e w5 ⟨rfl, hb⟩
        refine hK.out _ _ hb ?_
        replace hcur := below_via hcur hb; clear hK K
        try simp only [Act.put, List.setIfInBounds_toArray, List.set_cons_zero, List.set_cons_succ]
        refine wpAnyE_one (i := 5) rfl (by kernel_rfl) (by rfl) (fun K hK => ?_)
        go_simp
        (with_reducible refine (cl _ (hL0.below hcur)).mono ?_); rintro e w5 ⟨rfl, hb⟩
        refine hK.out _ _ hb ?_
        replace hcur := below_via hcur hb; clear hK K
        try simp only [Act.put, List.setIfInBounds_toArray, List.set_cons_zero, List.set_cons_succ]
        refine wpAnyE_one (i := 9) rfl (by kernel_rfl) (by rfl) (fun K hK => ?_)
        go_simp
        (with_reducible refine (crr _ (hR0.below hcur)).mono ?_); rintro e w5 ⟨rfl, hb⟩
        refine hK.out _ _ hb ?_
        replace hcur := below_via hcur hb; clear hK K
        try simp only [Act.put, List.setIfInBounds_toArray, List.set_cons_zero, List.set_cons_succ]
        refine wpAnyE_one (i := 10) rfl (by kernel_rfl) (by rfl) (fun K hK => ?_)
        go_simp
        (with_reducible refine (cn _).mono ?_); rintro e w5 ⟨rfl, hb⟩
        refine hK.out _ _ hb ?_
        replace hcur := below_via hcur hb; clear hK K
        try simp only [Act.put, List.setIfInBounds_toArray, List.set_cons_zero, List.set_cons_succ]
        refine wpAnyE_take (i := 11) (v := ?_) (some 32) rfl rfl (by kernel_rfl) (by kernel_rfl) (by kernel_rfl) (fun _ _ _ h => h) ?_ ?_
        rotate_left 1
        · (refine Or.inl ⟨by rfl, ?_⟩; intro w' hw'; have hq := below_via hcur hw'; (try go_simp); (try rfl); done)
        try simp only [Act.put, List.setIfInBounds_toArray, List.set_cons_zero, List.set_cons_succ]
        refine wpAnyE_done (by kernel_rfl) ?_ _
        go_wp2_with fail
        go_roundw
        case rel => exact ⟨j + 1, 2 * k, by have := hk.out; unfold Hid; rw [Nat.pow_succ, this]; omega, by omega, by omega, by go_num, hcur⟩
        case measure => simp [intOf]; omega
    · have hltI : ¬ (k : Int) < ds.length := by omega
      clear w0 w1 hk1 hk2 hk
      by_cases hz : ds.length = 0
      · have hz' : ((ds.length : Int) == 0) = true := by rw [hz]; rfl
        clear hz
        go_wp2_with fail
        refine (wakes_any _).mono ?_; rintro e w12 ⟨rfl, b12⟩
        go_wp2_with fail
        go_ret
        exact ⟨rfl, Below.trans bw (b12.mono bw.size)⟩
      · have hz' : ((ds.length : Int) == 0) = false := by rw [beq_eq_false_iff_ne]; omega
        generalize hW : wr = W0 at *
        clear hW
        go_wp2_with fail
        have hw0 := bw.size
        go_loopw [4, 5] (fun pk ia wr => ∃ (a : Nat) (ps : List (List UInt8)), a ≤ ds.length ∧ ia = .int .i64 a ∧ OwD w.heap.size wr pk ps ∧ ps.length ≤ a ∧ JInv ds a ps ∧ Below w.heap.size w wr) (fun _ ia _ => ds.length - (intOf ia).toNat)
        case atStart => exact ⟨0, [], by omega, rfl, OwD.nil _ _, by simp, ⟨fun _ => by simp, fun h => absurd h (by omega)⟩, bw⟩
        case round =>
          clear bw
          obtain ⟨a, ps, ha, rfl, hps, hpl, hJ, bw⟩ := hrel
          replace hJ : Hid _ := hJ
          by_cases halt : a < ds.length
          · have haI : (a : Int) < ds.length := by omega
            have wq : IntKind.i64.wrap ((ds.length : Int) - a) = (ds.length : Int) - a := by rw [IntKind.wrap_i64]; omega
            go_wp2_with fail
            go_loop [6] (fun ik => ∃ (j k : Nat), Hid (2 ^ j = k) ∧ 1 ≤ k ∧ k ≤ ds.length - a ∧ ik = .int .i64 k) (fun ik => ds.length - (intOf ik).toNat)
            case atStart => exact ⟨0, 1, rfl, by omega, by omega, rfl⟩
            case round =>
              obtain ⟨j, k, hk, hk1, hk2, rfl⟩ := hrel
              have w0 : IntKind.i64.wrap (2 * (k : Int)) = 2 * (k : Int) := by rw [IntKind.wrap_i64]; omega
              by_cases hlt2 : 2 * k ≤ ds.length - a
              · have hI : 2 * (k : Int) ≤ (ds.length : Int) - a := by omega
                go_wp2_with fail
                go_round
                case rel => exact ⟨j + 1, 2 * k, by have := hk.out; unfold Hid; rw [Nat.pow_succ, this]; omega, by omega, by omega, by go_num⟩
                case measure => simp [intOf]; omega
              · have hI : ¬ 2 * (k : Int) ≤ (ds.length : Int) - a := by omega
                have hJ2 := JInv.next (ds := ds) (a := a) (ps := ps) (j := j) hJ.out (by omega) (by rw [hk.out]; exact hk2) halt (by rw [hk.out]; omega)
                rw [hk.out] at hJ2
                have hS := (hv.below bw).slice a (a + k) (by omega) (by omega)
                rw [show a + k - a = k by omega] at hS
                have hdr := rootL_length ds.length ((ds.drop a).take k) (by rw [List.length_take, List.length_drop]; omega) (by omega) ((h32.drop a).take _)
                have hrt := root_any ds.length _ ((ds.drop a).take k) _ (by rw [List.length_take, List.length_drop]; omega) hls hS
                generalize rootL ((ds.drop a).take k) = dn at *
                replace hJ2 : Hid _ := hJ2
                have k1 : (a : Int) + k ≤ c := by omega
                have k2 : (a : Int) ≤ (a : Int) + k := by omega
                have w3 : IntKind.i64.wrap ((a : Int) + k) = (a : Int) + k := by rw [IntKind.wrap_i64]; omega
                have k4 : ((a : Int) + k).toNat = a + k := by omega
                have hpl2 : Hid (ps.length ≤ 1048576) := by unfold Hid; omega
                clear hS
                go_wp2_with fail
                (with_reducible refine hrt.mono ?_); rintro e w5 ⟨rfl, b5⟩
                have ho5 := hps.below b5
                have bw5 := Below.trans bw (b5.mono bw.size)
                have e5 := ext_alloc w5 (.cells (bs dn).toArray 25 (0, 0))
                have ho6 := ho5.below e5
                have s6 := slD_one w5 dn 25 hdr
                have bw6 := Below.trans bw5 (e5.mono bw5.size)
                have z6 := bw6.size
                clear hrt ho5 b5 e5 bw5 hps
                go_wp2_with (first | ((with_reducible refine at_bs ?_); refine wpl_bD rfl hdr _ rfl rfl ?_) | (at_builtin; go_loud (refine wpl_apD (B := w.heap.size) rfl _ _ rfl rfl ho6 rfl s6 (by have := hpl2.out; simp; omega) z6 ?_)))
                intro v7 w7 h7 _ b7
                go_wp2_with fail
                go_roundw
                case rel => exact ⟨a + k, ps ++ [dn], by omega, by go_num, h7, by simp; omega, hJ2.out, Below.trans bw6 b7⟩
                case measure => simp [intOf]; omega
          · obtain rfl : a = ds.length := by omega
            obtain ⟨hp0, hpj⟩ := hJ.out.2 rfl
            clear hJ ha
            have h32p := hps.2
            have hlast := jFrom_last ps hp0
            have hj32 := jFrom_32 ps hp0 h32p
            obtain ⟨gp, cp, rfl, hgp1, hgp2⟩ := hps.some hp0
            have hpsl := hps.sl
            have hpl1 : (ps.length : Int) ≤ ds.length := by omega
            have g1 : RdB wr (some ⟨gp, (ps.length - 1) * 32, none⟩) (ps.getD (ps.length - 1) []) := by
              obtain ⟨_, e, hh⟩ := hpsl.get (i := ps.length - 1) (by omega)
              cases e; rw [Addr.add_lit, Nat.zero_add] at hh; exact hh
            rw [← hlast] at g1
            have hl32 := hj32 (ps.length - 1) (Nat.le_refl _)
            have wa : IntKind.i64.wrap ((ps.length : Int) - 1) = (ps.length : Int) - 1 := by rw [IntKind.wrap_i64]; omega
            have wb : IntKind.i64.wrap ((ps.length : Int) - 2) = (ps.length : Int) - 2 := by rw [IntKind.wrap_i64]; omega
            have wc : ((ps.length : Int) - 1).toNat = ps.length - 1 := by omega
            have wd : (ps.length : Int) - 1 < ps.length := by omega
            have we : (0 : Int) ≤ (ps.length : Int) - 1 := by omega
            have wf : (1 : Int) ≤ ps.length := by omega
            replace hlast : Hid _ := hlast
            replace hpj : Hid _ := hpj
            obtain ⟨dl, hdl⟩ : ∃ dl, dl = jFrom ps (ps.length - 1) := ⟨_, rfl⟩
            rw [← hdl] at g1 hl32
            replace hdl : Hid _ := hdl
            have e3 := ext_alloc wr (.cells (bs dl).toArray 25 (0, 0))
            have rX : RowT 25 (wr.alloc (.cells (bs dl).toArray 25 (0, 0))) wr.heap.size dl := heap_alloc_new _ _
            have hp3 := hpsl.below e3
            have bw3 := Below.trans bw (e3.mono bw.size)
            have z3 := size_alloc wr (.cells (bs dl).toArray 25 (0, 0))
            have zw := bw.size
            clear e3 hps hpsl bw
            go_wp2_with (first
              | ((with_reducible refine at_store ?_); refine arr_dg.store_newL zer_length rfl hl32 _ _ rfl rfl rfl ?_)
              | ((with_reducible refine at_load ?_); refine arr_dg.loadAtL g1 (by rfl) hl32 _ rfl rfl ?_)
              | fail)
            clear g1
            generalize hX : wr.heap.size = X at *
            generalize hW3 : wr.alloc (.cells (bs dl).toArray 25 (0, 0)) = W3 at *
            clear hX hW3
            have hX0 : w.heap.size ≤ X := zw
            go_loopw [8] (fun i wr => ∃ m : Nat, m ≤ ps.length - 1 ∧ i = .int .i64 ((m : Int) - 1) ∧ RowT 25 wr X (jFrom ps m) ∧ W3.grownBy wr (some X)) (fun i _ => (intOf i + 1).toNat)
            case atStart => exact ⟨ps.length - 1, Nat.le_refl _, by go_num, by rw [← hdl.out]; exact rX, gr_refl _ _⟩
            case round =>
              clear rX wa wb wc wd we wf hdl
              obtain ⟨m, hm, rfl, hr, hg⟩ := hrel
              have bwr := below_gr bw3 hg bw3.size hX0
              by_cases hm0 : 0 < m
              · obtain ⟨m, rfl⟩ : ∃ m', m = m' + 1 := ⟨m - 1, by omega⟩
                rw [show ((m + 1 : Nat) : Int) - 1 = m by omega]
                have hst := jFrom_step ps m (by omega)
                have hd1 := (hp3.gr hg (by intro h; injection h with h; omega)).len32 (i := m) (by omega)
                have hd2 := hj32 (m + 1) hm
                have hd0 := hj32 m (by omega)
                have hpk := hp3.gr hg (by intro h; injection h with h; omega)
                have f1 : ∀ w', Ext wr w' → RdB w' (some ⟨gp, m * 32, none⟩) (ps.getD m []) := fun w' h => by
                  obtain ⟨_, e, hh⟩ := (hpk.below h).get (i := m) (by omega)
                  cases e; rw [Addr.add_lit, Nat.zero_add] at hh; exact hh
                rw [hst] at hd0
                generalize ps.getD m [] = pm at *
                generalize hjm : jFrom ps (m + 1) = jm at *
                have cn := fun w' => node_any pm jm hd1 hd2 w'
                generalize nodeL pm jm = dn at *
                replace hst : Hid _ := hst
                replace hjm : Hid _ := hjm
                have fr := fun (w' : World) (h : Ext wr w') => hr.below h
                have hcur : Below w.heap.size w wr := bwr
                have e0 := Ext.refl wr
                have mI : (m : Int) < ps.length := by omega
                clear hpk hr
                go_wp2_with fail
                refine wp_region_F 6 (by kernel_rfl) (fun hcl => ?_)
                replace hcur := below_via hcur (ext_drew _)
                replace e0 := Ext.trans e0 (ext_drew _)
                refine wpAnyF_take (fin := 6) (i := 0) (v := ?_) hcl (some 76) rfl rfl (by kernel_rfl) (by kernel_rfl) (by kernel_rfl) (fun _ _ _ h => h) (by kernel_rfl) ?_ (fun hcl => ?_)
                rotate_left 1
                · (refine Or.inl ⟨by rfl, ?_⟩; intro w' hw'; have hq := below_via hcur hw'; have hq_e0 := Ext.trans e0 hw'; (try go_simp); (try rfl); done)
                try simp only [Act.put, List.setIfInBounds_toArray, List.set_cons_zero, List.set_cons_succ]
                refine wpAnyF_take (fin := 6) (i := 1) (v := ?_) hcl (some 77) rfl rfl (by kernel_rfl) (by kernel_rfl) (by kernel_rfl) (fun _ _ _ h => h) (by kernel_rfl) ?_ (fun hcl => ?_)
                rotate_left 1
                · (refine Or.inl ⟨by rfl, ?_⟩; intro w' hw'; have hq := below_via hcur hw'; have hq_e0 := Ext.trans e0 hw'; (try go_simp); (try rfl); done)
                try simp only [Act.put, List.setIfInBounds_toArray, List.set_cons_zero, List.set_cons_succ]
                refine wpAnyF_take (fin := 6) (i := 2) (v := ?_) hcl (some 78) rfl rfl (by kernel_rfl) (by kernel_rfl) (by kernel_rfl) (fun _ _ _ h => h) (by kernel_rfl) ?_ (fun hcl => ?_)
                rotate_left 1
                · (refine Or.inl ⟨by rfl, ?_⟩; intro w' hw'; have hq := below_via hcur hw'; have hq_e0 := Ext.trans e0 hw'; (try go_simp); (try rfl); done)
                try simp only [Act.put, List.setIfInBounds_toArray, List.set_cons_zero, List.set_cons_succ]
                refine wpAnyF_take (fin := 6) (i := 3) (v := ?_) hcl (some 79) rfl rfl (by kernel_rfl) (by kernel_rfl) (by kernel_rfl) (fun _ _ _ h => h) (by kernel_rfl) ?_ (fun hcl => ?_)
                rotate_left 1
                · (refine Or.inl ⟨by rfl, ?_⟩; intro w' hw'; have hq := below_via hcur hw'; have hq_e0 := Ext.trans e0 hw'; (refine arr_dg.exAt (f1 _ hq_e0) hd1 (.tmp 78) ?_ ?_ <;> rfl))
                try simp only [Act.put, List.setIfInBounds_toArray, List.set_cons_zero, List.set_cons_succ]
                refine wpAnyF_take (fin := 6) (i := 4) (v := ?_) hcl (some 80) rfl rfl (by kernel_rfl) (by kernel_rfl) (by kernel_rfl) (fun _ _ _ h => h) (by kernel_rfl) ?_ (fun hcl => ?_)
                rotate_left 1
                · (refine Or.inl ⟨by rfl, ?_⟩; intro w' hw'; have hq := below_via hcur hw'; have hq_e0 := Ext.trans e0 hw'; (refine arr_dg.ex (fr _ hq_e0) hd2 (.tmp 7) ?_ ?_ <;> rfl))
                try simp only [Act.put, List.setIfInBounds_toArray, List.set_cons_zero, List.set_cons_succ]
                refine wpAnyF_one (fin := 6) (i := 5) hcl rfl (by kernel_rfl) (by rfl) (fun hcl K hK => ?_)
                go_simp
                (with_reducible refine (cn _).mono ?_); rintro e w7 ⟨rfl, hb⟩
                refine hK.out _ _ hb ?_
                replace hcur := below_via hcur hb; clear hK K
                replace e0 := Ext.trans e0 hb
                try simp only [Act.put, List.setIfInBounds_toArray, List.set_cons_zero, List.set_cons_succ]
                refine wpAnyF_last (fin := 6) rfl (by kernel_rfl) (by kernel_rfl) (by rfl) (fun K hK => ?_)
                have r9 := fr _ e0
                refine arr_dg.store r9 hd2 hd0 _ _ rfl rfl rfl ?_
                refine hK.out _ _ ?_
                clear hK K hcl
                have hg2 := gr_trans (gr_trans hg (gr_below e0)) (gr_setRow _ X (bs dn).toArray)
                have hr2 := r9.setRow dn
                go_wp2_with fail
                go_roundw
                case rel => exact ⟨m, by omega, by go_num, by rw [hst.out]; exact hr2, hg2⟩
                case measure => (simp [intOf] <;> omega)
              · obtain rfl : m = 0 := by omega
                rw [show ((0 : Nat) : Int) - 1 = -1 by omega]
                rw [jFrom_zero, hpj.out] at hr
                have q1 := eql_dg_self (rootL ds) hrl
                generalize rootL ds = dr at *
                have hcur : Below w.heap.size w wr := bwr
                have e0 := Ext.refl wr
                go_wp2_with fail
                refine wp_region_E (by kernel_rfl) ?_
                replace hcur := below_via hcur (ext_drew _)
                replace e0 := Ext.trans e0 (ext_drew _)
                refine wpAnyE_take (i := 0) (v := ?_) (some 82) rfl rfl (by kernel_rfl) (by kernel_rfl) (by kernel_rfl) (fun _ _ _ h => h) ?_ ?_
                rotate_left 1
                · (refine Or.inl ⟨by rfl, ?_⟩; intro w' hw'; have hq := below_via hcur hw'; have hq_e0 := Ext.trans e0 hw'; (refine arr_dg.ex (hr.below hq_e0) hrl (.tmp 7) ?_ ?_ <;> rfl))
                try simp only [Act.put, List.setIfInBounds_toArray, List.set_cons_zero, List.set_cons_succ]
                refine wpAnyE_take (i := 1) (v := ?_) (some 83) rfl rfl (by kernel_rfl) (by kernel_rfl) (by kernel_rfl) (fun _ _ _ h => h) ?_ ?_
                rotate_left 1
                · (refine Or.inl ⟨by rfl, ?_⟩; intro w' hw'; have hq := below_via hcur hw'; have hq_e0 := Ext.trans e0 hw'; (try go_simp); (try rfl); done)
                try simp only [Act.put, List.setIfInBounds_toArray, List.set_cons_zero, List.set_cons_succ]
                refine wpAnyE_one (i := 2) rfl (by kernel_rfl) (by rfl) (fun K hK => ?_)
                go_simp
                (with_reducible refine (cr _ (hv.below hcur)).mono ?_); rintro e w5 ⟨rfl, hb⟩
                refine hK.out _ _ hb ?_
                replace hcur := below_via hcur hb; clear hK K
                replace e0 := Ext.trans e0 hb
                try simp only [Act.put, List.setIfInBounds_toArray, List.set_cons_zero, List.set_cons_succ]
                refine wpAnyE_take (i := 3) (v := ?_) (some 85) rfl rfl (by kernel_rfl) (by kernel_rfl) (by kernel_rfl) (fun _ _ _ h => h) ?_ ?_
                rotate_left 1
                · (refine Or.inl ⟨by rfl, ?_⟩; intro w' hw'; have hq := below_via hcur hw'; have hq_e0 := Ext.trans e0 hw'; (try go_simp); (try rfl); done)
                try simp only [Act.put, List.setIfInBounds_toArray, List.set_cons_zero, List.set_cons_succ]
                refine wpAnyE_take (i := 4) (v := ?_) (some 86) rfl rfl (by kernel_rfl) (by kernel_rfl) (by kernel_rfl) (fun _ _ _ h => h) ?_ ?_
                rotate_left 1
                · (refine Or.inl ⟨by rfl, ?_⟩; intro w' hw'; have hq := below_via hcur hw'; have hq_e0 := Ext.trans e0 hw'; (try go_simp); (try rfl); done)
                try simp only [Act.put, List.setIfInBounds_toArray, List.set_cons_zero, List.set_cons_succ]
                refine wpAnyE_one (i := 5) rfl (by kernel_rfl) (by rfl) (fun K hK => ?_)
                go_simp
                (with_reducible refine (wakes_any _).mono ?_); rintro e w5 ⟨rfl, hb⟩
                refine hK.out _ _ hb ?_
                replace hcur := below_via hcur hb; clear hK K
                replace e0 := Ext.trans e0 hb
                try simp only [Act.put, List.setIfInBounds_toArray, List.set_cons_zero, List.set_cons_succ]
                refine wpAnyE_take (i := 6) (v := ?_) (some 88) rfl rfl (by kernel_rfl) (by kernel_rfl) (by kernel_rfl) (fun _ _ _ h => h) ?_ ?_
                rotate_left 1
                · (refine Or.inl ⟨by rfl, ?_⟩; intro w' hw'; have hq := below_via hcur hw'; have hq_e0 := Ext.trans e0 hw'; (try go_simp); (try rfl); done)
                try simp only [Act.put, List.setIfInBounds_toArray, List.set_cons_zero, List.set_cons_succ]
                refine wpAnyE_take (i := 7) (v := ?_) (some 2) rfl rfl (by kernel_rfl) (by kernel_rfl) (by kernel_rfl) (fun _ _ _ h => h) ?_ ?_
                rotate_left 1
                · (refine Or.inl ⟨by rfl, ?_⟩; intro w' hw'; have hq := below_via hcur hw'; have hq_e0 := Ext.trans e0 hw'; (try go_simp); (try rfl); done)
                try simp only [Act.put, List.setIfInBounds_toArray, List.set_cons_zero, List.set_cons_succ]
                refine wpAnyE_done (by kernel_rfl) ?_ _
                go_wp2_with fail
                go_ret
                exact ⟨rfl, hcur⟩
end Go.Proofs.Ytidgomppehhkgaa
