/- Levels of the program (walk). -/
import Derived.Test.YtidgomppehhkgaaMerQ
import Derived.Test.YtidgomppehhkgaaMerL
set_option linter.unusedVariables false
set_option linter.unusedSimpArgs false
namespace Go.Proofs.Ytidgomppehhkgaa
open Go.RowKit
attribute [local go_sem high] dg_cells guard_dg rs_l rs_lh rs_lhm rs_h rs_hm rs_all

def lenV : Value → Nat
  | .slice _ n _ => n
  | _ => 0
/-- The first j pairs of a row, as nodes. -/
def prs (row : List (List UInt8)) (j : Nat) : List (List UInt8) := (List.range j).map fun k => nodeL (row.getD (2 * k) []) (row.getD (2 * k + 1) [])
theorem prs_length (row : List (List UInt8)) (j : Nat) : (prs row j).length = j := by simp [prs]
theorem prs_succ (row : List (List UInt8)) (j : Nat) : prs row (j + 1) = prs row j ++ [nodeL (row.getD (2 * j) []) (row.getD (2 * j + 1) [])] := by
  unfold prs; rw [List.range_succ, List.map_append]; rfl
theorem sl_one (w : World) (u : Value) (t : TypeId) : Sl (w.alloc (.cells #[u] t (0, 0))) (.slice (some ⟨w.heap.size, 0, none⟩) 1 1) [u].length [u] := sl_new w [u] t 1 rfl (by decide)
theorem lvls_all (ds : List (List UInt8)) : (lvls ds).take (lvl ds.length) = lvls ds := List.take_of_length_le (by rw [lvls_length]; exact Nat.le_refl _)
theorem owD_at {B B1 : Nat} {w w' : World} {v : Value} {ds : List (List UInt8)} (h : OwD B w v ds) (hlt : ∀ g, v.ownBlock = some g → g < B1) (hb : Below B1 w w') : OwD B w' v ds := by
  refine ⟨⟨h.1.1, ?_⟩, h.2⟩
  rcases h.1.2 with hn | ⟨g, cap, cur, e, h1, h2, h3⟩
  · exact .inl hn
  · exact .inr ⟨g, cap, cur, e, h1, (hb.block g (hlt g (by subst e; rfl))).trans h2, h3⟩
theorem owD_lenV {B : Nat} {w : World} {v : Value} {ds : List (List UInt8)} (h : OwD B w v ds) : lenV v = ds.length := by
  obtain ⟨⟨A, c, e, _⟩, _⟩ := h.sl
  rw [e]; rfl
theorem owL_at {B : Nat} {w w' : World} {v : Value} {vs : List Value} (h : OwL B w v vs) (hb : Below w.heap.size w w') : OwL B w' v vs := h.below hb
set_option maxRecDepth 10000 in
set_option maxHeartbeats 4000000 in
theorem levels_any (v : Value) (ds : List (List UInt8)) (w : World) (hv : SlD w v ds) (hl : ds.length ≤ 1048576) :
    Calls Try.prog 13 #[v] w fun e w' => ∃ v' vs, e = .returned v' ∧ OwL w.heap.size w' v' vs ∧ Rws w.heap.size w' vs (lvls ds) ∧ Below w.heap.size w w' := by
  have h32 := hv.2
  go_enter Try.func13, Try.ntmps13
  go_wp2_with (at_builtin; go_loud (refine wpl_apD rfl _ _ rfl rfl (OwD.nil w.heap.size w) rfl hv (by simp; omega) (Nat.le_refl _) ?_))
  intro v1 w1 h1 _ b1
  clear hv
  have hle := lvl_le ds.length hl
  go_wp2_with fail
  go_loopw [3, 4] (fun l row wr => ∃ (i B0 : Nat) (vs : List Value), i ≤ lvl ds.length ∧ OwL w.heap.size wr l vs ∧ Rws w.heap.size wr vs ((lvls ds).take i) ∧ OwD B0 wr row (levN ds i) ∧
      (∀ u ∈ vs, ∀ k, u.ownBlock = some k → k < B0) ∧ w.heap.size ≤ B0 ∧ B0 ≤ wr.heap.size ∧ Below w.heap.size w wr) (fun _ row _ => lenV row)
  case atStart => exact ⟨0, w.heap.size, [], by omega, OwL.nil _ _, by simpa using Rws.nil _ _, by rw [levN_zero]; exact h1, by simp, Nat.le_refl _, b1.size, b1⟩
  case round =>
    clear h1 b1
    obtain ⟨i, B0, vs, hi, hol, hrw, hrow, hB0, hB1, hB2, bw⟩ := hrel
    have hpos := lvl_spec ds.length (by omega) i
    rw [← levN_length] at hpos
    by_cases hlt : i < lvl ds.length
    · have hn := hpos.1 hlt
      have hrn := levN_32 ds i h32 (by omega)
      have hs := levN_succ ds i (by omega)
      have htk := lvls_take ds i hlt
      have hll : (levN ds i).length ≤ 1048576 := by rw [levN_length]; exact Nat.le_trans (Nat.div_le_self _ _) hl
      have hvl : vs.length ≤ 21 := by rw [hrw.len, List.length_take]; omega
      generalize levN ds i = row at *
      replace hs : Hid _ := hs
      replace htk : Hid _ := htk
      replace hpos : Hid _ := hpos
      obtain ⟨g, c, rfl, hg1, hg2⟩ := hrow.some hn
      have e1 := ext_alloc wr (.cells #[Value.slice (some ⟨g, 0, none⟩) row.length c] 22 (0, 0))
      have s1 := sl_one wr (.slice (some ⟨g, 0, none⟩) row.length c) 22
      have hol1 := hol.below e1
      have bw1 := Below.trans bw (e1.mono bw.size)
      have hrw1 := hrw.below e1
      have hrow1 := hrow.below e1
      have z1 := size_alloc wr (.cells #[Value.slice (some ⟨g, 0, none⟩) row.length c] 22 (0, 0))
      have hr0 := hrow
      clear hol bw hrw hrow e1
      go_wp2_with (at_builtin; go_loud (refine wpl_apL (B := w.heap.size) rfl _ _ rfl rfl hol1 rfl s1 (by intro u hu; rw [List.mem_singleton.1 hu]; rfl) (by simp; omega) (by omega) ?_))
      intro v2 w2 hol2 g2 b2
      have hrow2 := hrow1.kept g2 (hol1.ne hrow1)
      have hrw2 := hrw1.kept g2 (fun u hu => by obtain ⟨es, ho, _⟩ := hrw1.each hu; exact hol1.ne ho)
      have bw2 := Below.trans bw1 b2
      have z2 := g2.size
      have hrw3 := hrw2.snoc hB1 hrow2 hn hB0
      rw [← htk.out] at hrw3
      have hrr := hrow2.sl
      have hz2 : w.heap.size ≤ w2.heap.size := bw2.size
      have hnew : ∀ u ∈ vs ++ [Value.slice (some ⟨g, 0, none⟩) row.length c], ∀ k, u.ownBlock = some k → k < w2.heap.size := hrw3.lt
      clear hol1 g2 b2 hrw1 hrow1 s1 bw1 hrw2 hB0 hr0
      go_wp2_with fail
      go_loopw [5, 6] (fun nx ix w' => ∃ j p : Nat, Hid (p = 2 * j) ∧ p ≤ row.length ∧ ix = .int .i64 p ∧ OwD w2.heap.size w' nx (prs row j) ∧ Below w2.heap.size w2 w') (fun _ ix _ => row.length - (intOf ix).toNat)
      case atStart => exact ⟨0, 0, rfl, by omega, rfl, OwD.nil _ _, Below.refl _ _⟩
      case round =>
        obtain ⟨j, p, hp, hj, rfl, hox, bx⟩ := hrel
        by_cases hjl : p + 1 < row.length
        · have r1 : ∀ w', Below w2.heap.size w2 w' → RdB w' (some ⟨g, p * 32, none⟩) (row.getD p []) := fun w' h => by
            obtain ⟨_, e, hh⟩ := (hrr.below h).get (i := p) (by omega)
            cases e; rw [Addr.add_lit, Nat.zero_add] at hh; exact hh
          have r2 : ∀ w', Below w2.heap.size w2 w' → RdB w' (some ⟨g, (p + 1) * 32, none⟩) (row.getD (p + 1) []) := fun w' h => by
            obtain ⟨_, e, hh⟩ := (hrr.below h).get (i := p + 1) (by omega)
            cases e; rw [Addr.add_lit, Nat.zero_add] at hh; exact hh
          have hd1 := hrr.len32 (i := p) (by omega)
          have hd2 := hrr.len32 (i := p + 1) (by omega)
          have hps := prs_succ row j
          rw [← hp.out] at hps
          have hpl := prs_length row j
          generalize row.getD p [] = d1 at *
          generalize row.getD (p + 1) [] = d2 at *
          have hnl := nodeL_length d1 d2
          have hnd := fun w' => node_any d1 d2 hd1 hd2 w'
          generalize nodeL d1 d2 = dn at *
          generalize prs row j = pre at *
          replace hps : Hid _ := hps
          replace hpl : Hid _ := hpl
          have k0 : (0 : Int) ≤ p := by omega
          have k1 : (p : Int) < row.length := by omega
          have k2 : (p : Int) + 1 < row.length := by omega
          have w0 : IntKind.i64.wrap ((p : Int) + 1) = (p : Int) + 1 := by rw [IntKind.wrap_i64]; omega
          have k3 : (0 : Int) ≤ (p : Int) + 1 := by omega
          have k4 : ((p : Int) + 1).toNat = p + 1 := by omega
          have hS : Below w2.heap.size w2 wr.drew := bx.drew
          have hzx := bx.size
          have hlx : pre.length + [dn].length ≤ 1099511627776 := by rw [hpl.out]; have := hp.out; simp; omega
          go_wp2_with fail
          refine wp_region_S (fun w' => Below w2.heap.size w2 w') (by kernel_rfl) ?_
          refine wpAnyS_take (i := 0) (v := ?_) hS (some 23) rfl rfl (by kernel_rfl) (by kernel_rfl) (by kernel_rfl) (fun _ _ _ h => h) ?_ ?_
          rotate_left 1
          · (refine Or.inl ⟨by rfl, ?_⟩; intro w' hw'; (try go_simp); (try rfl); done)
          try simp only [Act.put, List.setIfInBounds_toArray, List.set_cons_zero, List.set_cons_succ]
          refine wpAnyS_take (i := 1) (v := ?_) hS (some 24) rfl rfl (by kernel_rfl) (by kernel_rfl) (by kernel_rfl) (fun _ _ _ h => h) ?_ ?_
          rotate_left 1
          · (refine Or.inl ⟨by rfl, ?_⟩; intro w' hw'; (try go_simp); (try rfl); done)
          try simp only [Act.put, List.setIfInBounds_toArray, List.set_cons_zero, List.set_cons_succ]
          refine wpAnyS_take (i := 2) (v := ?_) hS (some 25) rfl rfl (by kernel_rfl) (by kernel_rfl) (by kernel_rfl) (fun _ _ _ h => h) ?_ ?_
          rotate_left 1
          · (refine Or.inl ⟨by rfl, ?_⟩; intro w' hw'; (try go_simp); (try rfl); done)
          try simp only [Act.put, List.setIfInBounds_toArray, List.set_cons_zero, List.set_cons_succ]
          refine wpAnyS_take (i := 3) (v := ?_) hS (some 26) rfl rfl (by kernel_rfl) (by kernel_rfl) (by kernel_rfl) (fun _ _ _ h => h) ?_ ?_
          rotate_left 1
          · (refine Or.inl ⟨by rfl, ?_⟩; intro w' hw'; (try go_simp); (try rfl); done)
          try simp only [Act.put, List.setIfInBounds_toArray, List.set_cons_zero, List.set_cons_succ]
          refine wpAnyS_take (i := 4) (v := ?_) hS (some 27) rfl rfl (by kernel_rfl) (by kernel_rfl) (by kernel_rfl) (fun _ _ _ h => h) ?_ ?_
          rotate_left 1
          · (refine Or.inl ⟨by rfl, ?_⟩; intro w' hw'; (refine arr_dg.exAt (r1 _ hw') hd1 (.tmp 26) ?_ ?_ <;> rfl))
          try simp only [Act.put, List.setIfInBounds_toArray, List.set_cons_zero, List.set_cons_succ]
          refine wpAnyS_take (i := 5) (v := ?_) hS (some 28) rfl rfl (by kernel_rfl) (by kernel_rfl) (by kernel_rfl) (fun _ _ _ h => h) ?_ ?_
          rotate_left 1
          · (refine Or.inl ⟨by rfl, ?_⟩; intro w' hw'; (try go_simp); (try rfl); done)
          try simp only [Act.put, List.setIfInBounds_toArray, List.set_cons_zero, List.set_cons_succ]
          refine wpAnyS_take (i := 6) (v := ?_) hS (some 29) rfl rfl (by kernel_rfl) (by kernel_rfl) (by kernel_rfl) (fun _ _ _ h => h) ?_ ?_
          rotate_left 1
          · (refine Or.inl ⟨by rfl, ?_⟩; intro w' hw'; (try go_simp); (try rfl); done)
          try simp only [Act.put, List.setIfInBounds_toArray, List.set_cons_zero, List.set_cons_succ]
          refine wpAnyS_take (i := 7) (v := ?_) hS (some 30) rfl rfl (by kernel_rfl) (by kernel_rfl) (by kernel_rfl) (fun _ _ _ h => h) ?_ ?_
          rotate_left 1
          · (refine Or.inl ⟨by rfl, ?_⟩; intro w' hw'; (try go_simp); (try rfl); done)
          try simp only [Act.put, List.setIfInBounds_toArray, List.set_cons_zero, List.set_cons_succ]
          refine wpAnyS_take (i := 8) (v := ?_) hS (some 31) rfl rfl (by kernel_rfl) (by kernel_rfl) (by kernel_rfl) (fun _ _ _ h => h) ?_ ?_
          rotate_left 1
          · (refine Or.inl ⟨by rfl, ?_⟩; intro w' hw'; (try go_simp); (try rfl); done)
          try simp only [Act.put, List.setIfInBounds_toArray, List.set_cons_zero, List.set_cons_succ]
          refine wpAnyS_take (i := 9) (v := ?_) hS (some 32) rfl rfl (by kernel_rfl) (by kernel_rfl) (by kernel_rfl) (fun _ _ _ h => h) ?_ ?_
          rotate_left 1
          · (refine Or.inl ⟨by rfl, ?_⟩; intro w' hw'; (refine arr_dg.exAt (r2 _ hw') hd2 (.tmp 31) ?_ ?_ <;> rfl))
          try simp only [Act.put, List.setIfInBounds_toArray, List.set_cons_zero, List.set_cons_succ]
          refine wpAnyS_one (i := 10) rfl (by kernel_rfl) (by rfl) (fun K hK => ?_)
          go_simp
          (with_reducible refine (hnd _).mono ?_); rintro e w5 ⟨rfl, b5⟩
          have hb := Below.trans hS (b5.mono hS.size)
          have ho5 := OwD.below (w := wr.drew) hox b5
          refine hK.out _ _ hb ?_
          replace hS := hb
          clear hK K hb
          try simp only [Act.put, List.setIfInBounds_toArray, List.set_cons_zero, List.set_cons_succ]
          refine wpAnyS_one (i := 11) rfl (by kernel_rfl) (by rfl) (fun K hK => ?_)
          refine wp_bD hnl _ rfl rfl ?_
          have e6 := ext_alloc w5 (.cells (bs dn).toArray 25 (0, 0))
          have ho6 := ho5.below e6
          have s6 := slD_one w5 dn 25 hnl
          have hb := Below.trans hS (e6.mono hS.size)
          have z6 := hb.size
          refine hK.out _ _ hb ?_
          replace hS := hb
          clear hK K hb
          try simp only [Act.put, List.setIfInBounds_toArray, List.set_cons_zero, List.set_cons_succ]
          refine wpAnyS_one (i := 12) rfl (by kernel_rfl) (by rfl) (fun K hK => ?_)
          refine wp_apD (B := w2.heap.size) _ _ rfl rfl ho6 rfl s6 (by simp) hlx z6 ?_
          intro v7 w7 h7 _ b7
          have hb := Below.trans hS b7
          refine hK.out _ _ hb ?_
          replace hS := hb
          clear hK K hb
          try simp only [Act.put, List.setIfInBounds_toArray, List.set_cons_zero, List.set_cons_succ]
          refine wpAnyS_take (i := 13) (v := ?_) hS (some 5) rfl rfl (by kernel_rfl) (by kernel_rfl) (by kernel_rfl) (fun _ _ _ h => h) ?_ ?_
          rotate_left 1
          · (refine Or.inl ⟨by rfl, ?_⟩; intro w' hw'; (try go_simp); (try rfl); done)
          try simp only [Act.put, List.setIfInBounds_toArray, List.set_cons_zero, List.set_cons_succ]
          refine wpAnyS_done (by kernel_rfl) ?_ _
          rw [← hps.out] at h7
          clear r1 r2 hnd ho5 ho6 s6 e6 b5 b7 hox
          go_wp2_with fail
          go_roundw
          case rel => exact ⟨j + 1, p + 2, by have := hp.out; unfold Hid; omega, by omega, by go_num, h7, hS⟩
          case measure => simp [intOf]; omega
        · have hj2 : j = row.length / 2 := by have := hp.out; omega
          go_wp2_with fail
          go_roundw
          case rel =>
            have hrow' : prs row j = levN ds (i + 1) := by rw [hs.out, hj2]; rfl
            rw [hrow'] at hox
            exact ⟨i + 1, w2.heap.size, vs ++ [.slice (some ⟨g, 0, none⟩) row.length c], by omega, owL_at hol2 bx, hrw3.below bx, hox, hnew, hz2, bx.size, Below.trans bw2 (bx.mono hz2)⟩
          case measure =>
            rw [owD_lenV hox, prs_length]
            simp only [lenV]; omega
    · obtain rfl : i = lvl ds.length := by omega
      have hz : (levN ds (lvl ds.length)).length = 0 := by omega
      rw [lvls_all] at hrw
      obtain ⟨⟨A, c, rfl, _⟩, _⟩ := hrow.sl
      rw [hz]
      go_wp2_with fail
      go_ret
      exact ⟨_, vs, rfl, hol, hrw, bw⟩
end Go.Proofs.Ytidgomppehhkgaa
