/- The hash of parts (walk of package sign's inner function). -/
import Derived.Test.YtpdkonkgkjkkmaaSg
set_option linter.unusedVariables false
set_option linter.unusedSimpArgs false
namespace Go.Proofs.Ytpdkonkgkjkkmaa
open Go.RowKit

theorem sl_new (w : World) (cs : List Value) (t : TypeId) (n : Nat) (hn : cs.length = n) (hm : n ≤ 1099511627776) : Sl (w.alloc (.cells cs.toArray t)) (.slice (some ⟨w.heap.size, 0, none⟩) n n) n cs :=
  ⟨_, _, rfl, Nat.le_refl _, by omega, by simp, rc_new _ _ _⟩
set_option maxHeartbeats 1000000 in
theorem hash_any (v : Value) (ps : List (Value × List UInt8)) (w : World) (hv : Sl w v ps.length (ps.map (·.1))) (hp : ∀ p ∈ ps, SlB w p.1 p.2) (hlen : (ps.flatMap (·.2)).length ≤ 1099511627776) :
    Calls Try.prog 22 #[v] w fun e w' => e = .returned (dg (sha (ps.flatMap (·.2)))) ∧ Below w.heap.size w w' := by
  have hr0 : RowT 35 (w.alloc (.cells (bs zer).toArray 35 (0, 0))) w.heap.size zer := heap_alloc_new _ _
  have b0 := ext_alloc w (.cells (bs zer).toArray 35 (0, 0))
  have z0 := size_alloc w (.cells (bs zer).toArray 35 (0, 0))
  obtain ⟨A, c, rfl, hc, hcm, hA, hrr⟩ := hv
  go_enter Try.func22, Try.ntmps22
  go_wp2_with fail
  refine (new_any _).mono ?_
  rintro e w1 ⟨x, rfl, hx, hs1, b1⟩
  have hx' : w.heap.size + 1 ≤ x := by rw [← z0]; exact hx
  have r1 := hr0.below b1
  have bw1 := Ext.trans b0 b1
  clear hr0 b0 b1 z0 hx
  go_wp2_with fail
  go_loopw [9] (fun i wr => ∃ k : Nat, k ≤ ps.length ∧ i = .int .i64 k ∧ St wr x ((ps.take k).flatMap (·.2)) ∧ RowT 35 wr w.heap.size zer ∧ Below w.heap.size w wr) (fun i _ => ps.length - (intOf i).toNat)
  case atStart => exact ⟨0, by omega, rfl, hs1, r1, bw1⟩
  case round =>
    clear hs1 r1 bw1
    obtain ⟨k, hk, rfl, hs, hr, bw⟩ := hrel
    have zx := hs.lt
    by_cases hlt : k < ps.length
    · have hcs : (ps.map (·.1))[k]? = some (ps[k]).1 := by simp [hlt]
      obtain ⟨ad, rfl, hcell⟩ := (hrr.below' bw) k _ hcs
      have hsl := hp (ps[k]) (List.getElem_mem hlt)
      have htk : (ps.take (k + 1)).flatMap (·.2) = (ps.take k).flatMap (·.2) ++ (ps[k]).2 := by
        rw [List.take_succ_eq_append_getElem hlt, List.flatMap_append]; simp
      have hle : ((ps.take k).flatMap (·.2)).length + (ps[k]).2.length ≤ 1099511627776 := by
        rw [← List.length_append, ← htk]
        have : ((ps.take (k + 1)).flatMap (·.2) ++ (ps.drop (k + 1)).flatMap (·.2)) = ps.flatMap (·.2) := by rw [← List.flatMap_append, List.take_append_drop]
        rw [← this, List.length_append] at hlen; omega
      have hap := fun hne => apart_lt hsl hne (show w.heap.size ≤ x by omega)
      have hsl2 := hsl.below bw
      generalize ps[k] = p at hcell hsl2 htk hle hap
      obtain ⟨pv, pb⟩ := p
      simp only at hcell hsl2 htk hle hap
      go_wp2_with fail
      refine (write_any x _ pb _ _ hs hsl2 hap (by omega)).mono ?_
      rintro e w3 ⟨rfl, hs3, g3⟩
      rw [← htk] at hs3
      have r3 : RowT 35 w3 w.heap.size zer := (g3.block _ hr.lt (by intro e; cases e; omega)).trans hr
      have bw3 := below_grown_at bw g3 bw.size (by omega)
      go_wp2_with fail
      go_roundw
      case rel => exact ⟨k + 1, by omega, by go_num, hs3, r3, bw3⟩
      case measure => simp [intOf]; omega
    · obtain rfl : k = ps.length := by omega
      rw [List.take_length] at hs
      go_wp2_with fail
      refine (sumSt_any x _ _ hs hlen).mono ?_
      rintro e w3 ⟨rfl, b3⟩
      have r3 := hr.below b3
      have hdl : (sha (ps.flatMap (·.2))).length = 32 := sha_length _
      generalize hsd : sha (ps.flatMap (·.2)) = dd at hdl
      replace hsd : Hid _ := hsd
      have hret := arr_dg.loadVar (r3.setRow dd) hdl
      have bw3 := below_setRow (bw.trans (b3.mono bw.size)) (Nat.le_refl _) (bs dd).toArray
      go_wp2_with (refine arr_dg.storeL r3 zer_length rfl hdl _ _ rfl rfl rfl ?_)
      exact ret_cell (v := dg dd) Try.results22 rfl hret rfl ⟨by rw [hsd.out], bw3⟩


/-- Bytes copied into an array that lies in memory. -/
theorem copy_into {t : TypeId} {w : World} {B : Nat} {zs us : List UInt8} (h : RowT t w B zs) (off n m : Nat) {ad : Addr} {c cap : Nat} (hu : RdB w (some ad) us) (hm : m = us.length) (hn : n = zs.length - off) (ho : off + us.length ≤ zs.length) (hc : n ≤ cap) :
    (Builtin.copy_ #[23, 23] 3 #[.slice (some ⟨B, off, none⟩) n cap, .slice (some ad) m c]).run Try.prog w = .ok (.int .i64 (m : Int)) (w.setRow B (bs (put zs off us)).toArray) := by
  subst hm hn
  have := run_copy_row (P := Try.prog) w 23 23 3 5 B off (zs.length - off) cap ad us.length c (bs zs).toArray t (bs us)
    Try.underlying23 (by kernel_rfl) h (by rw [bs_length]; exact (Nat.min_eq_left (by omega)).symm) hu.some_ (by rw [bs_length, List.size_toArray, bs_length]; omega) (bs_one _)
  rw [this, bs_length]
  have e : (bs (put zs off us)).toArray = (((bs zs).toArray.toList.take off) ++ bs us ++ ((bs zs).toArray.toList.drop (off + us.length))).toArray := by
    unfold put; rw [bs_append, bs_append, bs_take, bs_drop]
  rw [e]; rfl
end Go.Proofs.Ytpdkonkgkjkkmaa
