/- The law RangesPlays (walk). -/
import Derived.Test.YtcaaeimcieooiaaRngS
import Derived.Test.YtcaaeimcieooiaaRngT
import Derived.Test.YtcaaeimcieooiaaOpL
set_option linter.unusedVariables false
set_option linter.unusedSimpArgs false
set_option maxRecDepth 10000
namespace Go.Proofs.Ytcaaeimcieooiaa
open Go.RowKit
attribute [local go_sem high] dg_cells guard_dg

/-- What stands between two acts. -/
structure PlayR (w wr : World) (p q n : Nat) (v v2 : Value) (ds : List (List UInt8)) : Prop where
  r : RgH w.heap.size wr p n v ds
  s : RrH w.heap.size wr q n v2 (partsN n ds)
  b : Below w.heap.size w wr
theorem PlayR.ext {w wr wx : World} {p q n : Nat} {v v2 : Value} {ds : List (List UInt8)} (h : PlayR w wr p q n v v2 ds) (e : Ext wr wx) : PlayR w wx p q n v v2 ds := ⟨h.r.below e, h.s.below e, h.b.trans (e.mono h.b.size)⟩
def one1 : List UInt8 := 1 :: List.replicate 31 0
theorem act_rc {w : World} {A : Option Addr} {n c : Nat} {R : List Value → ActR → Prop} {css : List (List Value)} {zs : List ActR} (hl : ListAt 35 R css zs) (hv : Sl w (.slice A n c) n css.flatten) {i : Nat} (hi : i < css.length) : ∃ ad, A = some ad ∧ Rc w (some (ad.add (i * 35))) css[i] := by
  obtain ⟨A', c', e, _, _, hA, hr⟩ := hv
  injection e with e1 e2 e3
  subst e1
  have hfl := flatten_length css hl.each
  cases A with
  | none =>
    have := hr.none_
    have hl0 : css.flatten.length = 0 := by rw [this]; rfl
    rw [hfl] at hl0; omega
  | some ad =>
    refine ⟨ad, rfl, ?_⟩
    have ht := (hr.drop (i * 35)).take 35
    have hci := hl.each _ (List.getElem_mem hi)
    have e : (css.flatten.drop (i * 35)).take 35 = css[i] := by
      apply List.ext_getElem?
      intro j
      rw [List.getElem?_take]
      split
      · rename_i hj
        rw [List.getElem?_drop, flatten_get (by decide) css hl.each, show (i * 35 + j) / 35 = i by omega, show (i * 35 + j) % 35 = j by omega, List.getElem?_eq_getElem hi]
        rfl
      · rw [List.getElem?_eq_none (by omega)]
    rw [e] at ht; exact ht
theorem sl_oneD {w : World} {v : Value} {ds : List (List UInt8)} (h : SlD w v ds) : v.oneCell' = true := by
  obtain ⟨⟨A, c, rfl, _⟩, _⟩ := h
  rfl
set_option maxHeartbeats 16000000 in
theorem law_RangesPlays (v0 : Value) (w : World) (css : List (List Value)) (zs : List ActR) (hl : ListAt 35 (ActC w) css zs) (hv : Sl w v0 zs.length css.flatten) (hsum : (zs.map fun a => a.ps.length + 1).sum ≤ 1048576) :
    Calls Try.prog 3 #[v0] w fun e w' => e = .returned (.bool true) ∧ Below w.heap.size w w' := by
  obtain ⟨A0, c0, rfl, hc0, hcm0, hA0, hr0⟩ := id hv
  have hzl : zs.length ≤ 1048576 := by
    have : zs.length ≤ (zs.map fun a => a.ps.length + 1).sum := by
      clear hv hl hr0 hc0 hsum
      induction zs with
      | nil => simp
      | cons a l ih => simp only [List.map_cons, List.sum_cons, List.length_cons]; omega
    omega
  go_enter Try.func3, Try.ntmps3
  go_wp2_with fail
  refine (rg_new w).mono ?_; rintro e w1 ⟨p, rfl, hr, b1⟩
  go_wp2_with fail
  refine (rr_new w1).mono ?_; rintro e w2 ⟨q, rfl, hs, b2⟩
  go_wp2_with fail
  refine (wakes_any w2).mono ?_; rintro e w3 ⟨rfl, b3⟩
  have hP : PlayR w w3 p q 0 _ _ [] := ⟨(hr.below b2).below b3, (show RrH w.heap.size w2 q 0 (.slice none 0 0) (partsN 0 []) from ⟨hs.at_, hs.own.mono b1.size, Nat.le_trans b1.size hs.ge⟩).below b3, Ext.trans b1 (Ext.trans b2 b3)⟩
  clear hr hs b1 b2 b3
  go_wp2_with fail
  go_loopw [3, 4, 5] (fun s3 s4 s5 wr => ∃ (i p q n : Nat) (v v2 : Value) (ds : List (List UInt8)), i ≤ zs.length ∧ s3 = ptr p ∧ s4 = ptr q ∧ s5 = .int .i64 (i : Int) ∧ PlayR w wr p q n v v2 ds) (fun _ _ s5 _ => zs.length - (intOf s5).toNat)
  case atStart => exact ⟨0, p, q, 0, _, _, [], Nat.zero_le _, rfl, rfl, rfl, hP⟩
  case round =>
    obtain ⟨i, p', q', n, v, v2, ds, hi, rfl, rfl, rfl, hR⟩ := hrel
    clear hP
    by_cases hlt : i < zs.length
    · have hci : i < css.length := by rw [hl.len]; exact hlt
      obtain ⟨vp, hcs, hd, hps, hw1, hw2⟩ := hl.rel i css[i] zs[i] (List.getElem?_eq_getElem hci) (List.getElem?_eq_getElem hlt)
      obtain ⟨ad, rfl, hrc⟩ := act_rc hl hv hci
      obtain ⟨_, ead, hrcw⟩ := act_rc hl (hv.below hR.b) hci
      cases ead
      rw [hcs] at hrcw
      have hpl : zs[i].ps.length ≤ 1048576 := by
        have h1 : zs[i].ps.length + 1 ≤ (zs.map fun a => a.ps.length + 1).sum := by
          have : ∀ (l : List ActR) (a : ActR), a ∈ l → a.ps.length + 1 ≤ (l.map fun a => a.ps.length + 1).sum := by
            intro l
            induction l with
            | nil => intro a h; cases h
            | cons b l ih =>
              intro a h
              rw [List.map_cons, List.sum_cons]
              rcases List.mem_cons.1 h with rfl | h
              · omega
              · have := ih a h; omega
          exact this zs _ (List.getElem_mem hlt)
        omega
      generalize zs[i].what = what at *
      generalize zs[i].d = d at *
      generalize zs[i].ps = ps at *
      generalize zs[i].size = size at *
      have hone := sl_oneD hps
      have hi1 : (i : Int) < zs.length := by omega
      have hi0 : (0 : Int) ≤ i := by omega
      have e1 := ext_alloc wr (.cells (actC what d vp size).toArray 33 (0, 0))
      have hA : RowA (wr.alloc (.cells (actC what d vp size).toArray 33 (0, 0))) wr.heap.size what d vp size := heap_alloc_new _ _
      have hR1 := hR.ext e1
      clear hcs hrc hci hR
      go_upto_region 8 with (first
        | ((with_reducible refine at_load ?_); refine wpl_loadA hrcw hd rfl _ rfl rfl ?_)
        | ((with_reducible refine at_store ?_); refine wpl_storeA hd hone rfl _ _ rfl rfl rfl ?_)
        | fail)
      generalize hD : wr.heap.size = D at *
      generalize hW : wr.alloc (.cells (actC what d vp size).toArray 33 (0, 0)) = W at *
      have hw0 := hA.w0
      have hwt := hA.tail hd
      rename PlayR w W p' q' n v v2 ds => hR
      have hdl := hR.r.len
      clear e1 hone hW hD
      by_cases k0 : what = 0
      · subst k0
        -- DEV
        have hdg := hA.dig hd
        by_cases hn : n < 1048576
        · go_wp2_with (first
            | ((with_reducible refine at_load ?_); refine arr_dg.loadAtL hdg (by rfl) hd _ rfl rfl ?_)
            | fail)
          refine (rg_add hR.r hR.b.size hn d hd).mono ?_; rintro e w5 ⟨u, v', rfl, hu, hr5, bu5, dj5⟩
          have hs5 := hR.s.but bu5 (fun h => hR.r.ne hR.s _ h (.inl rfl)) (fun k hk h => hR.r.ne hR.s k h (.inr hk))
          have hA5 := hA.but bu5 (hR.r.neA hA)
          have hdg5 := hA5.dig hd
          have b5 : Below w.heap.size w w5 := hR.b.trans (bu5.below hR.b.size (fun k hk h => by have := hR.r.blk k h; omega))
          have z5 := bu5.size
          have hpop := hR.r.pop
          go_wp2_with (first
            | ((with_reducible refine at_load ?_); refine arr_dg.loadAtL hdg5 (by rfl) hd _ rfl rfl ?_)
            | fail)
          refine (rr_add hs5 b5.size hn hpop d hd).mono ?_; rintro e w6 ⟨u2, v2', rfl, hu2, hs6, bu6⟩
          have hr6 := hr5.but bu6 (fun h => hr5.ne hs5 _ (.inl rfl) h) (fun k hk h => hr5.ne hs5 k (.inr hk) h)
          have hu6 := hu.but bu6 (fun k hk => hs5.neD hu k hk)
          have b6 : Below w.heap.size w w6 := b5.trans (bu6.below b5.size (fun k hk h => by rcases h with h | h; (· have := hs5.ge; omega); (· have := (hs5.own.lt k h).1; omega)))
          have htl := told_le n ds d
          go_wp2_with fail
          refine (same_any u u2 _ w6 (by omega) hu6.sl hu2.sl).mono ?_; rintro e w7 ⟨rfl, b7'⟩
          have hr7 := hr6.below b7'
          have hs7 := hs6.below b7'
          have hu7 := hu6.below b7'
          have b7 := Ext.trans b6 b7'
          obtain ⟨g, c, rfl, hgB, hgl⟩ := hu7.some htl.1
          have hX : XrR w.heap.size w7 g (toldN n ds d).length c := XrR.of (hu7.mono hR.b.size)
          have hgr : ¬ RgB p' v' g := fun h => by
            rcases h with h | h
            · have h1 := hr7.at_.ne_own hu7
              rw [h] at h1; exact h1 rfl
            · exact (dj5 g h).2 rfl
          have hgs : ¬ RgB q' v2' g := hs7.neD hu7 g rfl
          have hgw : w.heap.size ≤ g := Nat.le_trans hR.b.size hgB
          generalize hm : (toldN n ds d).length = m at *
          replace hm : Hid _ := hm
          clear hu hu2 hu6 hu7 hr5 hs5 hr6 hs6 hdg hdg5 bu5 bu6 b5 b6 b7' hA hA5 hR hpop hl hv hps hrcw
          go_wp2_with fail
          go_loopw [12] (fun sk wr => ∃ k : Nat, k ≤ m ∧ sk = .int .i64 (k : Int) ∧ XrR w.heap.size wr g m c ∧ But (fun j => j = g) w7 wr) (fun sk _ => m - (intOf sk).toNat)
          case atStart => exact ⟨0, Nat.zero_le _, rfl, hX, But.refl _ _⟩
          case round =>
            obtain ⟨k, hk, rfl, hXr, hbX⟩ := hrel
            by_cases hkm : k < m
            · obtain ⟨b, hcb, hfb, hset⟩ := hXr.cell hkm
              have hk1 : (k : Int) < m := by omega
              have hk0 : (0 : Int) ≤ k := by omega
              have hx1 := xor1 b
              have hcur : Below wr.heap.size wr wr := Below.refl _ _
              have e0 := Ext.refl wr
              have hbl := World.block_lt_of_cell? _ _ hcb
              have fcb := fun (w' : World) (hw : Ext wr w') => (hw.cell (p := ⟨g, k * 32, none⟩) hbl).trans hcb
              have hbX2 := (hbX.setCell (p := ⟨g, k * 32, none⟩) rfl (.int .u8 (c8 (b ^^^ 1)))).drew
              have hset2 := (hset (b ^^^ 1)).ext (ext_drew _)
              go_wp2_with fail
              refine wp_region_F 8 (by kernel_rfl) (fun hcl => ?_)
              replace hcur := below_via hcur (ext_drew _)
              replace e0 := Ext.trans e0 (ext_drew _)
              refine wpAnyF_take (fin := 8) (i := 0) (v := ?_) hcl (some 83) rfl rfl (by kernel_rfl) (by kernel_rfl) (by kernel_rfl) (fun _ _ _ h => h) (by kernel_rfl) ?_ (fun hcl => ?_)
              rotate_left 1
              · (refine Or.inl ⟨by rfl, ?_⟩; intro w' hw'; have hq := below_via hcur hw'; have hq_e0 := Ext.trans e0 hw'; (try go_simp); (try rfl); done)
              try simp only [Act.put, List.setIfInBounds_toArray, List.set_cons_zero, List.set_cons_succ]
              refine wpAnyF_take (fin := 8) (i := 1) (v := ?_) hcl (some 84) rfl rfl (by kernel_rfl) (by kernel_rfl) (by kernel_rfl) (fun _ _ _ h => h) (by kernel_rfl) ?_ (fun hcl => ?_)
              rotate_left 1
              · (refine Or.inl ⟨by rfl, ?_⟩; intro w' hw'; have hq := below_via hcur hw'; have hq_e0 := Ext.trans e0 hw'; (try go_simp); (try rfl); done)
              try simp only [Act.put, List.setIfInBounds_toArray, List.set_cons_zero, List.set_cons_succ]
              refine wpAnyF_take (fin := 8) (i := 2) (v := ?_) hcl (some 85) rfl rfl (by kernel_rfl) (by kernel_rfl) (by kernel_rfl) (fun _ _ _ h => h) (by kernel_rfl) ?_ (fun hcl => ?_)
              rotate_left 1
              · (refine Or.inl ⟨by rfl, ?_⟩; intro w' hw'; have hq := below_via hcur hw'; have hq_e0 := Ext.trans e0 hw'; (try go_simp); (try rfl); done)
              try simp only [Act.put, List.setIfInBounds_toArray, List.set_cons_zero, List.set_cons_succ]
              refine wpAnyF_take (fin := 8) (i := 3) (v := ?_) hcl (some 86) rfl rfl (by kernel_rfl) (by kernel_rfl) (by kernel_rfl) (fun _ _ _ h => h) (by kernel_rfl) ?_ (fun hcl => ?_)
              rotate_left 1
              · (refine Or.inl ⟨by rfl, ?_⟩; intro w' hw'; have hq := below_via hcur hw'; have hq_e0 := Ext.trans e0 hw'; (try go_simp); (try rfl); done)
              try simp only [Act.put, List.setIfInBounds_toArray, List.set_cons_zero, List.set_cons_succ]
              refine wpAnyF_take (fin := 8) (i := 4) (v := ?_) hcl (some 87) rfl rfl (by kernel_rfl) (by kernel_rfl) (by kernel_rfl) (fun _ _ _ h => h) (by kernel_rfl) ?_ (fun hcl => ?_)
              rotate_left 1
              · (refine Or.inl ⟨by rfl, ?_⟩; intro w' hw'; have hq := below_via hcur hw'; have hq_e0 := Ext.trans e0 hw'; have hcl := fcb _ hq_e0; (try go_simp); (try rfl); done)
              try simp only [Act.put, List.setIfInBounds_toArray, List.set_cons_zero, List.set_cons_succ]
              refine wpAnyF_take (fin := 8) (i := 5) (v := ?_) hcl (some 88) rfl rfl (by kernel_rfl) (by kernel_rfl) (by kernel_rfl) (fun _ _ _ h => h) (by kernel_rfl) ?_ (fun hcl => ?_)
              rotate_left 1
              · (refine Or.inl ⟨by rfl, ?_⟩; intro w' hw'; have hq := below_via hcur hw'; have hq_e0 := Ext.trans e0 hw'; (try go_simp); (try rfl); done)
              try simp only [Act.put, List.setIfInBounds_toArray, List.set_cons_zero, List.set_cons_succ]
              refine wpAnyF_take (fin := 8) (i := 6) (v := ?_) hcl (some 89) rfl rfl (by kernel_rfl) (by kernel_rfl) (by kernel_rfl) (fun _ _ _ h => h) (by kernel_rfl) ?_ (fun hcl => ?_)
              rotate_left 1
              · (refine Or.inl ⟨by rfl, ?_⟩; intro w' hw'; have hq := below_via hcur hw'; have hq_e0 := Ext.trans e0 hw'; (try go_simp); (try rfl); done)
              try simp only [Act.put, List.setIfInBounds_toArray, List.set_cons_zero, List.set_cons_succ]
              refine wpAnyF_take (fin := 8) (i := 7) (v := ?_) hcl (some 90) rfl rfl (by kernel_rfl) (by kernel_rfl) (by kernel_rfl) (fun _ _ _ h => h) (by kernel_rfl) ?_ (fun hcl => ?_)
              rotate_left 1
              · (refine Or.inl ⟨by rfl, ?_⟩; intro w' hw'; have hq := below_via hcur hw'; have hq_e0 := Ext.trans e0 hw'; (try go_simp); (try rfl); done)
              try simp only [Act.put, List.setIfInBounds_toArray, List.set_cons_zero, List.set_cons_succ]
              refine wpAnyF_last (fin := 8) rfl (by kernel_rfl) (by kernel_rfl) (by rfl) (fun K hK => ?_)
              have hcl := fcb _ e0
              have hfz : wr.drew.frozen? ⟨g, k * 32, none⟩ = false := hfb
              go_simp
              refine hK.out _ _ ?_
              clear hK K hcl
              go_wp2_with fail
              go_roundw
              case rel => exact ⟨k + 1, by omega, by go_num, hset2, hbX2⟩
              case measure => simp [intOf]; omega
            · obtain rfl : k = m := by omega
              have hR8 : PlayR w wr p' q' (n + 1) v' v2' (nextN n ds d) := ⟨hr7.but hbX (fun e => hgr (e ▸ .inl rfl)) (fun j hj e => hgr (e ▸ .inr hj)), hs7.but hbX (fun e => hgs (e ▸ .inl rfl)) (fun j hj e => hgs (e ▸ .inr hj)), Below.trans b7 (hbX.below b7.size (fun j hj e => by omega))⟩
              clear hX hXr hbX hr7 hs7
              go_wp2_with fail
              refine (alike_any hR8.r hR8.s).mono ?_; rintro e w90 ⟨rfl, b90⟩
              go_wp2_with fail
              go_roundw
              case rel => exact ⟨i + 1, p', q', n + 1, v', v2', nextN n ds d, by omega, rfl, rfl, by go_num, hR8.ext b90⟩
              case measure => simp [intOf]; omega

        · have hn1 : Hid (n = 1048576) := by have := hR.r.le; unfold Hid; omega
          go_wp2_with (first
            | ((with_reducible refine at_load ?_); refine arr_dg.loadAtL hdg (by rfl) hd _ rfl rfl ?_)
            | fail)
          refine (add_full hR.r.at_ hn1.out d).mono ?_; rintro e w5 ⟨rfl, b5'⟩
          have hdg5 := (hA.below b5').dig hd
          have hR5 := hR.ext b5'
          clear hdg
          go_wp2_with (first
            | ((with_reducible refine at_load ?_); refine arr_dg.loadAtL hdg5 (by rfl) hd _ rfl rfl ?_)
            | fail)
          refine (rr_add_full hR5.s.at_ hn1.out d).mono ?_; rintro e w6 ⟨rfl, b6'⟩
          have hR6 := hR5.ext b6'
          go_wp2_with fail
          refine (same_any _ _ [] w6 (by simp) (slD_nil w6) (slD_nil w6)).mono ?_; rintro e w7 ⟨rfl, b7'⟩
          have hR7 := hR6.ext b7'
          clear hR5 hR6 hR hA hw0 hwt hdg5 b5' b6' b7'
          go_wp2_with fail
          go_loopw [12] (fun sk wr => sk = .int .i64 0 ∧ wr = w7) (fun _ _ => 0)
          case atStart => exact ⟨rfl, rfl⟩
          case round =>
            obtain ⟨rfl, rfl⟩ := hrel
            go_wp2_with fail
            refine (alike_any hR7.r hR7.s).mono ?_; rintro e w90 ⟨rfl, b90⟩
            go_wp2_with fail
            go_roundw
            case rel => exact ⟨i + 1, p', q', n, v, v2, ds, by omega, rfl, rfl, by go_num, hR7.ext b90⟩
            case measure => simp [intOf]; omega

        -- /DEV
      · by_cases k1 : what = 1
        · subst k1
          go_wp2_with fail
          refine (rg_copy hR.r).mono ?_; rintro e w4 ⟨p2, vN, rfl, hr4, b4⟩
          have hRc := hR.ext b4
          have hAc := hA.below b4
          have hlo : ∀ k, RgB p' v k → k < W.heap.size := fun k h => by rcases h with rfl | h; (· exact hR.r.lt); (· exact (hR.r.own.lt k h).2)
          have hr4' : RgH w.heap.size w4 p2 n vN ds := ⟨hr4.at_, hr4.own.mono hR.b.size, Nat.le_trans hR.b.size hr4.ge, hr4.le, hr4.pop⟩
          have hne1 : ¬ RgB p' v p2 := fun h => by have := hlo _ h; have := hr4.ge; omega
          have hne2 : ∀ k, vN.ownBlock = some k → ¬ RgB p' v k := fun k hk h => by have := hlo _ h; have := (hr4.own.lt k hk).1; omega
          go_upto_region 15 with fail
          go_cut [52] (fun s52 wx => PlayR w wx p2 q' n vN v2 ds ∧ RowA wx D 1 d vp size)
          case first =>
            by_cases hn : n < 1048576
            · go_wp2_with fail
              refine (rg_add hRc.r hRc.b.size hn one1 rfl).mono ?_; rintro e w5 ⟨u9, v9, rfl, hu9, hr9, bu9, dj9⟩
              have hX : PlayR w w5 p2 q' n vN v2 ds ∧ RowA w5 D 1 d vp size := ⟨⟨hr4'.but bu9 hne1 hne2, hRc.s.but bu9 (fun h => hRc.r.ne hRc.s _ h (.inl rfl)) (fun k hk h => hRc.r.ne hRc.s k h (.inr hk)), Below.trans hRc.b (bu9.below hRc.b.size (fun k hk h => by have := hRc.r.blk k h; omega))⟩, hAc.but bu9 (hRc.r.neA hAc)⟩
              clear hRc hR hr4 hr4' hA hAc hu9 hr9 bu9 dj9
              go_wp2_with fail
              go_meet
              exact hX
            · have hn1 : Hid (n = 1048576) := by have := hR.r.le; unfold Hid; omega
              go_wp2_with fail
              refine (add_full hRc.r.at_ hn1.out one1).mono ?_; rintro e w5 ⟨rfl, b5'⟩
              have hX : PlayR w w5 p2 q' n vN v2 ds ∧ RowA w5 D 1 d vp size := ⟨⟨hr4'.below b5', hRc.s.below b5', Ext.trans hRc.b b5'⟩, hAc.below b5'⟩
              clear hRc hR hr4 hr4' hA hAc
              go_wp2_with fail
              go_meet
              exact hX
          case rest =>
            obtain ⟨hR2, hA2⟩ := hcut
            clear hRc hR hr4 hr4' hA hAc hw0 hwt hne1 hne2 hlo b4
            rename PlayR w _ p2 q' n vN v2 ds => hR
            rename RowA _ D 1 d vp size => hA
            have hw0 := hA.w0
            have hwt := hA.tail hd
            -- DEV
            have hdg := hA.dig hd
            by_cases hn : n < 1048576
            · go_wp2_with (first
                | ((with_reducible refine at_load ?_); refine arr_dg.loadAtL hdg (by rfl) hd _ rfl rfl ?_)
                | fail)
              refine (rg_add hR.r hR.b.size hn d hd).mono ?_; rintro e w5 ⟨u, v', rfl, hu, hr5, bu5, dj5⟩
              have hs5 := hR.s.but bu5 (fun h => hR.r.ne hR.s _ h (.inl rfl)) (fun k hk h => hR.r.ne hR.s k h (.inr hk))
              have hA5 := hA.but bu5 (hR.r.neA hA)
              have hdg5 := hA5.dig hd
              have b5 : Below w.heap.size w w5 := hR.b.trans (bu5.below hR.b.size (fun k hk h => by have := hR.r.blk k h; omega))
              have z5 := bu5.size
              have hpop := hR.r.pop
              go_wp2_with (first
                | ((with_reducible refine at_load ?_); refine arr_dg.loadAtL hdg5 (by rfl) hd _ rfl rfl ?_)
                | fail)
              refine (rr_add hs5 b5.size hn hpop d hd).mono ?_; rintro e w6 ⟨u2, v2', rfl, hu2, hs6, bu6⟩
              have hr6 := hr5.but bu6 (fun h => hr5.ne hs5 _ (.inl rfl) h) (fun k hk h => hr5.ne hs5 k (.inr hk) h)
              have hu6 := hu.but bu6 (fun k hk => hs5.neD hu k hk)
              have b6 : Below w.heap.size w w6 := b5.trans (bu6.below b5.size (fun k hk h => by rcases h with h | h; (· have := hs5.ge; omega); (· have := (hs5.own.lt k h).1; omega)))
              have htl := told_le n ds d
              go_wp2_with fail
              refine (same_any u u2 _ w6 (by omega) hu6.sl hu2.sl).mono ?_; rintro e w7 ⟨rfl, b7'⟩
              have hr7 := hr6.below b7'
              have hs7 := hs6.below b7'
              have hu7 := hu6.below b7'
              have b7 := Ext.trans b6 b7'
              obtain ⟨g, c, rfl, hgB, hgl⟩ := hu7.some htl.1
              have hX : XrR w.heap.size w7 g (toldN n ds d).length c := XrR.of (hu7.mono hR.b.size)
              have hgr : ¬ RgB p2 v' g := fun h => by
                rcases h with h | h
                · have h1 := hr7.at_.ne_own hu7
                  rw [h] at h1; exact h1 rfl
                · exact (dj5 g h).2 rfl
              have hgs : ¬ RgB q' v2' g := hs7.neD hu7 g rfl
              have hgw : w.heap.size ≤ g := Nat.le_trans hR.b.size hgB
              generalize hm : (toldN n ds d).length = m at *
              replace hm : Hid _ := hm
              clear hu hu2 hu6 hu7 hr5 hs5 hr6 hs6 hdg hdg5 bu5 bu6 b5 b6 b7' hA hA5 hR hpop hl hv hps hrcw
              go_wp2_with fail
              go_loopw [12] (fun sk wr => ∃ k : Nat, k ≤ m ∧ sk = .int .i64 (k : Int) ∧ XrR w.heap.size wr g m c ∧ But (fun j => j = g) w7 wr) (fun sk _ => m - (intOf sk).toNat)
              case atStart => exact ⟨0, Nat.zero_le _, rfl, hX, But.refl _ _⟩
              case round =>
                obtain ⟨k, hk, rfl, hXr, hbX⟩ := hrel
                by_cases hkm : k < m
                · obtain ⟨b, hcb, hfb, hset⟩ := hXr.cell hkm
                  have hk1 : (k : Int) < m := by omega
                  have hk0 : (0 : Int) ≤ k := by omega
                  have hx1 := xor1 b
                  have hcur : Below wr.heap.size wr wr := Below.refl _ _
                  have e0 := Ext.refl wr
                  have hbl := World.block_lt_of_cell? _ _ hcb
                  have fcb := fun (w' : World) (hw : Ext wr w') => (hw.cell (p := ⟨g, k * 32, none⟩) hbl).trans hcb
                  have hbX2 := (hbX.setCell (p := ⟨g, k * 32, none⟩) rfl (.int .u8 (c8 (b ^^^ 1)))).drew
                  have hset2 := (hset (b ^^^ 1)).ext (ext_drew _)
                  go_wp2_with fail
                  refine wp_region_F 8 (by kernel_rfl) (fun hcl => ?_)
                  replace hcur := below_via hcur (ext_drew _)
                  replace e0 := Ext.trans e0 (ext_drew _)
                  refine wpAnyF_take (fin := 8) (i := 0) (v := ?_) hcl (some 83) rfl rfl (by kernel_rfl) (by kernel_rfl) (by kernel_rfl) (fun _ _ _ h => h) (by kernel_rfl) ?_ (fun hcl => ?_)
                  rotate_left 1
                  · (refine Or.inl ⟨by rfl, ?_⟩; intro w' hw'; have hq := below_via hcur hw'; have hq_e0 := Ext.trans e0 hw'; (try go_simp); (try rfl); done)
                  try simp only [Act.put, List.setIfInBounds_toArray, List.set_cons_zero, List.set_cons_succ]
                  refine wpAnyF_take (fin := 8) (i := 1) (v := ?_) hcl (some 84) rfl rfl (by kernel_rfl) (by kernel_rfl) (by kernel_rfl) (fun _ _ _ h => h) (by kernel_rfl) ?_ (fun hcl => ?_)
                  rotate_left 1
                  · (refine Or.inl ⟨by rfl, ?_⟩; intro w' hw'; have hq := below_via hcur hw'; have hq_e0 := Ext.trans e0 hw'; (try go_simp); (try rfl); done)
                  try simp only [Act.put, List.setIfInBounds_toArray, List.set_cons_zero, List.set_cons_succ]
                  refine wpAnyF_take (fin := 8) (i := 2) (v := ?_) hcl (some 85) rfl rfl (by kernel_rfl) (by kernel_rfl) (by kernel_rfl) (fun _ _ _ h => h) (by kernel_rfl) ?_ (fun hcl => ?_)
                  rotate_left 1
                  · (refine Or.inl ⟨by rfl, ?_⟩; intro w' hw'; have hq := below_via hcur hw'; have hq_e0 := Ext.trans e0 hw'; (try go_simp); (try rfl); done)
                  try simp only [Act.put, List.setIfInBounds_toArray, List.set_cons_zero, List.set_cons_succ]
                  refine wpAnyF_take (fin := 8) (i := 3) (v := ?_) hcl (some 86) rfl rfl (by kernel_rfl) (by kernel_rfl) (by kernel_rfl) (fun _ _ _ h => h) (by kernel_rfl) ?_ (fun hcl => ?_)
                  rotate_left 1
                  · (refine Or.inl ⟨by rfl, ?_⟩; intro w' hw'; have hq := below_via hcur hw'; have hq_e0 := Ext.trans e0 hw'; (try go_simp); (try rfl); done)
                  try simp only [Act.put, List.setIfInBounds_toArray, List.set_cons_zero, List.set_cons_succ]
                  refine wpAnyF_take (fin := 8) (i := 4) (v := ?_) hcl (some 87) rfl rfl (by kernel_rfl) (by kernel_rfl) (by kernel_rfl) (fun _ _ _ h => h) (by kernel_rfl) ?_ (fun hcl => ?_)
                  rotate_left 1
                  · (refine Or.inl ⟨by rfl, ?_⟩; intro w' hw'; have hq := below_via hcur hw'; have hq_e0 := Ext.trans e0 hw'; have hcl := fcb _ hq_e0; (try go_simp); (try rfl); done)
                  try simp only [Act.put, List.setIfInBounds_toArray, List.set_cons_zero, List.set_cons_succ]
                  refine wpAnyF_take (fin := 8) (i := 5) (v := ?_) hcl (some 88) rfl rfl (by kernel_rfl) (by kernel_rfl) (by kernel_rfl) (fun _ _ _ h => h) (by kernel_rfl) ?_ (fun hcl => ?_)
                  rotate_left 1
                  · (refine Or.inl ⟨by rfl, ?_⟩; intro w' hw'; have hq := below_via hcur hw'; have hq_e0 := Ext.trans e0 hw'; (try go_simp); (try rfl); done)
                  try simp only [Act.put, List.setIfInBounds_toArray, List.set_cons_zero, List.set_cons_succ]
                  refine wpAnyF_take (fin := 8) (i := 6) (v := ?_) hcl (some 89) rfl rfl (by kernel_rfl) (by kernel_rfl) (by kernel_rfl) (fun _ _ _ h => h) (by kernel_rfl) ?_ (fun hcl => ?_)
                  rotate_left 1
                  · (refine Or.inl ⟨by rfl, ?_⟩; intro w' hw'; have hq := below_via hcur hw'; have hq_e0 := Ext.trans e0 hw'; (try go_simp); (try rfl); done)
                  try simp only [Act.put, List.setIfInBounds_toArray, List.set_cons_zero, List.set_cons_succ]
                  refine wpAnyF_take (fin := 8) (i := 7) (v := ?_) hcl (some 90) rfl rfl (by kernel_rfl) (by kernel_rfl) (by kernel_rfl) (fun _ _ _ h => h) (by kernel_rfl) ?_ (fun hcl => ?_)
                  rotate_left 1
                  · (refine Or.inl ⟨by rfl, ?_⟩; intro w' hw'; have hq := below_via hcur hw'; have hq_e0 := Ext.trans e0 hw'; (try go_simp); (try rfl); done)
                  try simp only [Act.put, List.setIfInBounds_toArray, List.set_cons_zero, List.set_cons_succ]
                  refine wpAnyF_last (fin := 8) rfl (by kernel_rfl) (by kernel_rfl) (by rfl) (fun K hK => ?_)
                  have hcl := fcb _ e0
                  have hfz : wr.drew.frozen? ⟨g, k * 32, none⟩ = false := hfb
                  go_simp
                  refine hK.out _ _ ?_
                  clear hK K hcl
                  go_wp2_with fail
                  go_roundw
                  case rel => exact ⟨k + 1, by omega, by go_num, hset2, hbX2⟩
                  case measure => simp [intOf]; omega
                · obtain rfl : k = m := by omega
                  have hR8 : PlayR w wr p2 q' (n + 1) v' v2' (nextN n ds d) := ⟨hr7.but hbX (fun e => hgr (e ▸ .inl rfl)) (fun j hj e => hgr (e ▸ .inr hj)), hs7.but hbX (fun e => hgs (e ▸ .inl rfl)) (fun j hj e => hgs (e ▸ .inr hj)), Below.trans b7 (hbX.below b7.size (fun j hj e => by omega))⟩
                  clear hX hXr hbX hr7 hs7
                  go_wp2_with fail
                  refine (alike_any hR8.r hR8.s).mono ?_; rintro e w90 ⟨rfl, b90⟩
                  go_wp2_with fail
                  go_roundw
                  case rel => exact ⟨i + 1, p2, q', n + 1, v', v2', nextN n ds d, by omega, rfl, rfl, by go_num, hR8.ext b90⟩
                  case measure => simp [intOf]; omega

            · have hn1 : Hid (n = 1048576) := by have := hR.r.le; unfold Hid; omega
              go_wp2_with (first
                | ((with_reducible refine at_load ?_); refine arr_dg.loadAtL hdg (by rfl) hd _ rfl rfl ?_)
                | fail)
              refine (add_full hR.r.at_ hn1.out d).mono ?_; rintro e w5 ⟨rfl, b5'⟩
              have hdg5 := (hA.below b5').dig hd
              have hR5 := hR.ext b5'
              clear hdg
              go_wp2_with (first
                | ((with_reducible refine at_load ?_); refine arr_dg.loadAtL hdg5 (by rfl) hd _ rfl rfl ?_)
                | fail)
              refine (rr_add_full hR5.s.at_ hn1.out d).mono ?_; rintro e w6 ⟨rfl, b6'⟩
              have hR6 := hR5.ext b6'
              go_wp2_with fail
              refine (same_any _ _ [] w6 (by simp) (slD_nil w6) (slD_nil w6)).mono ?_; rintro e w7 ⟨rfl, b7'⟩
              have hR7 := hR6.ext b7'
              clear hR5 hR6 hR hA hw0 hwt hdg5 b5' b6' b7'
              go_wp2_with fail
              go_loopw [12] (fun sk wr => sk = .int .i64 0 ∧ wr = w7) (fun _ _ => 0)
              case atStart => exact ⟨rfl, rfl⟩
              case round =>
                obtain ⟨rfl, rfl⟩ := hrel
                go_wp2_with fail
                refine (alike_any hR7.r hR7.s).mono ?_; rintro e w90 ⟨rfl, b90⟩
                go_wp2_with fail
                go_roundw
                case rel => exact ⟨i + 1, p2, q', n, vN, v2, ds, by omega, rfl, rfl, by go_num, hR7.ext b90⟩
                case measure => simp [intOf]; omega

            -- /DEV
        · by_cases k2 : what = 2
          · subst k2
            have hpsl2 : ps.length ≤ 2097152 := by omega
            have hS : Ext W W.drew := ext_drew _
            have hlo : ∀ k, RgB p' v k → k < W.heap.size := fun k h => by rcases h with rfl | h; (· exact hR.r.lt); (· exact (hR.r.own.lt k h).2)
            have hpsW := fun w' (h : Ext W w') => hps.below (Below.trans hR.b (h.mono hR.b.size))
            have hAx := fun w' (h : Ext W w') => (hA.below h).tail hd
            have hlen9 : ([] : List (List UInt8)).length + ps.length ≤ 1099511627776 := by rw [List.length_nil]; omega
            go_upto_region 27 with fail
            refine wp_region_L (fun w' => Ext W w') [] (by kernel_rfl) (fun hcl => ?_)
            refine wpAnyL_take (i := 0) (v := ?_) hcl hS (some 94) rfl rfl (by kernel_rfl) (by kernel_rfl) (by kernel_rfl) (fun _ _ _ h => h) (by kernel_rfl) ?_ (fun hcl => ?_)
            rotate_left 1
            · (refine Or.inl ⟨by rfl, ?_⟩; intro w' hw'; (try go_simp); (try rfl); done)
            try simp only [Act.put, List.setIfInBounds_toArray, List.set_cons_zero, List.set_cons_succ]
            refine wpAnyL_take (i := 1) (v := ?_) hcl hS (some 95) rfl rfl (by kernel_rfl) (by kernel_rfl) (by kernel_rfl) (fun _ _ _ h => h) (by kernel_rfl) ?_ (fun hcl => ?_)
            rotate_left 1
            · (refine Or.inl ⟨by rfl, ?_⟩; intro w' hw'; have hcl := (hAx _ hw').1; (try go_simp); (try rfl); done)
            try simp only [Act.put, List.setIfInBounds_toArray, List.set_cons_zero, List.set_cons_succ]
            refine wpAnyL_take (i := 3) (v := ?_) hcl hS (some 97) rfl rfl (by kernel_rfl) (by kernel_rfl) (by kernel_rfl) (fun _ _ _ h => h) (by kernel_rfl) ?_ (fun hcl => ?_)
            rotate_left 1
            · (refine Or.inl ⟨by rfl, ?_⟩; intro w' hw'; (try go_simp); (try rfl); done)
            try simp only [Act.put, List.setIfInBounds_toArray, List.set_cons_zero, List.set_cons_succ]
            refine wpAnyL_take (i := 4) (v := ?_) hcl hS (some 98) rfl rfl (by kernel_rfl) (by kernel_rfl) (by kernel_rfl) (fun _ _ _ h => h) (by kernel_rfl) ?_ (fun hcl => ?_)
            rotate_left 1
            · (refine Or.inl ⟨by rfl, ?_⟩; intro w' hw'; have hcl := (hAx _ hw').2; (try go_simp); (try rfl); done)
            try simp only [Act.put, List.setIfInBounds_toArray, List.set_cons_zero, List.set_cons_succ]
            refine wpAnyL_one (i := 2) hcl rfl (by kernel_rfl) (by rfl) (fun hcl K hK => ?_)
            refine wp_apD_any (some 96) (w := W.drew) _ _ rfl rfl (B := W.heap.size) rfl (OwD.nil _ _) rfl (hpsW _ hS) hlen9 (Nat.le_refl _) ?_; intro vq wq hq hgq
            rw [List.nil_append] at hq
            have hb : Ext W wq := Below.grown hS hgq (Nat.le_refl _) (fun k e => by cases e)
            refine hK.out _ _ (fun _ => hb) ?_
            replace hS := hb
            clear hK K hb
            try simp only [Act.put, List.setIfInBounds_toArray, List.set_cons_zero, List.set_cons_succ]
            refine wpAnyL_take (i := 5) (v := ?_) hcl hS (some 13) rfl rfl (by kernel_rfl) (by kernel_rfl) (by kernel_rfl) (fun _ _ _ h => h) (by kernel_rfl) ?_ (fun hcl => ?_)
            rotate_left 1
            · (refine Or.inl ⟨by rfl, ?_⟩; intro w' hw'; (try go_simp); (try rfl); done)
            try simp only [Act.put, List.setIfInBounds_toArray, List.set_cons_zero, List.set_cons_succ]
            refine wpAnyL_take (i := 6) (v := ?_) hcl hS (some 14) rfl rfl (by kernel_rfl) (by kernel_rfl) (by kernel_rfl) (fun _ _ _ h => h) (by kernel_rfl) ?_ (fun hcl => ?_)
            rotate_left 1
            · (refine Or.inl ⟨by rfl, ?_⟩; intro w' hw'; (try go_simp); (try rfl); done)
            try simp only [Act.put, List.setIfInBounds_toArray, List.set_cons_zero, List.set_cons_succ]
            refine wpAnyL_done (by kernel_rfl) ?_ _
            have hRq := hR.ext hS
            have hAq := hA.below hS
            have hwq := hAq.w0
            clear hAx hpsW
            have hBw := hR.b.size
            clear hR hA hAq hw0 hwt
            have hA := True.intro
            have hw0 := True.intro
            have hwt := True.intro
            go_upto_region 30 with fail
            -- DEV
            obtain ⟨⟨Aq, cq, rfl, _⟩, _⟩ := id hq.sl
            by_cases hbig : 1048576 < size
            · go_wp2_with fail
              refine (from_big Aq _ cq _ size hbig).mono ?_; rintro e w5 ⟨rfl, rfl⟩
              go_wp2_with fail
              refine (rr_from_big Aq _ cq _ size hbig).mono ?_; rintro e w6 ⟨rfl, rfl⟩
              have hR7 := hRq
              have hq7 := hq
              clear hRq hq hA hw0 hwt
              go_wp2_with fail
              by_cases hz0 : ps.length = 0
              · have hz0' : Hid (ps.length = 0) := hz0
                rw [hz0]
                clear hq7
                clear hz0
                go_loopw [19] (fun sk wr => sk = .int .i64 0 ∧ wr = wq) (fun _ _ => 0)
                case atStart => exact ⟨rfl, rfl⟩
                case round =>
                  obtain ⟨rfl, rfl⟩ := hrel
                  go_wp2_with fail
                  refine (alike_any hR7.r hR7.s).mono ?_; rintro e w90 ⟨rfl, b90⟩
                  go_wp2_with fail
                  go_roundw
                  case rel => exact ⟨i + 1, p', q', n, v, v2, ds, by omega, rfl, rfl, by go_num, hR7.ext b90⟩
                  case measure => simp [intOf]; omega

              · obtain ⟨g, cg, eq7, hgB, hgl⟩ := hq7.some (by omega)
                injection eq7 with eA _ eC
                subst eA eC
                have hgr : ¬ RgB p' v g := fun h => by have := hlo g h; omega
                have hgs : ¬ RgB q' v2 g := hR7.s.neD hq7 g rfl
                have hX : XrR w.heap.size wq g ps.length cq := XrR.of (hq7.mono hBw)
                have hgw : w.heap.size ≤ g := Nat.le_trans hBw hgB
                clear hq7
                generalize hm : ps.length = m at hX ⊢
                have hml : m ≤ 2097152 := by rw [← hm]; exact hpsl2
                replace hm : Hid _ := hm
                go_loopw [19] (fun sk wr => ∃ k : Nat, k ≤ m ∧ sk = .int .i64 (k : Int) ∧ XrR w.heap.size wr g m cq ∧ But (fun j => j = g) wq wr) (fun sk _ => m - (intOf sk).toNat)
                case atStart => exact ⟨0, Nat.zero_le _, rfl, hX, But.refl _ _⟩
                case round =>
                  obtain ⟨k, hk, rfl, hXr, hbX⟩ := hrel
                  by_cases hkm : k < m
                  · obtain ⟨b, hcb, hfb, hset⟩ := hXr.cell hkm
                    have hk1 : (k : Int) < m := by omega
                    have hk0 : (0 : Int) ≤ k := by omega
                    have hx1 := xor1 b
                    have hcur : Below wr.heap.size wr wr := Below.refl _ _
                    have e0 := Ext.refl wr
                    have hbl := World.block_lt_of_cell? _ _ hcb
                    have fcb := fun (w' : World) (hw : Ext wr w') => (hw.cell (p := ⟨g, k * 32, none⟩) hbl).trans hcb
                    have hbX2 := (hbX.setCell (p := ⟨g, k * 32, none⟩) rfl (.int .u8 (c8 (b ^^^ 1)))).drew
                    have hset2 := (hset (b ^^^ 1)).ext (ext_drew _)
                    go_wp2_with fail
                    refine wp_region_F 8 (by kernel_rfl) (fun hcl => ?_)
                    replace hcur := below_via hcur (ext_drew _)
                    replace e0 := Ext.trans e0 (ext_drew _)
                    refine wpAnyF_take (fin := 8) (i := 0) (v := ?_) hcl (some 131) rfl rfl (by kernel_rfl) (by kernel_rfl) (by kernel_rfl) (fun _ _ _ h => h) (by kernel_rfl) ?_ (fun hcl => ?_)
                    rotate_left 1
                    · (refine Or.inl ⟨by rfl, ?_⟩; intro w' hw'; have hq := below_via hcur hw'; have hq_e0 := Ext.trans e0 hw'; (try go_simp); (try rfl); done)
                    try simp only [Act.put, List.setIfInBounds_toArray, List.set_cons_zero, List.set_cons_succ]
                    refine wpAnyF_take (fin := 8) (i := 1) (v := ?_) hcl (some 132) rfl rfl (by kernel_rfl) (by kernel_rfl) (by kernel_rfl) (fun _ _ _ h => h) (by kernel_rfl) ?_ (fun hcl => ?_)
                    rotate_left 1
                    · (refine Or.inl ⟨by rfl, ?_⟩; intro w' hw'; have hq := below_via hcur hw'; have hq_e0 := Ext.trans e0 hw'; (try go_simp); (try rfl); done)
                    try simp only [Act.put, List.setIfInBounds_toArray, List.set_cons_zero, List.set_cons_succ]
                    refine wpAnyF_take (fin := 8) (i := 2) (v := ?_) hcl (some 133) rfl rfl (by kernel_rfl) (by kernel_rfl) (by kernel_rfl) (fun _ _ _ h => h) (by kernel_rfl) ?_ (fun hcl => ?_)
                    rotate_left 1
                    · (refine Or.inl ⟨by rfl, ?_⟩; intro w' hw'; have hq := below_via hcur hw'; have hq_e0 := Ext.trans e0 hw'; (try go_simp); (try rfl); done)
                    try simp only [Act.put, List.setIfInBounds_toArray, List.set_cons_zero, List.set_cons_succ]
                    refine wpAnyF_take (fin := 8) (i := 3) (v := ?_) hcl (some 134) rfl rfl (by kernel_rfl) (by kernel_rfl) (by kernel_rfl) (fun _ _ _ h => h) (by kernel_rfl) ?_ (fun hcl => ?_)
                    rotate_left 1
                    · (refine Or.inl ⟨by rfl, ?_⟩; intro w' hw'; have hq := below_via hcur hw'; have hq_e0 := Ext.trans e0 hw'; (try go_simp); (try rfl); done)
                    try simp only [Act.put, List.setIfInBounds_toArray, List.set_cons_zero, List.set_cons_succ]
                    refine wpAnyF_take (fin := 8) (i := 4) (v := ?_) hcl (some 135) rfl rfl (by kernel_rfl) (by kernel_rfl) (by kernel_rfl) (fun _ _ _ h => h) (by kernel_rfl) ?_ (fun hcl => ?_)
                    rotate_left 1
                    · (refine Or.inl ⟨by rfl, ?_⟩; intro w' hw'; have hq := below_via hcur hw'; have hq_e0 := Ext.trans e0 hw'; have hcl := fcb _ hq_e0; (try go_simp); (try rfl); done)
                    try simp only [Act.put, List.setIfInBounds_toArray, List.set_cons_zero, List.set_cons_succ]
                    refine wpAnyF_take (fin := 8) (i := 5) (v := ?_) hcl (some 136) rfl rfl (by kernel_rfl) (by kernel_rfl) (by kernel_rfl) (fun _ _ _ h => h) (by kernel_rfl) ?_ (fun hcl => ?_)
                    rotate_left 1
                    · (refine Or.inl ⟨by rfl, ?_⟩; intro w' hw'; have hq := below_via hcur hw'; have hq_e0 := Ext.trans e0 hw'; (try go_simp); (try rfl); done)
                    try simp only [Act.put, List.setIfInBounds_toArray, List.set_cons_zero, List.set_cons_succ]
                    refine wpAnyF_take (fin := 8) (i := 6) (v := ?_) hcl (some 137) rfl rfl (by kernel_rfl) (by kernel_rfl) (by kernel_rfl) (fun _ _ _ h => h) (by kernel_rfl) ?_ (fun hcl => ?_)
                    rotate_left 1
                    · (refine Or.inl ⟨by rfl, ?_⟩; intro w' hw'; have hq := below_via hcur hw'; have hq_e0 := Ext.trans e0 hw'; (try go_simp); (try rfl); done)
                    try simp only [Act.put, List.setIfInBounds_toArray, List.set_cons_zero, List.set_cons_succ]
                    refine wpAnyF_take (fin := 8) (i := 7) (v := ?_) hcl (some 138) rfl rfl (by kernel_rfl) (by kernel_rfl) (by kernel_rfl) (fun _ _ _ h => h) (by kernel_rfl) ?_ (fun hcl => ?_)
                    rotate_left 1
                    · (refine Or.inl ⟨by rfl, ?_⟩; intro w' hw'; have hq := below_via hcur hw'; have hq_e0 := Ext.trans e0 hw'; (try go_simp); (try rfl); done)
                    try simp only [Act.put, List.setIfInBounds_toArray, List.set_cons_zero, List.set_cons_succ]
                    refine wpAnyF_last (fin := 8) rfl (by kernel_rfl) (by kernel_rfl) (by rfl) (fun K hK => ?_)
                    have hcl := fcb _ e0
                    have hfz : wr.drew.frozen? ⟨g, k * 32, none⟩ = false := hfb
                    go_simp
                    refine hK.out _ _ ?_
                    clear hK K hcl
                    go_wp2_with fail
                    go_roundw
                    case rel => exact ⟨k + 1, by omega, by go_num, hset2, hbX2⟩
                    case measure => simp [intOf]; omega
                  · obtain rfl : k = m := by omega
                    have hR8 : PlayR w wr p' q' n v v2 ds := ⟨hR7.r.but hbX (fun e => hgr (e ▸ .inl rfl)) (fun j hj e => hgr (e ▸ .inr hj)), hR7.s.but hbX (fun e => hgs (e ▸ .inl rfl)) (fun j hj e => hgs (e ▸ .inr hj)), Below.trans hR7.b (hbX.below hR7.b.size (fun j hj e => by omega))⟩
                    clear hX hXr hbX hR7 hgr hgs
                    go_wp2_with fail
                    refine (alike_any hR8.r hR8.s).mono ?_; rintro e w90 ⟨rfl, b90⟩
                    go_wp2_with fail
                    go_roundw
                    case rel => exact ⟨i + 1, p', q', n, v, v2, ds, by omega, rfl, rfl, by go_num, hR8.ext b90⟩
                    case measure => simp [intOf]; omega

            · have hszl : Hid (size ≤ 1048576) := Nat.le_of_not_lt hbig
              by_cases hpop : ps.length = popN 21 size
              · replace hpop : Hid _ := hpop
                go_wp2_with fail
                refine (rg_from _ ps wq size hq.sl (by omega) hpop.out).mono ?_; rintro e w5 ⟨p2, vN, rfl, hr5, b5⟩
                have hq5 := hq.below b5
                have hqs : Hid (∀ k, (Value.slice Aq ps.length cq).ownBlock = some k → W.heap.size ≤ k ∧ k < wq.heap.size) := fun k hk => hq.lt k hk
                go_wp2_with fail
                refine (rr_from _ ps w5 size hq5.sl (by omega) hpsl2).mono ?_; rintro e w6 ⟨b6, h6⟩
                rcases h6 with ⟨he6, q2, v2N, rfl, hs6⟩ | ⟨hne, _⟩
                · clear he6
                  have hbq := Ext.trans hRq.b b5
                  have hR7 : PlayR w w6 p2 q2 size vN v2N ps := ⟨(show RgH w.heap.size w5 p2 size vN ps from ⟨hr5.at_, hr5.own.mono hRq.b.size, Nat.le_trans hRq.b.size hr5.ge, hr5.le, hr5.pop⟩).below b6, ⟨hs6.at_, hs6.own.mono hbq.size, Nat.le_trans hbq.size hs6.ge⟩, Ext.trans hbq b6⟩
                  have hq7 := hq5.below b6
                  have hge := hr5.ge
                  have hlt5 : Hid (∀ k, vN.ownBlock = some k → wq.heap.size ≤ k) := fun k hk => (hr5.own.lt k hk).1
                  clear hRq hq hA hw0 hwt hr5 hs6 hq5 b5 b6 hbq
                  go_wp2_with fail
                  by_cases hz0 : ps.length = 0
                  · have hz0' : Hid (ps.length = 0) := hz0
                    rw [hz0]
                    clear hq7
                    clear hz0
                    go_loopw [19] (fun sk wr => sk = .int .i64 0 ∧ wr = w6) (fun _ _ => 0)
                    case atStart => exact ⟨rfl, rfl⟩
                    case round =>
                      obtain ⟨rfl, rfl⟩ := hrel
                      go_wp2_with fail
                      refine (rg_peaks hR7.r).mono ?_; rintro e w18 ⟨vz, rfl, hz, b18⟩
                      go_wp2_with fail
                      refine (rr_from vz ps w18 size hz.sl hszl.out hpsl2).mono ?_; rintro e w19 ⟨b19, h19⟩
                      rcases h19 with ⟨he19, q3, v3, rfl, hs19⟩ | ⟨hne, _⟩
                      · clear he19
                        have hR19 : PlayR w w19 p2 q3 size vN v3 ps := ⟨(hR7.r.below b18).below b19, ⟨hs19.at_, hs19.own.mono (Nat.le_trans hR7.b.size b18.size), Nat.le_trans (Nat.le_trans hR7.b.size b18.size) hs19.ge⟩, Ext.trans hR7.b (Ext.trans b18 b19)⟩
                        clear hR7 hz hs19 b18 b19
                        go_wp2_with fail
                        refine (alike_any hR19.r hR19.s).mono ?_; rintro e w90 ⟨rfl, b90⟩
                        go_wp2_with fail
                        go_roundw
                        case rel => exact ⟨i + 1, p2, q3, size, vN, v3, ps, by omega, rfl, rfl, by go_num, hR19.ext b90⟩
                        case measure => simp [intOf]; omega

                      · exact absurd hpop.out hne

                  · obtain ⟨g, cg, eq7, hgB, hgl⟩ := hq7.some (by omega)
                    injection eq7 with eA _ eC
                    subst eA eC
                    have hgr : ¬ RgB p2 vN g := fun h => by have h0 := (hqs.out g rfl).2; rcases h with h | h; (· omega); (· have := hlt5.out g h; omega)
                    have hgs : ¬ RgB q2 v2N g := hR7.s.neD hq7 g rfl
                    have hX : XrR w.heap.size w6 g ps.length cq := XrR.of (hq7.mono hBw)
                    have hgw : w.heap.size ≤ g := Nat.le_trans hBw hgB
                    clear hq7
                    generalize hm : ps.length = m at hX ⊢
                    have hml : m ≤ 2097152 := by rw [← hm]; exact hpsl2
                    replace hm : Hid _ := hm
                    go_loopw [19] (fun sk wr => ∃ k : Nat, k ≤ m ∧ sk = .int .i64 (k : Int) ∧ XrR w.heap.size wr g m cq ∧ But (fun j => j = g) w6 wr) (fun sk _ => m - (intOf sk).toNat)
                    case atStart => exact ⟨0, Nat.zero_le _, rfl, hX, But.refl _ _⟩
                    case round =>
                      obtain ⟨k, hk, rfl, hXr, hbX⟩ := hrel
                      by_cases hkm : k < m
                      · obtain ⟨b, hcb, hfb, hset⟩ := hXr.cell hkm
                        have hk1 : (k : Int) < m := by omega
                        have hk0 : (0 : Int) ≤ k := by omega
                        have hx1 := xor1 b
                        have hcur : Below wr.heap.size wr wr := Below.refl _ _
                        have e0 := Ext.refl wr
                        have hbl := World.block_lt_of_cell? _ _ hcb
                        have fcb := fun (w' : World) (hw : Ext wr w') => (hw.cell (p := ⟨g, k * 32, none⟩) hbl).trans hcb
                        have hbX2 := (hbX.setCell (p := ⟨g, k * 32, none⟩) rfl (.int .u8 (c8 (b ^^^ 1)))).drew
                        have hset2 := (hset (b ^^^ 1)).ext (ext_drew _)
                        go_wp2_with fail
                        refine wp_region_F 8 (by kernel_rfl) (fun hcl => ?_)
                        replace hcur := below_via hcur (ext_drew _)
                        replace e0 := Ext.trans e0 (ext_drew _)
                        refine wpAnyF_take (fin := 8) (i := 0) (v := ?_) hcl (some 131) rfl rfl (by kernel_rfl) (by kernel_rfl) (by kernel_rfl) (fun _ _ _ h => h) (by kernel_rfl) ?_ (fun hcl => ?_)
                        rotate_left 1
                        · (refine Or.inl ⟨by rfl, ?_⟩; intro w' hw'; have hq := below_via hcur hw'; have hq_e0 := Ext.trans e0 hw'; (try go_simp); (try rfl); done)
                        try simp only [Act.put, List.setIfInBounds_toArray, List.set_cons_zero, List.set_cons_succ]
                        refine wpAnyF_take (fin := 8) (i := 1) (v := ?_) hcl (some 132) rfl rfl (by kernel_rfl) (by kernel_rfl) (by kernel_rfl) (fun _ _ _ h => h) (by kernel_rfl) ?_ (fun hcl => ?_)
                        rotate_left 1
                        · (refine Or.inl ⟨by rfl, ?_⟩; intro w' hw'; have hq := below_via hcur hw'; have hq_e0 := Ext.trans e0 hw'; (try go_simp); (try rfl); done)
                        try simp only [Act.put, List.setIfInBounds_toArray, List.set_cons_zero, List.set_cons_succ]
                        refine wpAnyF_take (fin := 8) (i := 2) (v := ?_) hcl (some 133) rfl rfl (by kernel_rfl) (by kernel_rfl) (by kernel_rfl) (fun _ _ _ h => h) (by kernel_rfl) ?_ (fun hcl => ?_)
                        rotate_left 1
                        · (refine Or.inl ⟨by rfl, ?_⟩; intro w' hw'; have hq := below_via hcur hw'; have hq_e0 := Ext.trans e0 hw'; (try go_simp); (try rfl); done)
                        try simp only [Act.put, List.setIfInBounds_toArray, List.set_cons_zero, List.set_cons_succ]
                        refine wpAnyF_take (fin := 8) (i := 3) (v := ?_) hcl (some 134) rfl rfl (by kernel_rfl) (by kernel_rfl) (by kernel_rfl) (fun _ _ _ h => h) (by kernel_rfl) ?_ (fun hcl => ?_)
                        rotate_left 1
                        · (refine Or.inl ⟨by rfl, ?_⟩; intro w' hw'; have hq := below_via hcur hw'; have hq_e0 := Ext.trans e0 hw'; (try go_simp); (try rfl); done)
                        try simp only [Act.put, List.setIfInBounds_toArray, List.set_cons_zero, List.set_cons_succ]
                        refine wpAnyF_take (fin := 8) (i := 4) (v := ?_) hcl (some 135) rfl rfl (by kernel_rfl) (by kernel_rfl) (by kernel_rfl) (fun _ _ _ h => h) (by kernel_rfl) ?_ (fun hcl => ?_)
                        rotate_left 1
                        · (refine Or.inl ⟨by rfl, ?_⟩; intro w' hw'; have hq := below_via hcur hw'; have hq_e0 := Ext.trans e0 hw'; have hcl := fcb _ hq_e0; (try go_simp); (try rfl); done)
                        try simp only [Act.put, List.setIfInBounds_toArray, List.set_cons_zero, List.set_cons_succ]
                        refine wpAnyF_take (fin := 8) (i := 5) (v := ?_) hcl (some 136) rfl rfl (by kernel_rfl) (by kernel_rfl) (by kernel_rfl) (fun _ _ _ h => h) (by kernel_rfl) ?_ (fun hcl => ?_)
                        rotate_left 1
                        · (refine Or.inl ⟨by rfl, ?_⟩; intro w' hw'; have hq := below_via hcur hw'; have hq_e0 := Ext.trans e0 hw'; (try go_simp); (try rfl); done)
                        try simp only [Act.put, List.setIfInBounds_toArray, List.set_cons_zero, List.set_cons_succ]
                        refine wpAnyF_take (fin := 8) (i := 6) (v := ?_) hcl (some 137) rfl rfl (by kernel_rfl) (by kernel_rfl) (by kernel_rfl) (fun _ _ _ h => h) (by kernel_rfl) ?_ (fun hcl => ?_)
                        rotate_left 1
                        · (refine Or.inl ⟨by rfl, ?_⟩; intro w' hw'; have hq := below_via hcur hw'; have hq_e0 := Ext.trans e0 hw'; (try go_simp); (try rfl); done)
                        try simp only [Act.put, List.setIfInBounds_toArray, List.set_cons_zero, List.set_cons_succ]
                        refine wpAnyF_take (fin := 8) (i := 7) (v := ?_) hcl (some 138) rfl rfl (by kernel_rfl) (by kernel_rfl) (by kernel_rfl) (fun _ _ _ h => h) (by kernel_rfl) ?_ (fun hcl => ?_)
                        rotate_left 1
                        · (refine Or.inl ⟨by rfl, ?_⟩; intro w' hw'; have hq := below_via hcur hw'; have hq_e0 := Ext.trans e0 hw'; (try go_simp); (try rfl); done)
                        try simp only [Act.put, List.setIfInBounds_toArray, List.set_cons_zero, List.set_cons_succ]
                        refine wpAnyF_last (fin := 8) rfl (by kernel_rfl) (by kernel_rfl) (by rfl) (fun K hK => ?_)
                        have hcl := fcb _ e0
                        have hfz : wr.drew.frozen? ⟨g, k * 32, none⟩ = false := hfb
                        go_simp
                        refine hK.out _ _ ?_
                        clear hK K hcl
                        go_wp2_with fail
                        go_roundw
                        case rel => exact ⟨k + 1, by omega, by go_num, hset2, hbX2⟩
                        case measure => simp [intOf]; omega
                      · obtain rfl : k = m := by omega
                        have hR8 : PlayR w wr p2 q2 size vN v2N ps := ⟨hR7.r.but hbX (fun e => hgr (e ▸ .inl rfl)) (fun j hj e => hgr (e ▸ .inr hj)), hR7.s.but hbX (fun e => hgs (e ▸ .inl rfl)) (fun j hj e => hgs (e ▸ .inr hj)), Below.trans hR7.b (hbX.below hR7.b.size (fun j hj e => by omega))⟩
                        clear hX hXr hbX hR7 hgr hgs
                        go_wp2_with fail
                        refine (rg_peaks hR8.r).mono ?_; rintro e w18 ⟨vz, rfl, hz, b18⟩
                        go_wp2_with fail
                        refine (rr_from vz ps w18 size hz.sl hszl.out hpsl2).mono ?_; rintro e w19 ⟨b19, h19⟩
                        rcases h19 with ⟨he19, q3, v3, rfl, hs19⟩ | ⟨hne, _⟩
                        · clear he19
                          have hR19 : PlayR w w19 p2 q3 size vN v3 ps := ⟨(hR8.r.below b18).below b19, ⟨hs19.at_, hs19.own.mono (Nat.le_trans hR8.b.size b18.size), Nat.le_trans (Nat.le_trans hR8.b.size b18.size) hs19.ge⟩, Ext.trans hR8.b (Ext.trans b18 b19)⟩
                          clear hR8 hz hs19 b18 b19
                          go_wp2_with fail
                          refine (alike_any hR19.r hR19.s).mono ?_; rintro e w90 ⟨rfl, b90⟩
                          go_wp2_with fail
                          go_roundw
                          case rel => exact ⟨i + 1, p2, q3, size, vN, v3, ps, by omega, rfl, rfl, by go_num, hR19.ext b90⟩
                          case measure => simp [intOf]; omega

                        · exact absurd hpop.out hne

                · exact absurd hpop.out hne
              · replace hpop : Hid _ := hpop
                go_wp2_with fail
                refine (from_other Aq _ cq wq size (by omega) hpop.out).mono ?_; rintro e w5 ⟨rfl, rfl⟩
                go_wp2_with fail
                refine (rr_from _ ps wq size hq.sl (by omega) hpsl2).mono ?_; rintro e w6 ⟨b6, h6⟩
                rcases h6 with ⟨he, _⟩ | ⟨hne6, rfl⟩
                · exact absurd he hpop.out
                · clear hne6
                  have hR7 := hRq.ext b6
                  have hq7 := hq.below b6
                  clear hRq hq hA hw0 hwt b6
                  go_wp2_with fail
                  by_cases hz0 : ps.length = 0
                  · have hz0' : Hid (ps.length = 0) := hz0
                    rw [hz0]
                    clear hq7
                    clear hz0
                    go_loopw [19] (fun sk wr => sk = .int .i64 0 ∧ wr = w6) (fun _ _ => 0)
                    case atStart => exact ⟨rfl, rfl⟩
                    case round =>
                      obtain ⟨rfl, rfl⟩ := hrel
                      go_wp2_with fail
                      refine (alike_any hR7.r hR7.s).mono ?_; rintro e w90 ⟨rfl, b90⟩
                      go_wp2_with fail
                      go_roundw
                      case rel => exact ⟨i + 1, p', q', n, v, v2, ds, by omega, rfl, rfl, by go_num, hR7.ext b90⟩
                      case measure => simp [intOf]; omega

                  · obtain ⟨g, cg, eq7, hgB, hgl⟩ := hq7.some (by omega)
                    injection eq7 with eA _ eC
                    subst eA eC
                    have hgr : ¬ RgB p' v g := fun h => by have := hlo g h; omega
                    have hgs : ¬ RgB q' v2 g := hR7.s.neD hq7 g rfl
                    have hX : XrR w.heap.size w6 g ps.length cq := XrR.of (hq7.mono hBw)
                    have hgw : w.heap.size ≤ g := Nat.le_trans hBw hgB
                    clear hq7
                    generalize hm : ps.length = m at hX ⊢
                    have hml : m ≤ 2097152 := by rw [← hm]; exact hpsl2
                    replace hm : Hid _ := hm
                    go_loopw [19] (fun sk wr => ∃ k : Nat, k ≤ m ∧ sk = .int .i64 (k : Int) ∧ XrR w.heap.size wr g m cq ∧ But (fun j => j = g) w6 wr) (fun sk _ => m - (intOf sk).toNat)
                    case atStart => exact ⟨0, Nat.zero_le _, rfl, hX, But.refl _ _⟩
                    case round =>
                      obtain ⟨k, hk, rfl, hXr, hbX⟩ := hrel
                      by_cases hkm : k < m
                      · obtain ⟨b, hcb, hfb, hset⟩ := hXr.cell hkm
                        have hk1 : (k : Int) < m := by omega
                        have hk0 : (0 : Int) ≤ k := by omega
                        have hx1 := xor1 b
                        have hcur : Below wr.heap.size wr wr := Below.refl _ _
                        have e0 := Ext.refl wr
                        have hbl := World.block_lt_of_cell? _ _ hcb
                        have fcb := fun (w' : World) (hw : Ext wr w') => (hw.cell (p := ⟨g, k * 32, none⟩) hbl).trans hcb
                        have hbX2 := (hbX.setCell (p := ⟨g, k * 32, none⟩) rfl (.int .u8 (c8 (b ^^^ 1)))).drew
                        have hset2 := (hset (b ^^^ 1)).ext (ext_drew _)
                        go_wp2_with fail
                        refine wp_region_F 8 (by kernel_rfl) (fun hcl => ?_)
                        replace hcur := below_via hcur (ext_drew _)
                        replace e0 := Ext.trans e0 (ext_drew _)
                        refine wpAnyF_take (fin := 8) (i := 0) (v := ?_) hcl (some 131) rfl rfl (by kernel_rfl) (by kernel_rfl) (by kernel_rfl) (fun _ _ _ h => h) (by kernel_rfl) ?_ (fun hcl => ?_)
                        rotate_left 1
                        · (refine Or.inl ⟨by rfl, ?_⟩; intro w' hw'; have hq := below_via hcur hw'; have hq_e0 := Ext.trans e0 hw'; (try go_simp); (try rfl); done)
                        try simp only [Act.put, List.setIfInBounds_toArray, List.set_cons_zero, List.set_cons_succ]
                        refine wpAnyF_take (fin := 8) (i := 1) (v := ?_) hcl (some 132) rfl rfl (by kernel_rfl) (by kernel_rfl) (by kernel_rfl) (fun _ _ _ h => h) (by kernel_rfl) ?_ (fun hcl => ?_)
                        rotate_left 1
                        · (refine Or.inl ⟨by rfl, ?_⟩; intro w' hw'; have hq := below_via hcur hw'; have hq_e0 := Ext.trans e0 hw'; (try go_simp); (try rfl); done)
                        try simp only [Act.put, List.setIfInBounds_toArray, List.set_cons_zero, List.set_cons_succ]
                        refine wpAnyF_take (fin := 8) (i := 2) (v := ?_) hcl (some 133) rfl rfl (by kernel_rfl) (by kernel_rfl) (by kernel_rfl) (fun _ _ _ h => h) (by kernel_rfl) ?_ (fun hcl => ?_)
                        rotate_left 1
                        · (refine Or.inl ⟨by rfl, ?_⟩; intro w' hw'; have hq := below_via hcur hw'; have hq_e0 := Ext.trans e0 hw'; (try go_simp); (try rfl); done)
                        try simp only [Act.put, List.setIfInBounds_toArray, List.set_cons_zero, List.set_cons_succ]
                        refine wpAnyF_take (fin := 8) (i := 3) (v := ?_) hcl (some 134) rfl rfl (by kernel_rfl) (by kernel_rfl) (by kernel_rfl) (fun _ _ _ h => h) (by kernel_rfl) ?_ (fun hcl => ?_)
                        rotate_left 1
                        · (refine Or.inl ⟨by rfl, ?_⟩; intro w' hw'; have hq := below_via hcur hw'; have hq_e0 := Ext.trans e0 hw'; (try go_simp); (try rfl); done)
                        try simp only [Act.put, List.setIfInBounds_toArray, List.set_cons_zero, List.set_cons_succ]
                        refine wpAnyF_take (fin := 8) (i := 4) (v := ?_) hcl (some 135) rfl rfl (by kernel_rfl) (by kernel_rfl) (by kernel_rfl) (fun _ _ _ h => h) (by kernel_rfl) ?_ (fun hcl => ?_)
                        rotate_left 1
                        · (refine Or.inl ⟨by rfl, ?_⟩; intro w' hw'; have hq := below_via hcur hw'; have hq_e0 := Ext.trans e0 hw'; have hcl := fcb _ hq_e0; (try go_simp); (try rfl); done)
                        try simp only [Act.put, List.setIfInBounds_toArray, List.set_cons_zero, List.set_cons_succ]
                        refine wpAnyF_take (fin := 8) (i := 5) (v := ?_) hcl (some 136) rfl rfl (by kernel_rfl) (by kernel_rfl) (by kernel_rfl) (fun _ _ _ h => h) (by kernel_rfl) ?_ (fun hcl => ?_)
                        rotate_left 1
                        · (refine Or.inl ⟨by rfl, ?_⟩; intro w' hw'; have hq := below_via hcur hw'; have hq_e0 := Ext.trans e0 hw'; (try go_simp); (try rfl); done)
                        try simp only [Act.put, List.setIfInBounds_toArray, List.set_cons_zero, List.set_cons_succ]
                        refine wpAnyF_take (fin := 8) (i := 6) (v := ?_) hcl (some 137) rfl rfl (by kernel_rfl) (by kernel_rfl) (by kernel_rfl) (fun _ _ _ h => h) (by kernel_rfl) ?_ (fun hcl => ?_)
                        rotate_left 1
                        · (refine Or.inl ⟨by rfl, ?_⟩; intro w' hw'; have hq := below_via hcur hw'; have hq_e0 := Ext.trans e0 hw'; (try go_simp); (try rfl); done)
                        try simp only [Act.put, List.setIfInBounds_toArray, List.set_cons_zero, List.set_cons_succ]
                        refine wpAnyF_take (fin := 8) (i := 7) (v := ?_) hcl (some 138) rfl rfl (by kernel_rfl) (by kernel_rfl) (by kernel_rfl) (fun _ _ _ h => h) (by kernel_rfl) ?_ (fun hcl => ?_)
                        rotate_left 1
                        · (refine Or.inl ⟨by rfl, ?_⟩; intro w' hw'; have hq := below_via hcur hw'; have hq_e0 := Ext.trans e0 hw'; (try go_simp); (try rfl); done)
                        try simp only [Act.put, List.setIfInBounds_toArray, List.set_cons_zero, List.set_cons_succ]
                        refine wpAnyF_last (fin := 8) rfl (by kernel_rfl) (by kernel_rfl) (by rfl) (fun K hK => ?_)
                        have hcl := fcb _ e0
                        have hfz : wr.drew.frozen? ⟨g, k * 32, none⟩ = false := hfb
                        go_simp
                        refine hK.out _ _ ?_
                        clear hK K hcl
                        go_wp2_with fail
                        go_roundw
                        case rel => exact ⟨k + 1, by omega, by go_num, hset2, hbX2⟩
                        case measure => simp [intOf]; omega
                      · obtain rfl : k = m := by omega
                        have hR8 : PlayR w wr p' q' n v v2 ds := ⟨hR7.r.but hbX (fun e => hgr (e ▸ .inl rfl)) (fun j hj e => hgr (e ▸ .inr hj)), hR7.s.but hbX (fun e => hgs (e ▸ .inl rfl)) (fun j hj e => hgs (e ▸ .inr hj)), Below.trans hR7.b (hbX.below hR7.b.size (fun j hj e => by omega))⟩
                        clear hX hXr hbX hR7 hgr hgs
                        go_wp2_with fail
                        refine (alike_any hR8.r hR8.s).mono ?_; rintro e w90 ⟨rfl, b90⟩
                        go_wp2_with fail
                        go_roundw
                        case rel => exact ⟨i + 1, p', q', n, v, v2, ds, by omega, rfl, rfl, by go_num, hR8.ext b90⟩
                        case measure => simp [intOf]; omega

            -- /DEV
          · by_cases k3 : what = 3
            · subst k3
              have hpsl2 : ds.length ≤ 2097152 := by omega
              have hS : Ext W W.drew := ext_drew _
              have hlo : ∀ k, RgB p' v k → k < W.heap.size := fun k h => by rcases h with rfl | h; (· exact hR.r.lt); (· exact (hR.r.own.lt k h).2)
              have hpsW := fun w' (h : Ext W w') => hps.below (Below.trans hR.b (h.mono hR.b.size))
              have hAx := fun w' (h : Ext W w') => (hA.below h).tail hd
              have hlen9 : ([] : List (List UInt8)).length + ps.length ≤ 1099511627776 := by rw [List.length_nil]; omega
              go_upto_region 27 with fail
              refine wp_region_L (fun w' => Ext W w') [] (by kernel_rfl) (fun hcl => ?_)
              refine wpAnyL_take (i := 0) (v := ?_) hcl hS (some 94) rfl rfl (by kernel_rfl) (by kernel_rfl) (by kernel_rfl) (fun _ _ _ h => h) (by kernel_rfl) ?_ (fun hcl => ?_)
              rotate_left 1
              · (refine Or.inl ⟨by rfl, ?_⟩; intro w' hw'; (try go_simp); (try rfl); done)
              try simp only [Act.put, List.setIfInBounds_toArray, List.set_cons_zero, List.set_cons_succ]
              refine wpAnyL_take (i := 1) (v := ?_) hcl hS (some 95) rfl rfl (by kernel_rfl) (by kernel_rfl) (by kernel_rfl) (fun _ _ _ h => h) (by kernel_rfl) ?_ (fun hcl => ?_)
              rotate_left 1
              · (refine Or.inl ⟨by rfl, ?_⟩; intro w' hw'; have hcl := (hAx _ hw').1; (try go_simp); (try rfl); done)
              try simp only [Act.put, List.setIfInBounds_toArray, List.set_cons_zero, List.set_cons_succ]
              refine wpAnyL_take (i := 3) (v := ?_) hcl hS (some 97) rfl rfl (by kernel_rfl) (by kernel_rfl) (by kernel_rfl) (fun _ _ _ h => h) (by kernel_rfl) ?_ (fun hcl => ?_)
              rotate_left 1
              · (refine Or.inl ⟨by rfl, ?_⟩; intro w' hw'; (try go_simp); (try rfl); done)
              try simp only [Act.put, List.setIfInBounds_toArray, List.set_cons_zero, List.set_cons_succ]
              refine wpAnyL_take (i := 4) (v := ?_) hcl hS (some 98) rfl rfl (by kernel_rfl) (by kernel_rfl) (by kernel_rfl) (fun _ _ _ h => h) (by kernel_rfl) ?_ (fun hcl => ?_)
              rotate_left 1
              · (refine Or.inl ⟨by rfl, ?_⟩; intro w' hw'; have hcl := (hAx _ hw').2; (try go_simp); (try rfl); done)
              try simp only [Act.put, List.setIfInBounds_toArray, List.set_cons_zero, List.set_cons_succ]
              refine wpAnyL_one (i := 2) hcl rfl (by kernel_rfl) (by rfl) (fun hcl K hK => ?_)
              refine wp_apD_any (some 96) (w := W.drew) _ _ rfl rfl (B := W.heap.size) rfl (OwD.nil _ _) rfl (hpsW _ hS) hlen9 (Nat.le_refl _) ?_; intro vq wq hq hgq
              rw [List.nil_append] at hq
              have hb : Ext W wq := Below.grown hS hgq (Nat.le_refl _) (fun k e => by cases e)
              refine hK.out _ _ (fun _ => hb) ?_
              replace hS := hb
              clear hK K hb
              try simp only [Act.put, List.setIfInBounds_toArray, List.set_cons_zero, List.set_cons_succ]
              refine wpAnyL_take (i := 5) (v := ?_) hcl hS (some 13) rfl rfl (by kernel_rfl) (by kernel_rfl) (by kernel_rfl) (fun _ _ _ h => h) (by kernel_rfl) ?_ (fun hcl => ?_)
              rotate_left 1
              · (refine Or.inl ⟨by rfl, ?_⟩; intro w' hw'; (try go_simp); (try rfl); done)
              try simp only [Act.put, List.setIfInBounds_toArray, List.set_cons_zero, List.set_cons_succ]
              refine wpAnyL_take (i := 6) (v := ?_) hcl hS (some 14) rfl rfl (by kernel_rfl) (by kernel_rfl) (by kernel_rfl) (fun _ _ _ h => h) (by kernel_rfl) ?_ (fun hcl => ?_)
              rotate_left 1
              · (refine Or.inl ⟨by rfl, ?_⟩; intro w' hw'; (try go_simp); (try rfl); done)
              try simp only [Act.put, List.setIfInBounds_toArray, List.set_cons_zero, List.set_cons_succ]
              refine wpAnyL_done (by kernel_rfl) ?_ _
              have hRq := hR.ext hS
              have hAq := hA.below hS
              have hwq := hAq.w0
              clear hAx hpsW
              have hBw := hR.b.size
              have hsW := hS.size
              clear hq hgq hR hA hAq hw0 hwt
              go_wp2_with fail
              refine (rg_peaks hRq.r).mono ?_; rintro e wq2 ⟨vq2, rfl, hq2, b2⟩
              have hRq2 := hRq.ext b2
              go_wp2_with fail
              refine (rg_size hRq2.r).mono ?_; rintro e wq3 ⟨rfl, rfl⟩
              have hq := hq2.mono hsW
              clear hRq hq2 b2 hwq
              rename PlayR w wq2 p' q' n v v2 ds => hRq
              have hA := True.intro
              have hw0 := True.intro
              have hwt := True.intro
              go_upto_region 30 with fail
              obtain ⟨⟨Aq, cq, rfl, _⟩, _⟩ := id hq.sl
              by_cases hbig : 1048576 < n
              · go_wp2_with fail
                refine (from_big Aq _ cq _ n hbig).mono ?_; rintro e w5 ⟨rfl, rfl⟩
                go_wp2_with fail
                refine (rr_from_big Aq _ cq _ n hbig).mono ?_; rintro e w6 ⟨rfl, rfl⟩
                have hR7 := hRq
                have hq7 := hq
                clear hRq hq hA hw0 hwt
                go_wp2_with fail
                by_cases hz0 : ds.length = 0
                · have hz0' : Hid (ds.length = 0) := hz0
                  rw [hz0]
                  clear hq7
                  clear hz0
                  go_loopw [19] (fun sk wr => sk = .int .i64 0 ∧ wr = wq2) (fun _ _ => 0)
                  case atStart => exact ⟨rfl, rfl⟩
                  case round =>
                    obtain ⟨rfl, rfl⟩ := hrel
                    go_wp2_with fail
                    refine (alike_any hR7.r hR7.s).mono ?_; rintro e w90 ⟨rfl, b90⟩
                    go_wp2_with fail
                    go_roundw
                    case rel => exact ⟨i + 1, p', q', n, v, v2, ds, by omega, rfl, rfl, by go_num, hR7.ext b90⟩
                    case measure => simp [intOf]; omega

                · obtain ⟨g, cg, eq7, hgB, hgl⟩ := hq7.some (by omega)
                  injection eq7 with eA _ eC
                  subst eA eC
                  have hgr : ¬ RgB p' v g := fun h => by have := hlo g h; omega
                  have hgs : ¬ RgB q' v2 g := hR7.s.neD hq7 g rfl
                  have hX : XrR w.heap.size wq2 g ds.length cq := XrR.of (hq7.mono hBw)
                  have hgw : w.heap.size ≤ g := Nat.le_trans hBw hgB
                  clear hq7
                  generalize hm : ds.length = m at hX ⊢
                  have hml : m ≤ 2097152 := by rw [← hm]; exact hpsl2
                  replace hm : Hid _ := hm
                  go_loopw [19] (fun sk wr => ∃ k : Nat, k ≤ m ∧ sk = .int .i64 (k : Int) ∧ XrR w.heap.size wr g m cq ∧ But (fun j => j = g) wq2 wr) (fun sk _ => m - (intOf sk).toNat)
                  case atStart => exact ⟨0, Nat.zero_le _, rfl, hX, But.refl _ _⟩
                  case round =>
                    obtain ⟨k, hk, rfl, hXr, hbX⟩ := hrel
                    by_cases hkm : k < m
                    · obtain ⟨b, hcb, hfb, hset⟩ := hXr.cell hkm
                      have hk1 : (k : Int) < m := by omega
                      have hk0 : (0 : Int) ≤ k := by omega
                      have hx1 := xor1 b
                      have hcur : Below wr.heap.size wr wr := Below.refl _ _
                      have e0 := Ext.refl wr
                      have hbl := World.block_lt_of_cell? _ _ hcb
                      have fcb := fun (w' : World) (hw : Ext wr w') => (hw.cell (p := ⟨g, k * 32, none⟩) hbl).trans hcb
                      have hbX2 := (hbX.setCell (p := ⟨g, k * 32, none⟩) rfl (.int .u8 (c8 (b ^^^ 1)))).drew
                      have hset2 := (hset (b ^^^ 1)).ext (ext_drew _)
                      go_wp2_with fail
                      refine wp_region_F 8 (by kernel_rfl) (fun hcl => ?_)
                      replace hcur := below_via hcur (ext_drew _)
                      replace e0 := Ext.trans e0 (ext_drew _)
                      refine wpAnyF_take (fin := 8) (i := 0) (v := ?_) hcl (some 131) rfl rfl (by kernel_rfl) (by kernel_rfl) (by kernel_rfl) (fun _ _ _ h => h) (by kernel_rfl) ?_ (fun hcl => ?_)
                      rotate_left 1
                      · (refine Or.inl ⟨by rfl, ?_⟩; intro w' hw'; have hq := below_via hcur hw'; have hq_e0 := Ext.trans e0 hw'; (try go_simp); (try rfl); done)
                      try simp only [Act.put, List.setIfInBounds_toArray, List.set_cons_zero, List.set_cons_succ]
                      refine wpAnyF_take (fin := 8) (i := 1) (v := ?_) hcl (some 132) rfl rfl (by kernel_rfl) (by kernel_rfl) (by kernel_rfl) (fun _ _ _ h => h) (by kernel_rfl) ?_ (fun hcl => ?_)
                      rotate_left 1
                      · (refine Or.inl ⟨by rfl, ?_⟩; intro w' hw'; have hq := below_via hcur hw'; have hq_e0 := Ext.trans e0 hw'; (try go_simp); (try rfl); done)
                      try simp only [Act.put, List.setIfInBounds_toArray, List.set_cons_zero, List.set_cons_succ]
                      refine wpAnyF_take (fin := 8) (i := 2) (v := ?_) hcl (some 133) rfl rfl (by kernel_rfl) (by kernel_rfl) (by kernel_rfl) (fun _ _ _ h => h) (by kernel_rfl) ?_ (fun hcl => ?_)
                      rotate_left 1
                      · (refine Or.inl ⟨by rfl, ?_⟩; intro w' hw'; have hq := below_via hcur hw'; have hq_e0 := Ext.trans e0 hw'; (try go_simp); (try rfl); done)
                      try simp only [Act.put, List.setIfInBounds_toArray, List.set_cons_zero, List.set_cons_succ]
                      refine wpAnyF_take (fin := 8) (i := 3) (v := ?_) hcl (some 134) rfl rfl (by kernel_rfl) (by kernel_rfl) (by kernel_rfl) (fun _ _ _ h => h) (by kernel_rfl) ?_ (fun hcl => ?_)
                      rotate_left 1
                      · (refine Or.inl ⟨by rfl, ?_⟩; intro w' hw'; have hq := below_via hcur hw'; have hq_e0 := Ext.trans e0 hw'; (try go_simp); (try rfl); done)
                      try simp only [Act.put, List.setIfInBounds_toArray, List.set_cons_zero, List.set_cons_succ]
                      refine wpAnyF_take (fin := 8) (i := 4) (v := ?_) hcl (some 135) rfl rfl (by kernel_rfl) (by kernel_rfl) (by kernel_rfl) (fun _ _ _ h => h) (by kernel_rfl) ?_ (fun hcl => ?_)
                      rotate_left 1
                      · (refine Or.inl ⟨by rfl, ?_⟩; intro w' hw'; have hq := below_via hcur hw'; have hq_e0 := Ext.trans e0 hw'; have hcl := fcb _ hq_e0; (try go_simp); (try rfl); done)
                      try simp only [Act.put, List.setIfInBounds_toArray, List.set_cons_zero, List.set_cons_succ]
                      refine wpAnyF_take (fin := 8) (i := 5) (v := ?_) hcl (some 136) rfl rfl (by kernel_rfl) (by kernel_rfl) (by kernel_rfl) (fun _ _ _ h => h) (by kernel_rfl) ?_ (fun hcl => ?_)
                      rotate_left 1
                      · (refine Or.inl ⟨by rfl, ?_⟩; intro w' hw'; have hq := below_via hcur hw'; have hq_e0 := Ext.trans e0 hw'; (try go_simp); (try rfl); done)
                      try simp only [Act.put, List.setIfInBounds_toArray, List.set_cons_zero, List.set_cons_succ]
                      refine wpAnyF_take (fin := 8) (i := 6) (v := ?_) hcl (some 137) rfl rfl (by kernel_rfl) (by kernel_rfl) (by kernel_rfl) (fun _ _ _ h => h) (by kernel_rfl) ?_ (fun hcl => ?_)
                      rotate_left 1
                      · (refine Or.inl ⟨by rfl, ?_⟩; intro w' hw'; have hq := below_via hcur hw'; have hq_e0 := Ext.trans e0 hw'; (try go_simp); (try rfl); done)
                      try simp only [Act.put, List.setIfInBounds_toArray, List.set_cons_zero, List.set_cons_succ]
                      refine wpAnyF_take (fin := 8) (i := 7) (v := ?_) hcl (some 138) rfl rfl (by kernel_rfl) (by kernel_rfl) (by kernel_rfl) (fun _ _ _ h => h) (by kernel_rfl) ?_ (fun hcl => ?_)
                      rotate_left 1
                      · (refine Or.inl ⟨by rfl, ?_⟩; intro w' hw'; have hq := below_via hcur hw'; have hq_e0 := Ext.trans e0 hw'; (try go_simp); (try rfl); done)
                      try simp only [Act.put, List.setIfInBounds_toArray, List.set_cons_zero, List.set_cons_succ]
                      refine wpAnyF_last (fin := 8) rfl (by kernel_rfl) (by kernel_rfl) (by rfl) (fun K hK => ?_)
                      have hcl := fcb _ e0
                      have hfz : wr.drew.frozen? ⟨g, k * 32, none⟩ = false := hfb
                      go_simp
                      refine hK.out _ _ ?_
                      clear hK K hcl
                      go_wp2_with fail
                      go_roundw
                      case rel => exact ⟨k + 1, by omega, by go_num, hset2, hbX2⟩
                      case measure => simp [intOf]; omega
                    · obtain rfl : k = m := by omega
                      have hR8 : PlayR w wr p' q' n v v2 ds := ⟨hR7.r.but hbX (fun e => hgr (e ▸ .inl rfl)) (fun j hj e => hgr (e ▸ .inr hj)), hR7.s.but hbX (fun e => hgs (e ▸ .inl rfl)) (fun j hj e => hgs (e ▸ .inr hj)), Below.trans hR7.b (hbX.below hR7.b.size (fun j hj e => by omega))⟩
                      clear hX hXr hbX hR7 hgr hgs
                      go_wp2_with fail
                      refine (alike_any hR8.r hR8.s).mono ?_; rintro e w90 ⟨rfl, b90⟩
                      go_wp2_with fail
                      go_roundw
                      case rel => exact ⟨i + 1, p', q', n, v, v2, ds, by omega, rfl, rfl, by go_num, hR8.ext b90⟩
                      case measure => simp [intOf]; omega

              · have hszl : Hid (n ≤ 1048576) := Nat.le_of_not_lt hbig
                by_cases hpop : ds.length = popN 21 n
                · replace hpop : Hid _ := hpop
                  go_wp2_with fail
                  refine (rg_from _ ds wq2 n hq.sl (by omega) hpop.out).mono ?_; rintro e w5 ⟨p2, vN, rfl, hr5, b5⟩
                  have hq5 := hq.below b5
                  have hqs : Hid (∀ k, (Value.slice Aq ds.length cq).ownBlock = some k → W.heap.size ≤ k ∧ k < wq2.heap.size) := fun k hk => hq.lt k hk
                  go_wp2_with fail
                  refine (rr_from _ ds w5 n hq5.sl (by omega) hpsl2).mono ?_; rintro e w6 ⟨b6, h6⟩
                  rcases h6 with ⟨he6, q2, v2N, rfl, hs6⟩ | ⟨hne, _⟩
                  · clear he6
                    have hbq := Ext.trans hRq.b b5
                    have hR7 : PlayR w w6 p2 q2 n vN v2N ds := ⟨(show RgH w.heap.size w5 p2 n vN ds from ⟨hr5.at_, hr5.own.mono hRq.b.size, Nat.le_trans hRq.b.size hr5.ge, hr5.le, hr5.pop⟩).below b6, ⟨hs6.at_, hs6.own.mono hbq.size, Nat.le_trans hbq.size hs6.ge⟩, Ext.trans hbq b6⟩
                    have hq7 := hq5.below b6
                    have hge := hr5.ge
                    have hlt5 : Hid (∀ k, vN.ownBlock = some k → wq2.heap.size ≤ k) := fun k hk => (hr5.own.lt k hk).1
                    clear hRq hq hA hw0 hwt hr5 hs6 hq5 b5 b6 hbq
                    go_wp2_with fail
                    by_cases hz0 : ds.length = 0
                    · have hz0' : Hid (ds.length = 0) := hz0
                      rw [hz0]
                      clear hq7
                      clear hz0
                      go_loopw [19] (fun sk wr => sk = .int .i64 0 ∧ wr = w6) (fun _ _ => 0)
                      case atStart => exact ⟨rfl, rfl⟩
                      case round =>
                        obtain ⟨rfl, rfl⟩ := hrel
                        go_wp2_with fail
                        refine (rg_peaks hR7.r).mono ?_; rintro e w18 ⟨vz, rfl, hz, b18⟩
                        go_wp2_with fail
                        refine (rr_from vz ds w18 n hz.sl hszl.out hpsl2).mono ?_; rintro e w19 ⟨b19, h19⟩
                        rcases h19 with ⟨he19, q3, v3, rfl, hs19⟩ | ⟨hne, _⟩
                        · clear he19
                          have hR19 : PlayR w w19 p2 q3 n vN v3 ds := ⟨(hR7.r.below b18).below b19, ⟨hs19.at_, hs19.own.mono (Nat.le_trans hR7.b.size b18.size), Nat.le_trans (Nat.le_trans hR7.b.size b18.size) hs19.ge⟩, Ext.trans hR7.b (Ext.trans b18 b19)⟩
                          clear hR7 hz hs19 b18 b19
                          go_wp2_with fail
                          refine (alike_any hR19.r hR19.s).mono ?_; rintro e w90 ⟨rfl, b90⟩
                          go_wp2_with fail
                          go_roundw
                          case rel => exact ⟨i + 1, p2, q3, n, vN, v3, ds, by omega, rfl, rfl, by go_num, hR19.ext b90⟩
                          case measure => simp [intOf]; omega

                        · exact absurd hpop.out hne

                    · obtain ⟨g, cg, eq7, hgB, hgl⟩ := hq7.some (by omega)
                      injection eq7 with eA _ eC
                      subst eA eC
                      have hgr : ¬ RgB p2 vN g := fun h => by have h0 := (hqs.out g rfl).2; rcases h with h | h; (· omega); (· have := hlt5.out g h; omega)
                      have hgs : ¬ RgB q2 v2N g := hR7.s.neD hq7 g rfl
                      have hX : XrR w.heap.size w6 g ds.length cq := XrR.of (hq7.mono hBw)
                      have hgw : w.heap.size ≤ g := Nat.le_trans hBw hgB
                      clear hq7
                      generalize hm : ds.length = m at hX ⊢
                      have hml : m ≤ 2097152 := by rw [← hm]; exact hpsl2
                      replace hm : Hid _ := hm
                      go_loopw [19] (fun sk wr => ∃ k : Nat, k ≤ m ∧ sk = .int .i64 (k : Int) ∧ XrR w.heap.size wr g m cq ∧ But (fun j => j = g) w6 wr) (fun sk _ => m - (intOf sk).toNat)
                      case atStart => exact ⟨0, Nat.zero_le _, rfl, hX, But.refl _ _⟩
                      case round =>
                        obtain ⟨k, hk, rfl, hXr, hbX⟩ := hrel
                        by_cases hkm : k < m
                        · obtain ⟨b, hcb, hfb, hset⟩ := hXr.cell hkm
                          have hk1 : (k : Int) < m := by omega
                          have hk0 : (0 : Int) ≤ k := by omega
                          have hx1 := xor1 b
                          have hcur : Below wr.heap.size wr wr := Below.refl _ _
                          have e0 := Ext.refl wr
                          have hbl := World.block_lt_of_cell? _ _ hcb
                          have fcb := fun (w' : World) (hw : Ext wr w') => (hw.cell (p := ⟨g, k * 32, none⟩) hbl).trans hcb
                          have hbX2 := (hbX.setCell (p := ⟨g, k * 32, none⟩) rfl (.int .u8 (c8 (b ^^^ 1)))).drew
                          have hset2 := (hset (b ^^^ 1)).ext (ext_drew _)
                          go_wp2_with fail
                          refine wp_region_F 8 (by kernel_rfl) (fun hcl => ?_)
                          replace hcur := below_via hcur (ext_drew _)
                          replace e0 := Ext.trans e0 (ext_drew _)
                          refine wpAnyF_take (fin := 8) (i := 0) (v := ?_) hcl (some 131) rfl rfl (by kernel_rfl) (by kernel_rfl) (by kernel_rfl) (fun _ _ _ h => h) (by kernel_rfl) ?_ (fun hcl => ?_)
                          rotate_left 1
                          · (refine Or.inl ⟨by rfl, ?_⟩; intro w' hw'; have hq := below_via hcur hw'; have hq_e0 := Ext.trans e0 hw'; (try go_simp); (try rfl); done)
                          try simp only [Act.put, List.setIfInBounds_toArray, List.set_cons_zero, List.set_cons_succ]
                          refine wpAnyF_take (fin := 8) (i := 1) (v := ?_) hcl (some 132) rfl rfl (by kernel_rfl) (by kernel_rfl) (by kernel_rfl) (fun _ _ _ h => h) (by kernel_rfl) ?_ (fun hcl => ?_)
                          rotate_left 1
                          · (refine Or.inl ⟨by rfl, ?_⟩; intro w' hw'; have hq := below_via hcur hw'; have hq_e0 := Ext.trans e0 hw'; (try go_simp); (try rfl); done)
                          try simp only [Act.put, List.setIfInBounds_toArray, List.set_cons_zero, List.set_cons_succ]
                          refine wpAnyF_take (fin := 8) (i := 2) (v := ?_) hcl (some 133) rfl rfl (by kernel_rfl) (by kernel_rfl) (by kernel_rfl) (fun _ _ _ h => h) (by kernel_rfl) ?_ (fun hcl => ?_)
                          rotate_left 1
                          · (refine Or.inl ⟨by rfl, ?_⟩; intro w' hw'; have hq := below_via hcur hw'; have hq_e0 := Ext.trans e0 hw'; (try go_simp); (try rfl); done)
                          try simp only [Act.put, List.setIfInBounds_toArray, List.set_cons_zero, List.set_cons_succ]
                          refine wpAnyF_take (fin := 8) (i := 3) (v := ?_) hcl (some 134) rfl rfl (by kernel_rfl) (by kernel_rfl) (by kernel_rfl) (fun _ _ _ h => h) (by kernel_rfl) ?_ (fun hcl => ?_)
                          rotate_left 1
                          · (refine Or.inl ⟨by rfl, ?_⟩; intro w' hw'; have hq := below_via hcur hw'; have hq_e0 := Ext.trans e0 hw'; (try go_simp); (try rfl); done)
                          try simp only [Act.put, List.setIfInBounds_toArray, List.set_cons_zero, List.set_cons_succ]
                          refine wpAnyF_take (fin := 8) (i := 4) (v := ?_) hcl (some 135) rfl rfl (by kernel_rfl) (by kernel_rfl) (by kernel_rfl) (fun _ _ _ h => h) (by kernel_rfl) ?_ (fun hcl => ?_)
                          rotate_left 1
                          · (refine Or.inl ⟨by rfl, ?_⟩; intro w' hw'; have hq := below_via hcur hw'; have hq_e0 := Ext.trans e0 hw'; have hcl := fcb _ hq_e0; (try go_simp); (try rfl); done)
                          try simp only [Act.put, List.setIfInBounds_toArray, List.set_cons_zero, List.set_cons_succ]
                          refine wpAnyF_take (fin := 8) (i := 5) (v := ?_) hcl (some 136) rfl rfl (by kernel_rfl) (by kernel_rfl) (by kernel_rfl) (fun _ _ _ h => h) (by kernel_rfl) ?_ (fun hcl => ?_)
                          rotate_left 1
                          · (refine Or.inl ⟨by rfl, ?_⟩; intro w' hw'; have hq := below_via hcur hw'; have hq_e0 := Ext.trans e0 hw'; (try go_simp); (try rfl); done)
                          try simp only [Act.put, List.setIfInBounds_toArray, List.set_cons_zero, List.set_cons_succ]
                          refine wpAnyF_take (fin := 8) (i := 6) (v := ?_) hcl (some 137) rfl rfl (by kernel_rfl) (by kernel_rfl) (by kernel_rfl) (fun _ _ _ h => h) (by kernel_rfl) ?_ (fun hcl => ?_)
                          rotate_left 1
                          · (refine Or.inl ⟨by rfl, ?_⟩; intro w' hw'; have hq := below_via hcur hw'; have hq_e0 := Ext.trans e0 hw'; (try go_simp); (try rfl); done)
                          try simp only [Act.put, List.setIfInBounds_toArray, List.set_cons_zero, List.set_cons_succ]
                          refine wpAnyF_take (fin := 8) (i := 7) (v := ?_) hcl (some 138) rfl rfl (by kernel_rfl) (by kernel_rfl) (by kernel_rfl) (fun _ _ _ h => h) (by kernel_rfl) ?_ (fun hcl => ?_)
                          rotate_left 1
                          · (refine Or.inl ⟨by rfl, ?_⟩; intro w' hw'; have hq := below_via hcur hw'; have hq_e0 := Ext.trans e0 hw'; (try go_simp); (try rfl); done)
                          try simp only [Act.put, List.setIfInBounds_toArray, List.set_cons_zero, List.set_cons_succ]
                          refine wpAnyF_last (fin := 8) rfl (by kernel_rfl) (by kernel_rfl) (by rfl) (fun K hK => ?_)
                          have hcl := fcb _ e0
                          have hfz : wr.drew.frozen? ⟨g, k * 32, none⟩ = false := hfb
                          go_simp
                          refine hK.out _ _ ?_
                          clear hK K hcl
                          go_wp2_with fail
                          go_roundw
                          case rel => exact ⟨k + 1, by omega, by go_num, hset2, hbX2⟩
                          case measure => simp [intOf]; omega
                        · obtain rfl : k = m := by omega
                          have hR8 : PlayR w wr p2 q2 n vN v2N ds := ⟨hR7.r.but hbX (fun e => hgr (e ▸ .inl rfl)) (fun j hj e => hgr (e ▸ .inr hj)), hR7.s.but hbX (fun e => hgs (e ▸ .inl rfl)) (fun j hj e => hgs (e ▸ .inr hj)), Below.trans hR7.b (hbX.below hR7.b.size (fun j hj e => by omega))⟩
                          clear hX hXr hbX hR7 hgr hgs
                          go_wp2_with fail
                          refine (rg_peaks hR8.r).mono ?_; rintro e w18 ⟨vz, rfl, hz, b18⟩
                          go_wp2_with fail
                          refine (rr_from vz ds w18 n hz.sl hszl.out hpsl2).mono ?_; rintro e w19 ⟨b19, h19⟩
                          rcases h19 with ⟨he19, q3, v3, rfl, hs19⟩ | ⟨hne, _⟩
                          · clear he19
                            have hR19 : PlayR w w19 p2 q3 n vN v3 ds := ⟨(hR8.r.below b18).below b19, ⟨hs19.at_, hs19.own.mono (Nat.le_trans hR8.b.size b18.size), Nat.le_trans (Nat.le_trans hR8.b.size b18.size) hs19.ge⟩, Ext.trans hR8.b (Ext.trans b18 b19)⟩
                            clear hR8 hz hs19 b18 b19
                            go_wp2_with fail
                            refine (alike_any hR19.r hR19.s).mono ?_; rintro e w90 ⟨rfl, b90⟩
                            go_wp2_with fail
                            go_roundw
                            case rel => exact ⟨i + 1, p2, q3, n, vN, v3, ds, by omega, rfl, rfl, by go_num, hR19.ext b90⟩
                            case measure => simp [intOf]; omega

                          · exact absurd hpop.out hne

                  · exact absurd hpop.out hne
                · replace hpop : Hid _ := hpop
                  go_wp2_with fail
                  refine (from_other Aq _ cq wq2 n (by omega) hpop.out).mono ?_; rintro e w5 ⟨rfl, rfl⟩
                  go_wp2_with fail
                  refine (rr_from _ ds wq2 n hq.sl (by omega) hpsl2).mono ?_; rintro e w6 ⟨b6, h6⟩
                  rcases h6 with ⟨he, _⟩ | ⟨hne6, rfl⟩
                  · exact absurd he hpop.out
                  · clear hne6
                    have hR7 := hRq.ext b6
                    have hq7 := hq.below b6
                    clear hRq hq hA hw0 hwt b6
                    go_wp2_with fail
                    by_cases hz0 : ds.length = 0
                    · have hz0' : Hid (ds.length = 0) := hz0
                      rw [hz0]
                      clear hq7
                      clear hz0
                      go_loopw [19] (fun sk wr => sk = .int .i64 0 ∧ wr = w6) (fun _ _ => 0)
                      case atStart => exact ⟨rfl, rfl⟩
                      case round =>
                        obtain ⟨rfl, rfl⟩ := hrel
                        go_wp2_with fail
                        refine (alike_any hR7.r hR7.s).mono ?_; rintro e w90 ⟨rfl, b90⟩
                        go_wp2_with fail
                        go_roundw
                        case rel => exact ⟨i + 1, p', q', n, v, v2, ds, by omega, rfl, rfl, by go_num, hR7.ext b90⟩
                        case measure => simp [intOf]; omega

                    · obtain ⟨g, cg, eq7, hgB, hgl⟩ := hq7.some (by omega)
                      injection eq7 with eA _ eC
                      subst eA eC
                      have hgr : ¬ RgB p' v g := fun h => by have := hlo g h; omega
                      have hgs : ¬ RgB q' v2 g := hR7.s.neD hq7 g rfl
                      have hX : XrR w.heap.size w6 g ds.length cq := XrR.of (hq7.mono hBw)
                      have hgw : w.heap.size ≤ g := Nat.le_trans hBw hgB
                      clear hq7
                      generalize hm : ds.length = m at hX ⊢
                      have hml : m ≤ 2097152 := by rw [← hm]; exact hpsl2
                      replace hm : Hid _ := hm
                      go_loopw [19] (fun sk wr => ∃ k : Nat, k ≤ m ∧ sk = .int .i64 (k : Int) ∧ XrR w.heap.size wr g m cq ∧ But (fun j => j = g) w6 wr) (fun sk _ => m - (intOf sk).toNat)
                      case atStart => exact ⟨0, Nat.zero_le _, rfl, hX, But.refl _ _⟩
                      case round =>
                        obtain ⟨k, hk, rfl, hXr, hbX⟩ := hrel
                        by_cases hkm : k < m
                        · obtain ⟨b, hcb, hfb, hset⟩ := hXr.cell hkm
                          have hk1 : (k : Int) < m := by omega
                          have hk0 : (0 : Int) ≤ k := by omega
                          have hx1 := xor1 b
                          have hcur : Below wr.heap.size wr wr := Below.refl _ _
                          have e0 := Ext.refl wr
                          have hbl := World.block_lt_of_cell? _ _ hcb
                          have fcb := fun (w' : World) (hw : Ext wr w') => (hw.cell (p := ⟨g, k * 32, none⟩) hbl).trans hcb
                          have hbX2 := (hbX.setCell (p := ⟨g, k * 32, none⟩) rfl (.int .u8 (c8 (b ^^^ 1)))).drew
                          have hset2 := (hset (b ^^^ 1)).ext (ext_drew _)
                          go_wp2_with fail
                          refine wp_region_F 8 (by kernel_rfl) (fun hcl => ?_)
                          replace hcur := below_via hcur (ext_drew _)
                          replace e0 := Ext.trans e0 (ext_drew _)
                          refine wpAnyF_take (fin := 8) (i := 0) (v := ?_) hcl (some 131) rfl rfl (by kernel_rfl) (by kernel_rfl) (by kernel_rfl) (fun _ _ _ h => h) (by kernel_rfl) ?_ (fun hcl => ?_)
                          rotate_left 1
                          · (refine Or.inl ⟨by rfl, ?_⟩; intro w' hw'; have hq := below_via hcur hw'; have hq_e0 := Ext.trans e0 hw'; (try go_simp); (try rfl); done)
                          try simp only [Act.put, List.setIfInBounds_toArray, List.set_cons_zero, List.set_cons_succ]
                          refine wpAnyF_take (fin := 8) (i := 1) (v := ?_) hcl (some 132) rfl rfl (by kernel_rfl) (by kernel_rfl) (by kernel_rfl) (fun _ _ _ h => h) (by kernel_rfl) ?_ (fun hcl => ?_)
                          rotate_left 1
                          · (refine Or.inl ⟨by rfl, ?_⟩; intro w' hw'; have hq := below_via hcur hw'; have hq_e0 := Ext.trans e0 hw'; (try go_simp); (try rfl); done)
                          try simp only [Act.put, List.setIfInBounds_toArray, List.set_cons_zero, List.set_cons_succ]
                          refine wpAnyF_take (fin := 8) (i := 2) (v := ?_) hcl (some 133) rfl rfl (by kernel_rfl) (by kernel_rfl) (by kernel_rfl) (fun _ _ _ h => h) (by kernel_rfl) ?_ (fun hcl => ?_)
                          rotate_left 1
                          · (refine Or.inl ⟨by rfl, ?_⟩; intro w' hw'; have hq := below_via hcur hw'; have hq_e0 := Ext.trans e0 hw'; (try go_simp); (try rfl); done)
                          try simp only [Act.put, List.setIfInBounds_toArray, List.set_cons_zero, List.set_cons_succ]
                          refine wpAnyF_take (fin := 8) (i := 3) (v := ?_) hcl (some 134) rfl rfl (by kernel_rfl) (by kernel_rfl) (by kernel_rfl) (fun _ _ _ h => h) (by kernel_rfl) ?_ (fun hcl => ?_)
                          rotate_left 1
                          · (refine Or.inl ⟨by rfl, ?_⟩; intro w' hw'; have hq := below_via hcur hw'; have hq_e0 := Ext.trans e0 hw'; (try go_simp); (try rfl); done)
                          try simp only [Act.put, List.setIfInBounds_toArray, List.set_cons_zero, List.set_cons_succ]
                          refine wpAnyF_take (fin := 8) (i := 4) (v := ?_) hcl (some 135) rfl rfl (by kernel_rfl) (by kernel_rfl) (by kernel_rfl) (fun _ _ _ h => h) (by kernel_rfl) ?_ (fun hcl => ?_)
                          rotate_left 1
                          · (refine Or.inl ⟨by rfl, ?_⟩; intro w' hw'; have hq := below_via hcur hw'; have hq_e0 := Ext.trans e0 hw'; have hcl := fcb _ hq_e0; (try go_simp); (try rfl); done)
                          try simp only [Act.put, List.setIfInBounds_toArray, List.set_cons_zero, List.set_cons_succ]
                          refine wpAnyF_take (fin := 8) (i := 5) (v := ?_) hcl (some 136) rfl rfl (by kernel_rfl) (by kernel_rfl) (by kernel_rfl) (fun _ _ _ h => h) (by kernel_rfl) ?_ (fun hcl => ?_)
                          rotate_left 1
                          · (refine Or.inl ⟨by rfl, ?_⟩; intro w' hw'; have hq := below_via hcur hw'; have hq_e0 := Ext.trans e0 hw'; (try go_simp); (try rfl); done)
                          try simp only [Act.put, List.setIfInBounds_toArray, List.set_cons_zero, List.set_cons_succ]
                          refine wpAnyF_take (fin := 8) (i := 6) (v := ?_) hcl (some 137) rfl rfl (by kernel_rfl) (by kernel_rfl) (by kernel_rfl) (fun _ _ _ h => h) (by kernel_rfl) ?_ (fun hcl => ?_)
                          rotate_left 1
                          · (refine Or.inl ⟨by rfl, ?_⟩; intro w' hw'; have hq := below_via hcur hw'; have hq_e0 := Ext.trans e0 hw'; (try go_simp); (try rfl); done)
                          try simp only [Act.put, List.setIfInBounds_toArray, List.set_cons_zero, List.set_cons_succ]
                          refine wpAnyF_take (fin := 8) (i := 7) (v := ?_) hcl (some 138) rfl rfl (by kernel_rfl) (by kernel_rfl) (by kernel_rfl) (fun _ _ _ h => h) (by kernel_rfl) ?_ (fun hcl => ?_)
                          rotate_left 1
                          · (refine Or.inl ⟨by rfl, ?_⟩; intro w' hw'; have hq := below_via hcur hw'; have hq_e0 := Ext.trans e0 hw'; (try go_simp); (try rfl); done)
                          try simp only [Act.put, List.setIfInBounds_toArray, List.set_cons_zero, List.set_cons_succ]
                          refine wpAnyF_last (fin := 8) rfl (by kernel_rfl) (by kernel_rfl) (by rfl) (fun K hK => ?_)
                          have hcl := fcb _ e0
                          have hfz : wr.drew.frozen? ⟨g, k * 32, none⟩ = false := hfb
                          go_simp
                          refine hK.out _ _ ?_
                          clear hK K hcl
                          go_wp2_with fail
                          go_roundw
                          case rel => exact ⟨k + 1, by omega, by go_num, hset2, hbX2⟩
                          case measure => simp [intOf]; omega
                        · obtain rfl : k = m := by omega
                          have hR8 : PlayR w wr p' q' n v v2 ds := ⟨hR7.r.but hbX (fun e => hgr (e ▸ .inl rfl)) (fun j hj e => hgr (e ▸ .inr hj)), hR7.s.but hbX (fun e => hgs (e ▸ .inl rfl)) (fun j hj e => hgs (e ▸ .inr hj)), Below.trans hR7.b (hbX.below hR7.b.size (fun j hj e => by omega))⟩
                          clear hX hXr hbX hR7 hgr hgs
                          go_wp2_with fail
                          refine (alike_any hR8.r hR8.s).mono ?_; rintro e w90 ⟨rfl, b90⟩
                          go_wp2_with fail
                          go_roundw
                          case rel => exact ⟨i + 1, p', q', n, v, v2, ds, by omega, rfl, rfl, by go_num, hR8.ext b90⟩
                          case measure => simp [intOf]; omega

            · have q0 : (what == 0) = false := by simpa using k0
              have q1 : (what == 1) = false := by simpa using k1
              have q2 : (what == 2) = false := by simpa using k2
              have q3 : (what == 3) = false := by simpa using k3
              go_wp2_with fail
              refine (alike_any hR.r hR.s).mono ?_; rintro e w90 ⟨rfl, b90⟩
              go_wp2_with fail
              go_roundw
              case rel => exact ⟨i + 1, p', q', n, v, v2, ds, by omega, rfl, rfl, by go_num, hR.ext b90⟩
              case measure => simp [intOf]; omega
    · obtain rfl : i = zs.length := by omega
      have hb := hR.b
      clear hR
      go_wp2_with fail
      go_ret
      exact ⟨rfl, hb⟩
end Go.Proofs.Ytcaaeimcieooiaa
