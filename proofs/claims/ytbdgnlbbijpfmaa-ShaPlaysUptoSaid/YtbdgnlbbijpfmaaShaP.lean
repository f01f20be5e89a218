/- The law of chapter 2 on parts that are asked between and copied, walked. -/
import Derived.Test.YtbdgnlbbijpfmaaShaQ
import Derived.Test.YtbdgnlbbijpfmaaOpL
set_option linter.unusedVariables false
set_option linter.unusedSimpArgs false
namespace Go.Proofs.Ytbdgnlbbijpfmaa
open Go.RowKit
attribute [local go_sem high] guard_dg sha_length unhexL_length hexL_length zer_length

/-- A part of the law. -/
structure ActP where
  (b : List UInt8) (sum copy : Bool)
def ActC (w : World) (cs : List Value) (a : ActP) : Prop := ∃ v, cs = [v, .bool a.sum, .bool a.copy] ∧ SlB w v a.b

theorem apart_own {B x : Nat} {w : World} {v : Value} {xs : List UInt8} (h : OwB B w v xs) (hx : x < B) : Apart v x := by
  rintro ad n c rfl
  have := h.2
  rcases this with ⟨e, _⟩ | ⟨g, cap, cur, e, hb, _⟩
  · cases e
  · injection e with e1 e2 e3
    injection e1 with e1
    rw [e1]; show g ≠ x; omega
theorem own_ne_st {B x : Nat} {w : World} {v : Value} {xs ys : List UInt8} (h : OwB B w v xs) (hs : St w x ys) : v.ownBlock ≠ some x := by
  intro e
  obtain ⟨_, rest, _, _, hx⟩ := hs
  rcases h.2 with ⟨e1, _⟩ | ⟨g, cap, cur, e1, hb, hg, _⟩
  · subst e1; cases e
  · subst e1
    simp [Value.ownBlock] at e
    subst e
    rw [hx] at hg
    simp at hg
theorem OwB.keptBut {B : Nat} {w w' : World} {v : Value} {xs : List UInt8} {row : Option Nat} (h : OwB B w v xs) (hg : w.grownBy w' row) (hne : v.ownBlock ≠ row ∨ v.ownBlock = none) : OwB B w' v xs :=
  World.ownsRow.kept h hg (hne.symm)
theorem St.keptBut {w w' : World} {x : Nat} {xs : List UInt8} {row : Option Nat} (h : St w x xs) (hg : w.grownBy w' row) (hne : row ≠ some x) : St w' x xs := h.kept hg (fun e => hne e.symm)
theorem St.at {B : Nat} {w w' : World} {x : Nat} {xs : List UInt8} (h : St w x xs) (hx : x < B) (hb : Below B w w') : St w' x xs := by
  obtain ⟨h1, rest, h2, h3, h4⟩ := h
  exact ⟨h1, rest, h2, h3, (hb.block x hx).trans h4⟩
theorem OwB.at {B B0 : Nat} {w w' : World} {v : Value} {xs : List UInt8} (h : OwB B0 w v xs) (hlt : ∀ g, v.ownBlock = some g → g < B) (hb : Below B w w') : OwB B0 w' v xs := by
  refine ⟨h.1, ?_⟩
  rcases h.2 with hn | ⟨g, cap, cur, e, h1, h2, h3⟩
  · exact .inl hn
  · exact .inr ⟨g, cap, cur, e, h1, (hb.block g (hlt g (by subst e; rfl))).trans h2, h3⟩
theorem xor1 (y : UInt8) : bits .xor .u8 (c8 y) 1 = c8 (y ^^^ 1) := by
  have : ∀ n : Fin 256, bits .xor .u8 (n.val : Int) 1 = c8 (UInt8.ofNat n.val ^^^ 1) := by decide +kernel
  have h := this ⟨y.toNat, y.toNat_lt⟩
  simp only [UInt8.ofNat_toNat] at h
  exact h
theorem OwB.some {B n c : Nat} {w : World} {A : Option Addr} {xs : List UInt8} (h : OwB B w (.slice A n c) xs) (hn : 0 < xs.length) : ∃ g, A = some ⟨g, 0, none⟩ ∧ B ≤ g ∧ n = xs.length := by
  have h1 := h.sl
  obtain ⟨A', c', e, _⟩ := h1
  injection e with e1 e2 e3
  rcases h.2 with ⟨e, h0⟩ | ⟨g, cap, cur, e, hb, _⟩
  · injection e with _ e _; omega
  · injection e with e _ _; exact ⟨g, e, hb, e2⟩
theorem OwB.set {B n c g : Nat} {w : World} {xs : List UInt8} (h : OwB B w (.slice (.some ⟨g, 0, none⟩) n c) xs) (hn : n = xs.length) (j : Nat) (y : UInt8) : OwB B (w.setCell ⟨g, j, none⟩ (.int .u8 (c8 y))) (.slice (.some ⟨g, 0, none⟩) n c) (xs.set j y) := by
  subst hn
  have := (World.ownsRow.stored h j (.int .u8 (c8 y))).1
  unfold OwB
  rw [List.length_set]
  have e : bs (xs.set j y) = (bs xs).set j (.int .u8 (c8 y)) := by simp [bs, List.map_set]
  rw [e]; exact this
/-- 'append' of bytes onto a slice of the call's own, and which block it turns. -/
theorem wpl_apBg {w : World} {ops : Array Oper} {rest : List Oper} {o : Oper} {a : Act} {Q : Exit → Act → World → Prop}
    (hg : o.guard = none) (s x : Operand) (hop : o.op = Op.call { callee := Callee.builtin Builtin.append, args := #[s, x], argTypes := #[22, 22] })
    {B : Nat} {v vx : Value} {xs ys : List UInt8} (hs : a.eval s = v) (hown : OwB B w v xs) (hx : a.eval x = vx) (hsrc : SlB w vx ys)
    (hlen : xs.length + ys.length ≤ 140737488355328) (hB : B ≤ w.heap.size)
    (hK : ∀ v' w', OwB B w' v' (xs ++ ys) → w.grownBy w' v.ownBlock → wpList Try.prog ops Q rest (a.put o.dst v') w') : wpList Try.prog ops Q (o :: rest) a w := by
  obtain ⟨A, c, rfl, hc, hcm, hA, hr⟩ := hsrc
  refine wpl_ap_own (size := 1) (bytes := 1) (base := B) w hg s x 22 hop Try.underlying22 info8 rfl (by decide) hs hown (bs ys) hx hA hc (by simp [bs]) hr (bs_one _) (by omega) (by omega) hB ?_
  intro v' w' ho hgr
  refine hK v' w' ?_ hgr
  unfold OwB; rw [List.length_append, bs_append]; exact ho

theorem below_grown_at' {n : Nat} {w0 w w' : World} {row : Option Nat} (h : Below n w0 w) (hg : w.grownBy w' row) (hB : n ≤ w.heap.size) (hr : ∀ g, row = .some g → n ≤ g) : Below n w0 w' := Below.grown h hg hB hr
theorem addr_add (ad : Addr) (a b : Nat) : (ad.add a).add b = ad.add (a + b) := by
  unfold Addr.add
  by_cases q1 : a = 0
  · simp [q1]
  · by_cases q2 : b = 0
    · simp [q1, q2]
    · simp [q1, q2, Nat.add_assoc]
set_option maxRecDepth 10000 in
set_option maxHeartbeats 4000000 in
theorem law_ShaPlays (v : Value) (w : World) (css : List (List Value)) (zs : List ActP) (hl : ListAt 3 (ActC w) css zs) (hv : Sl w v zs.length css.flatten) (hsz : (zs.map fun a => a.b.length + 1).sum ≤ 1048576) :
    Calls Try.prog 6 #[v] w fun e w' => e = .returned (.bool true) ∧ Below w.heap.size w w' := by
  have kc := fun (w : World) (C : Array Value) (n c : Nat) => Lib.run_convert_bytes_const (P := Try.prog) w 22 5 C n c Try.underlying22 Try.underlying5
  obtain ⟨A, c, rfl, hc, hcm, hA, hrr⟩ := hv
  go_enter Try.func6, Try.ntmps6
  go_wp2_with fail
  refine (new_any _).mono ?_
  rintro e w1 ⟨x, rfl, hx, hs1, b1⟩
  go_wp2_with fail
  refine (wakes_any _).mono ?_
  rintro e w2 ⟨rfl, b2⟩
  have hs2 := hs1.below b2
  have bw2 := Ext.trans b1 b2
  clear hs1 b1 b2
  go_wp2_with fail
  go_loopw [3, 4, 5] (fun sp va i wr => ∃ k x : Nat, k ≤ zs.length ∧ w.heap.size ≤ x ∧ sp = .pointer (some ⟨x, 0, none⟩) ∧ i = .int .i64 k ∧ OwB w.heap.size wr va ((zs.take k).flatMap (·.b)) ∧ St wr x ((zs.take k).flatMap (·.b)) ∧ Below w.heap.size w wr) (fun _ _ i _ => zs.length - (intOf i).toNat)
  case atStart => exact ⟨0, x, by omega, hx, rfl, rfl, OwB.nil _ _, hs2, bw2⟩
  case round =>
    clear hs2 bw2 hx
    obtain ⟨k, x, hk, hx, rfl, rfl, ho, hs, bw⟩ := hrel
    generalize wr = W0 at *
    have zx := hs.lt
    have zw := bw.size
    have hlens : ∀ j, j ≤ zs.length → ((zs.take j).flatMap (·.b)).length ≤ 1048576 := by
      intro j _
      have : ∀ l : List ActP, (l.flatMap (·.b)).length ≤ (l.map fun a => a.b.length + 1).sum := by
        intro l; induction l with
        | nil => simp
        | cons a r ih => rw [List.flatMap_cons, List.length_append, List.map_cons, List.sum_cons]; omega
      have h1 := this (zs.take j)
      have h2 : ((zs.take j).map fun a => a.b.length + 1).sum + ((zs.drop j).map fun a => a.b.length + 1).sum = (zs.map fun a => a.b.length + 1).sum := by
        rw [← List.sum_append, ← List.map_append, List.take_append_drop]
      omega
    by_cases hlt : k < zs.length
    · have hcl : k < css.length := by rw [hl.len]; exact hlt
      have hfg := flatten_get (k := 3) (by decide) css hl.each
      obtain ⟨pv, hcs, hpv⟩ := hl.rel k (css[k]) (zs[k]) (by simp [hcl]) (by simp [hlt])
      have hgj : ∀ j, j < 3 → css.flatten[k * 3 + j]? = (css[k])[j]? := fun j hj => by
        rw [hfg, show (k * 3 + j) / 3 = k by omega, show (k * 3 + j) % 3 = j by omega, List.getElem?_eq_getElem hcl]; rfl
      have htk : (zs.take (k + 1)).flatMap (·.b) = (zs.take k).flatMap (·.b) ++ (zs[k]).b := by
        rw [List.take_succ_eq_append_getElem hlt, List.flatMap_append]; simp
      have hL0 := hlens k hk
      have hL1 := hlens (k + 1) hlt
      rw [htk, List.length_append] at hL1
      rw [hcs] at hgj
      generalize zs[k] = a at hgj hpv htk hL1
      obtain ⟨ab, asum, acopy⟩ := a
      simp only at hgj hpv htk hL1
      obtain ⟨ad, rfl, c0⟩ := hrr (k * 3) pv (by have := hgj 0 (by omega); rw [Nat.add_zero] at this; rw [this]; rfl)
      have hcell := fun j u (hj : css.flatten[k * 3 + j]? = some u) => (Rc.some_ hrr (k * 3 + j) u hj)
      have c1 := hcell 1 (.bool asum) (by rw [hgj 1 (by omega)]; rfl)
      have c2 := hcell 2 (.bool acopy) (by rw [hgj 2 (by omega)]; rfl)
      clear hcell hgj hfg hcs hcl hlens
      have hpv0 := hpv.below bw
      have keepc : ∀ (W : World), Below w.heap.size w W → ∀ j u, w.cell? (ad.add j) = some u → W.cell? (ad.add j) = some u := fun W hb j u h => (hb.cell (World.block_lt_of_cell? w _ h)).trans h
      have d0 := keepc W0 bw _ _ c0
      have d1 := keepc W0 bw _ _ c1
      have d2 := keepc W0 bw _ _ c2
      generalize (zs.take k).flatMap (·.b) = all at *
      go_wp2_with (at_builtin; go_loud (refine wpl_cpB rfl _ _ rfl rfl rfl hpv0 (by omega) ?_))
      intro vb w3 hb b3
      have hs3 := hs.below b3
      have ho3 := ho.below b3
      have hapb := apart_own hb zx
      have bw3 := Ext.trans bw b3
      have z3 := b3.size
      go_wp2_with fail
      refine (write_any x all ab _ _ hs3 hb.sl (fun _ => hapb) (by omega)).mono ?_
      rintro e w4 ⟨rfl, hs4, g4⟩
      have hb4 := hb.keptBut g4 (.inl (own_ne_st hb hs3))
      have ho4 := ho3.keptBut g4 (.inl (own_ne_st ho3 hs3))
      have bw4 := below_grown_at bw3 g4 bw3.size hx
      have z4 : w3.heap.size ≤ w4.heap.size := g4.size
      have holt := ho.lt
      obtain ⟨Ab, cb, rfl, _, _, _, _⟩ := id hb4.sl
      go_wp2_with fail
      go_loopw [7] (fun i w' => ∃ (j : Nat) (ys : List UInt8), j ≤ ab.length ∧ i = .int .i64 j ∧ ys.length = ab.length ∧ OwB W0.heap.size w' (.slice Ab ab.length cb) ys ∧ Below W0.heap.size w4 w') (fun i _ => ab.length - (intOf i).toNat)
      case atStart => exact ⟨0, ab, by omega, rfl, rfl, hb4, Below.refl _ _⟩
      case round =>
        obtain ⟨j, ys, hj, rfl, hyl, hb5, b5⟩ := hrel
        by_cases hj2 : j < ab.length
        · obtain ⟨g, rfl, hgB, _⟩ := hb5.some (by omega)
          have hb6 := hb5
          rw [← hyl] at hb6
          have f1 := World.ownsRow.cellAt hb6 j (by omega)
          rw [bs_get _ (by omega)] at f1
          have f2 := World.ownsRow.frozenAt hb6 j
          clear hb6
          have hset := hb5.set hyl.symm j (ys.getD j 0 ^^^ 1)
          generalize ys.getD j 0 = y at f1 hset
          clear keepc c0 c1 c2 d0 d1 d2 hs4 ho4 hb4 hs3 ho3 hs ho hb hpv hpv0 hl hrr hb5 holt
          replace hset : Hid _ := hset
          replace hyl : Hid _ := hyl
          go_wp2_with fail
          rw [xor1]
          exact ⟨⟨j + 1, _, by omega, by go_num, by rw [List.length_set]; exact hyl.out, hset.out, below_setCell b5 hgB _⟩, by simp [intOf]; omega⟩
        · obtain rfl : j = ab.length := by omega
          have hs5 := hs4.at zx b5
          have ho5 := ho4.at (fun g hg => (holt g hg).2) b5
          have bw5 := bw4.trans (b5.mono zw)
          have z5 := bw5.size
          have hpv5 := hpv.below bw5
          have d0 := keepc wr bw5 _ _ c0
          have d1 := keepc wr bw5 _ _ c1
          have d2 := keepc wr bw5 _ _ c2
          clear hb5 b5 hs4 ho4 bw4 hb4 hs3 ho3 bw3 hapb hb b3 g4 holt hs ho
          generalize wr = W5 at *
          go_wp2_with (at_builtin; go_loud (refine wpl_apBg (B := w.heap.size) rfl _ _ rfl rfl ho5 rfl hpv5 (by omega) z5 ?_))
          intro va6 w6 ho6 g6
          have hs6 := hs5.keptBut g6 (own_ne_st ho5 hs5)
          have bw6 := below_grown_at' bw5 g6 z5 (fun g hg => (ho5.lt g hg).1)
          rw [← htk] at ho6 hs6
          have hL2 : ((zs.take (k + 1)).flatMap (·.b)).length ≤ 1048576 := by rw [htk, List.length_append]; omega
          have e6 := keepc w6 bw6 _ _ c0
          have a1 : ad.add (k * 3 + 1) = ⟨(ad.add (k * 3)).block, (ad.add (k * 3)).off + 1, none⟩ := (addr_add ad (k * 3) 1).symm
          have a2 : ad.add (k * 3 + 2) = ⟨(ad.add (k * 3)).block, (ad.add (k * 3)).off + 2, none⟩ := (addr_add ad (k * 3) 2).symm
          rw [a1] at c1
          rw [a2] at c2
          have keepd : ∀ (W : World), Below w.heap.size w W → ∀ q u, w.cell? q = some u → W.cell? q = some u := fun W hb q u h => (hb.cell (World.block_lt_of_cell? w _ h)).trans h
          have e1 := keepd w6 bw6 _ _ c1
          have e2 := keepd w6 bw6 _ _ c2
          clear a1 a2
          clear d0 d1 d2 hs5 ho5 bw5 g6 hpv5 z5 htk hL0 hL1
          clear keepc keepd hpv hpv0 hl hrr c0 c1 c2 e6
          generalize hal : (zs.take (k + 1)).flatMap (·.b) = all2 at *
          replace hal : Hid _ := hal
          obtain ⟨A6, c6, rfl, _, _, _, _⟩ := id ho6.sl
          have w64 : IntKind.u64.wrap (all2.length : Int) = all2.length := by rw [IntKind.wrap_u64]; omega
          have qn := neq_dg_self (sha all2) (sha_length _)
          have z6 := bw6.size
          go_wp2_with fail
          refine (len_any x all2 _ hs6).mono ?_
          rintro e w7 ⟨rfl, rfl⟩
          cases asum
          · cases acopy
            · go_wp2_with fail
              exact ⟨⟨k + 1, x, by omega, hx, rfl, by go_num, by rw [hal.out]; exact ho6, by rw [hal.out]; exact hs6, bw6⟩, by simp [intOf]; omega⟩
            · go_wp2_with fail
              refine (copy_any x all2 _ hs6).mono ?_
              rintro e w8 ⟨x', rfl, hx', hs8, b8⟩
              have hs68 := hs6.below b8
              have ho8 := ho6.below b8
              have bw8 := Ext.trans bw6 b8
              go_wp2_with fail
              have z8 := bw8.size
              have ol := slB_lit w8 [111, 116, 104, 101, 114, 115] 5 (6, 7) (by decide)
              have be := ext_alloc w8 (.cells (bs [111, 116, 104, 101, 114, 115]).toArray 5 (6, 7))
              refine (write_any x all2 [111, 116, 104, 101, 114, 115] _ _ (hs68.below be) ol (fun _ => apart_new _ _ hs68 _ _) (by simp; omega)).mono ?_
              rintro e w9 ⟨rfl, _, g9⟩
              have hxx : x ≠ x' := by have := hs6.lt; omega
              have hs9 := (hs8.below be).keptBut g9 (by intro e; injection e with e; exact hxx e)
              have ho9 := (ho8.below be).keptBut g9 (.inl (own_ne_st (ho8.below be) (hs68.below be)))
              have bw9 := below_grown_at (Ext.trans bw8 be) g9 (Ext.trans bw8 be).size hx
              go_wp2_with fail
              exact ⟨⟨k + 1, x', by omega, by omega, rfl, by go_num, by rw [hal.out]; exact ho9, by rw [hal.out]; exact hs9, bw9⟩, by simp [intOf]; omega⟩
          · go_wp2_with fail
            refine (sumSt_any x all2 _ hs6 (by omega)).mono ?_
            rintro e w8 ⟨rfl, b8⟩
            have hs7 := hs6.below b8
            have ho7 := ho6.below b8
            have bw7 := Ext.trans bw6 b8
            have e1 := (b8.cell (World.block_lt_of_cell? _ _ e1)).trans e1
            have e2 := (b8.cell (World.block_lt_of_cell? _ _ e2)).trans e2
            clear hs6 ho6 bw6 b8
            go_wp2_with fail
            refine (rsum_any _ all2 _ ho7.sl (by omega)).mono ?_
            rintro e w9 ⟨rfl, b9⟩
            have hs6 := hs7.below b9
            have ho6 := ho7.below b9
            have bw6 := Ext.trans bw7 b9
            have e2 := (b9.cell (World.block_lt_of_cell? _ _ e2)).trans e2
            clear hs7 ho7 bw7 b9
            cases acopy
            · go_wp2_with fail
              exact ⟨⟨k + 1, x, by omega, hx, rfl, by go_num, by rw [hal.out]; exact ho6, by rw [hal.out]; exact hs6, bw6⟩, by simp [intOf]; omega⟩
            · go_wp2_with fail
              refine (copy_any x all2 _ hs6).mono ?_
              rintro e w8 ⟨x', rfl, hx', hs8, b8⟩
              have hs68 := hs6.below b8
              have ho8 := ho6.below b8
              have bw8 := Ext.trans bw6 b8
              go_wp2_with fail
              have z8 := bw8.size
              have z9 := bw6.size
              have ol := slB_lit w8 [111, 116, 104, 101, 114, 115] 5 (6, 7) (by decide)
              have be := ext_alloc w8 (.cells (bs [111, 116, 104, 101, 114, 115]).toArray 5 (6, 7))
              refine (write_any x all2 [111, 116, 104, 101, 114, 115] _ _ (hs68.below be) ol (fun _ => apart_new _ _ hs68 _ _) (by simp; omega)).mono ?_
              rintro e w9 ⟨rfl, _, g9⟩
              have hxx : x ≠ x' := by have := hs6.lt; omega
              have hs9 := (hs8.below be).keptBut g9 (by intro e; injection e with e; exact hxx e)
              have ho9 := (ho8.below be).keptBut g9 (.inl (own_ne_st (ho8.below be) (hs68.below be)))
              have bw9 := below_grown_at (Ext.trans bw8 be) g9 (Ext.trans bw8 be).size hx
              go_wp2_with fail
              exact ⟨⟨k + 1, x', by omega, by omega, rfl, by go_num, by rw [hal.out]; exact ho9, by rw [hal.out]; exact hs9, bw9⟩, by simp [intOf]; omega⟩
    · obtain rfl : k = zs.length := by omega
      have hL := hlens zs.length (Nat.le_refl _)
      rw [List.take_length] at hL ho hs
      generalize zs.flatMap (·.b) = all at *
      have qe := eql_dg_self (sha all) (sha_length _)
      clear hlens hl hrr
      go_wp2_with fail
      refine (sumSt_any x all _ hs (by omega)).mono ?_
      rintro e w3 ⟨rfl, b3⟩
      have ho3 := ho.below b3
      go_wp2_with fail
      refine (rsum_any _ all _ ho3.sl (by omega)).mono ?_
      rintro e w4 ⟨rfl, b4⟩
      go_wp2_with fail
      go_ret
      exact ⟨rfl, Ext.trans bw (Ext.trans b3 b4)⟩
end Go.Proofs.Ytbdgnlbbijpfmaa
