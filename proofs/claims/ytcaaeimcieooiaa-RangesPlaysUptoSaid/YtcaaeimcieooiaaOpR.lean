/- The acts of the law RangesPlays, laid open. -/
import Derived.Test.YtcaaeimcieooiaaOpL
import Derived.Test.YtcaaeimcieooiaaRngT
import Derived.OpenShut
set_option linter.unusedVariables false
set_option linter.unusedSimpArgs false
set_option maxRecDepth 10000
namespace Go.Proofs.Ytcaaeimcieooiaa
open Go.ChangeShapes Go.WideShapes Go.ChangeAt Go.RowKit

theorem bulk_pos {H : Type} (d : DataW H) : 1 ≤ Rows.uptoBulk d := by
  cases d with
  | lit l => cases l <;> simp [Rows.uptoBulk]
  | _ => simp [Rows.uptoBulk]
theorem digest_of_trod {H : Type} {enc : TypeId × Value → H} {W : World} {n : Nat} {cs : List Value} {x : DataW H × List MemPlace} (hcl : cs.length = 32) (hf : DataW.trod enc Try.prog W 0 (fun _ => true) true n 29 cs = some x) :
    ∃ a : List UInt8, (cs = bs a ∧ a.length = 32) ∧ 32 ≤ Rows.uptoBulk x.1 := by
  obtain ⟨xs, m, _, rfl, _, hxl, hxs⟩ := DataW.trod_array (e := 5) (n := 32) (by kernel_rfl) hf
  refine ⟨cs.map byteOf, ⟨?_, by simpa using hcl⟩, ?_⟩
  · unfold bs; rw [List.map_map]
    apply List.ext_getElem
    · simp
    · intro i h1 h2
      simp only [List.getElem_map, Function.comp]
      have hi : i < 32 := by omega
      have hy := hxs i hi
      rw [show Try.prog.cellsOf 5 = 1 by kernel_rfl, Nat.mul_one] at hy
      have hq : (cs.drop i).take 1 = [cs[i]] := by rw [List.drop_eq_getElem_cons h1]; rfl
      rw [hq] at hy
      cases hx : xs[i]? with
      | none => exact absurd (List.getElem?_eq_none_iff.1 hx) (by omega)
      | some y =>
        rw [hx] at hy
        obtain ⟨k, e, _, hw⟩ := DataW.trod_int Try.underlying5 hy
        injection e with e _
        rw [e]
        simp [Lit.wf, IntKind.min, IntKind.max, IntKind.signed, IntKind.bits] at hw
        show Value.int .u8 k = .int .u8 (((UInt8.ofNat k.toNat).toNat : Nat) : Int)
        rw [UInt8.toNat_ofNat']; congr 1; omega
  · simp only [Rows.uptoBulk]
    have := bulk_map (H := H) (fun _ : Unit => 1) (List.replicate 32 ()) (xs.map (·.1)) (by simp [hxl]) (fun i a d ha hd => bulk_pos d)
    have e : ((List.replicate 32 ()).map fun _ : Unit => 1).sum = 32 := rfl
    rw [e] at this
    omega
/-- A slice within cells, read element by element. -/
theorem list_of_trod {H : Type} {enc : TypeId × Value → H} {W : World} {fuel : Nat} {vs : List Value} {X : DataW H × List MemPlace} {t e : TypeId} {k : Nat} (ht : Try.prog.underlying t = some (.slice e)) (hk : Try.prog.cellsOf e = k) (hk0 : 0 < k)
    {α : Type} (R : List Value → α → Prop) (sz : α → Nat)
    (hE : ∀ n cs x, cs.length = k → DataW.trod enc Try.prog W 0 (fun _ => true) true n e cs = some x → ∃ a, R cs a ∧ sz a ≤ Rows.uptoBulk x.1)
    (hf : DataW.trod enc Try.prog W 0 (fun _ => true) true fuel t vs = some X) :
    ∃ (v : Value) (css : List (List Value)) (zs : List α), vs = [v] ∧ ListAt k R css zs ∧ Sl W v zs.length css.flatten ∧ (zs.map sz).sum ≤ Rows.uptoBulk X.1 := by
  rcases DataW.trod_slice ht hf with ⟨hcs, _⟩ | ⟨a, len', cap', elems, rest, n, _, hcs, hx, _, hl, hm, hlen, hel, _, _⟩
  · exact ⟨_, [], [], hcs, ⟨rfl, by simp, by simp⟩, sl_nil W, by simp⟩
  · subst hx
    have hch : ∀ i, i < len' → ∃ y : List Value × α, (W.cells? 0 (a.add (i * k)) k = some y.1) ∧ R y.1 y.2 ∧ ∀ x, elems[i]? = some x → sz y.2 ≤ Rows.uptoBulk x.1 := fun i hi => by
      have h1 := hel i hi
      rw [hk] at h1
      have hi' : i < elems.length := by omega
      rw [List.getElem?_eq_getElem hi'] at h1
      rw [Option.bind_eq_some_iff] at h1
      obtain ⟨cs, hcs, hy⟩ := h1
      obtain ⟨b, hR, hs⟩ := hE n cs _ (cells_some hcs).1 hy
      refine ⟨(cs, b), hcs, hR, fun x hx => ?_⟩
      rw [List.getElem?_eq_getElem hi'] at hx
      cases hx; exact hs
    obtain ⟨l, hll, hlp⟩ := list_choose hch
    have hget : ∀ (i : Nat) cs a, (l.map (·.1))[i]? = some cs → (l.map (·.2))[i]? = some a → l[i]? = some (cs, a) := fun i cs a h1 h2 => by
      rw [List.getElem?_map] at h1 h2
      cases hq : l[i]? with
      | none => rw [hq] at h1; cases h1
      | some y => rw [hq] at h1 h2; simp at h1 h2; rw [← h1, ← h2]
    have heach : ∀ cs ∈ l.map (·.1), cs.length = k := fun cs hcs => by
      obtain ⟨i, hi, e⟩ := List.getElem_of_mem hcs
      have hi' : i < l.length := by simpa using hi
      have := hlp i (l[i]) (by simp [hi'])
      rw [← e, List.getElem_map]; exact (cells_some this.1).1
    refine ⟨_, l.map (·.1), l.map (·.2), hcs, ⟨by simp, heach, fun i cs b h1 h2 => (hlp i _ (hget i cs b h1 h2)).2.1⟩, ⟨some a, cap', by simp [hll], by simpa [hll] using hl, by simpa [maxLen] using hm, by simp, Rc.of_some fun j u hj => ?_⟩, ?_⟩
    · rw [flatten_get hk0 _ heach] at hj
      rw [List.getElem?_map] at hj
      cases hq : l[j / k]? with
      | none => rw [hq] at hj; cases hj
      | some y =>
        rw [hq] at hj
        simp at hj
        have hc := (cells_some (hlp _ _ hq).1).2 (j % k) (Nat.mod_lt _ hk0)
        have e : (a.add (j / k * k)).add (j % k) = a.add j := by
          have e3 : j / k * k + j % k = j := by rw [Nat.mul_comm]; exact Nat.div_add_mod j k
          unfold Addr.add
          by_cases q1 : j / k * k = 0
          · have : j % k = j := by omega
            simp [q1, this]
          · by_cases q2 : j % k = 0
            · have : j / k * k = j := by omega
              simp [q1, q2, this]
            · have q3 : j ≠ 0 := by intro e; rw [e] at q2; simp at q2
              simp [q1, q2, q3, Nat.add_assoc, e3]
        rw [e] at hc
        rw [hc]; exact hj
    · have := bulk_map (H := H) sz (l.map (·.2)) (elems.map (·.1)) (by simp [hll, hlen]) (fun i b d hb hd => by
        rw [List.getElem?_map] at hb hd
        cases hq : l[i]? with
        | none => rw [hq] at hb; cases hb
        | some y =>
          cases hq2 : elems[i]? with
          | none => rw [hq2] at hd; cases hd
          | some x =>
            rw [hq] at hb; rw [hq2] at hd
            simp at hb hd
            rw [← hb, ← hd]
            exact (hlp i _ hq).2.2 x hq2)
      simp only [Rows.uptoBulk]; omega
theorem digests_of_trod {H : Type} {enc : TypeId × Value → H} {W : World} {n : Nat} {cs : List Value} {x : DataW H × List MemPlace} (hf : DataW.trod enc Try.prog W 0 (fun _ => true) true n 30 cs = some x) :
    ∃ v ds, cs = [v] ∧ SlD W v ds ∧ ds.length ≤ Rows.uptoBulk x.1 := by
  obtain ⟨v, css, zs, hcs, hl, hs, hb⟩ := list_of_trod (e := 29) (k := 32) Try.underlying30 (by kernel_rfl) (by decide) (fun cs (a : List UInt8) => cs = bs a ∧ a.length = 32) (fun _ => 1) (fun n cs x hcl hf => by
    obtain ⟨a, h, hb⟩ := digest_of_trod hcl hf
    exact ⟨a, h, by omega⟩) hf
  have e : css.flatten = bs zs.flatten := by
    have e1 : css = zs.map bs := by
      apply List.ext_getElem
      · rw [List.length_map]; exact hl.len
      · intro i h1 h2
        rw [List.getElem_map]
        have h3 : i < zs.length := by simpa using h2
        exact (hl.rel i _ _ (List.getElem?_eq_getElem h1) (List.getElem?_eq_getElem h3)).1
    rw [e1]
    clear e1 hb hs hl
    induction zs with
    | nil => rfl
    | cons a r ih => rw [List.map_cons, List.flatten_cons, List.flatten_cons, ih, bs_append]
  refine ⟨v, zs, hcs, ⟨by rw [← e]; exact hs, fun d hd => ?_⟩, ?_⟩
  · obtain ⟨i, hi, e2⟩ := List.getElem_of_mem hd
    have h1 : i < css.length := by rw [hl.len]; exact hi
    have := (hl.rel i _ _ (List.getElem?_eq_getElem h1) (List.getElem?_eq_getElem hi)).2
    rw [← e2]; exact this
  · have e3 : (zs.map fun _ => 1).sum = zs.length := by
      clear e hb hs hl
      induction zs with
      | nil => rfl
      | cons a r ih => rw [List.map_cons, List.sum_cons, ih, List.length_cons]; omega
    omega
theorem open_acts {H : Type} {enc : TypeId × Value → H} {W : World} {base : Nat} {v : Value} {d : DataW H} {ps : List MemPlace} (hval : Value.okWide Try.prog W .any base 22 v) (h : DataW.Trod enc Try.prog W 0 (fun _ => true) true 22 v d ps) :
    ∃ (css : List (List Value)) (zs : List ActR), ListAt 35 (ActC W) css zs ∧ Sl W v zs.length css.flatten ∧ (zs.map fun a => a.ps.length + 1).sum ≤ Rows.uptoBulk d := by
  refine open_list (e := 33) (k := 35) Try.underlying22 (by kernel_rfl) (by decide) (ActC W) (fun a => a.ps.length + 1) ?_ hval h
  intro n cs x hcl hf
  obtain ⟨xs, m, _, rfl, _, hxl, hfs⟩ := DataW.trod_struct Try.underlying33 hf
  have hx4 : xs.length = 4 := by simpa using hxl
  match xs, hx4 with
  | [x0, x1, x2, x3], _ =>
    have f0 := hfs 0 _ rfl
    have f1 := hfs 1 _ rfl
    have f2 := hfs 2 _ rfl
    have f3 := hfs 3 _ rfl
    change DataW.trod _ _ _ _ _ _ m 3 (List.take (Try.prog.cellsOf 3) (List.drop 0 cs)) = some x0 at f0
    change DataW.trod _ _ _ _ _ _ m 29 (List.take (Try.prog.cellsOf 29) (List.drop 1 cs)) = some x1 at f1
    change DataW.trod _ _ _ _ _ _ m 30 (List.take (Try.prog.cellsOf 30) (List.drop 33 cs)) = some x2 at f2
    change DataW.trod _ _ _ _ _ _ m 31 (List.take (Try.prog.cellsOf 31) (List.drop 34 cs)) = some x3 at f3
    rw [show Try.prog.cellsOf 3 = 1 by kernel_rfl] at f0
    rw [show Try.prog.cellsOf 29 = 32 by kernel_rfl] at f1
    rw [show Try.prog.cellsOf 30 = 1 by kernel_rfl] at f2
    rw [show Try.prog.cellsOf 31 = 1 by kernel_rfl] at f3
    obtain ⟨what, e0, _, hw⟩ := DataW.trod_int Try.underlying3 f0
    obtain ⟨d1, ⟨e1, hd1⟩, _⟩ := digest_of_trod (by rw [List.length_take, List.length_drop, hcl]; rfl) f1
    obtain ⟨vp, ds, e2, hs, hb⟩ := digests_of_trod f2
    obtain ⟨sz, e3, _, hz⟩ := DataW.trod_int Try.underlying31 f3
    simp [Lit.wf, IntKind.min, IntKind.max, IntKind.signed, IntKind.bits] at hw hz
    refine ⟨⟨what, d1, ds, sz.toNat⟩, ⟨vp, ?_, hd1, hs, (by show _ ≤ what; omega), (by show what ≤ _; omega)⟩, ?_⟩
    · have es : ((sz.toNat : Nat) : Int) = sz := by omega
      unfold actC
      simp only [es]
      have h1 : cs = cs.take 1 ++ ((cs.drop 1).take 32 ++ ((cs.drop 33).take 1 ++ (cs.drop 34).take 1)) := by
        apply List.ext_getElem?
        intro j
        by_cases a0 : j < 1
        · rw [List.getElem?_append_left (by rw [List.length_take, hcl]; omega), List.getElem?_take, if_pos a0]
        · rw [List.getElem?_append_right (by rw [List.length_take, hcl]; omega), List.length_take, hcl]
          by_cases a1 : j < 33
          · rw [List.getElem?_append_left (by rw [List.length_take, List.length_drop, hcl]; omega), List.getElem?_take, if_pos (by omega), List.getElem?_drop]
            congr 1; omega
          · rw [List.getElem?_append_right (by rw [List.length_take, List.length_drop, hcl]; omega), List.length_take, List.length_drop, hcl]
            by_cases a2 : j < 34
            · rw [List.getElem?_append_left (by rw [List.length_take, List.length_drop, hcl]; omega), List.getElem?_take, if_pos (by omega), List.getElem?_drop]
              congr 1; omega
            · rw [List.getElem?_append_right (by rw [List.length_take, List.length_drop, hcl]; omega), List.length_take, List.length_drop, hcl, List.getElem?_take]
              split
              · rw [List.getElem?_drop]; congr 1; omega
              · rw [List.getElem?_eq_none (by omega)]
      rw [List.drop_zero] at e0
      rw [h1, e0, e1, e2, e3]
      rfl
    · simp only [List.map_cons, List.map_nil, Rows.uptoBulk, Rows.uptoBulkAll]
      have := bulk_pos x0.1
      omega
end Go.Proofs.Ytcaaeimcieooiaa
