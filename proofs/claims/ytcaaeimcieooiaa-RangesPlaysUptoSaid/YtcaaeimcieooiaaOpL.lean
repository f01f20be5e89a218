/- Arguments laid open: slices of whatever is read cell by cell. -/
import Derived.Test.YtcaaeimcieooiaaOpD
import Derived.ChangeArms
set_option linter.unusedVariables false
set_option linter.unusedSimpArgs false
set_option maxRecDepth 10000
namespace Go.Proofs.Ytcaaeimcieooiaa
open Go.ChangeShapes Go.WideShapes Go.ChangeAt Go.RowKit

theorem list_choose {α : Type} {P : Nat → α → Prop} {n : Nat} (h : ∀ i, i < n → ∃ x, P i x) : ∃ l : List α, l.length = n ∧ ∀ i x, l[i]? = some x → P i x := by
  refine ⟨List.ofFn fun i : Fin n => Classical.choose (h i.val i.isLt), by simp, fun i x hx => ?_⟩
  obtain ⟨hi, e⟩ := List.getElem?_eq_some_iff.1 hx
  simp at hi
  rw [← e, List.getElem_ofFn]
  exact Classical.choose_spec (h i hi)
theorem flatten_get {α : Type} {k : Nat} (hk : 0 < k) : ∀ (css : List (List α)), (∀ cs ∈ css, cs.length = k) → ∀ j, css.flatten[j]? = (css[j / k]?).bind (·[j % k]?)
  | [], _, j => by simp
  | c :: r, h, j => by
    have hc : c.length = k := h c (by simp)
    rw [List.flatten_cons]
    by_cases hj : j < k
    · rw [List.getElem?_append_left (by omega), Nat.div_eq_of_lt hj, Nat.mod_eq_of_lt hj]; rfl
    · rw [List.getElem?_append_right (by omega), hc, flatten_get hk r (fun cs hcs => h cs (by simp [hcs])) (j - k)]
      have e1 : j / k = (j - k) / k + 1 := by
        have : j = (j - k) + k := by omega
        conv => lhs; rw [this, Nat.add_div_right _ hk]
      have e2 : (j - k) % k = j % k := by
        have : j = (j - k) + k := by omega
        conv => rhs; rw [this, Nat.add_mod_right]
      rw [e1, e2]; rfl
theorem flatten_length {α : Type} {k : Nat} : ∀ (css : List (List α)), (∀ cs ∈ css, cs.length = k) → css.flatten.length = css.length * k
  | [], _ => by simp
  | c :: r, h => by
    rw [List.flatten_cons, List.length_append, flatten_length r (fun cs hcs => h cs (by simp [hcs])), h c (by simp), List.length_cons, Nat.add_mul]; omega
theorem bulk_map {H : Type} {α : Type} (sz : α → Nat) : ∀ (zs : List α) (ds : List (DataW H)), zs.length = ds.length → (∀ (i : Nat) a d, zs[i]? = some a → ds[i]? = some d → sz a ≤ Rows.uptoBulk d) → (zs.map sz).sum ≤ Rows.uptoBulkAll ds
  | [], [], _, _ => by simp
  | a :: zs, d :: ds, hl, h => by
    have h0 := h 0 a d rfl rfl
    have h1 := bulk_map sz zs ds (by simpa using hl) (fun i a d ha hd => h (i + 1) a d ha hd)
    simp only [List.map_cons, List.sum_cons, Rows.uptoBulkAll]; omega
  | [], _ :: _, hl, _ => by simp at hl
  | _ :: _, [], hl, _ => by simp at hl
theorem cells_some {w : World} {base : Nat} {a : Addr} {n : Nat} {cs : List Value} (h : w.cells? base a n = some cs) : cs.length = n ∧ ∀ i, i < n → w.cell? (a.add i) = cs[i]? := by
  unfold World.cells? at h
  split at h
  · refine ⟨by simpa using mapM_some_length h, fun i hi => ?_⟩
    exact mapM_some_get h i i (by simp [hi])
  · cases h

/-- What a slice's elements are read zs: each element's cells, and what R says of them. -/
structure ListAt {α : Type} (k : Nat) (R : List Value → α → Prop) (css : List (List Value)) (zs : List α) : Prop where
  len : css.length = zs.length
  each : ∀ cs ∈ css, cs.length = k
  rel : ∀ (i : Nat) cs a, css[i]? = some cs → zs[i]? = some a → R cs a

theorem open_list {H : Type} {enc : TypeId × Value → H} {W : World} {base : Nat} {v : Value} {d : DataW H} {ps : List MemPlace} {t e : TypeId} {k : Nat} (ht : Try.prog.underlying t = some (.slice e)) (hk : Try.prog.cellsOf e = k) (hk0 : 0 < k)
    {α : Type} (R : List Value → α → Prop) (sz : α → Nat)
    (hE : ∀ n cs x, cs.length = k → DataW.trod enc Try.prog W 0 (fun _ => true) true n e cs = some x → ∃ a, R cs a ∧ sz a ≤ Rows.uptoBulk x.1)
    (hval : Value.okWide Try.prog W .any base t v) (h : DataW.Trod enc Try.prog W 0 (fun _ => true) true t v d ps) :
    ∃ (css : List (List Value)) (zs : List α), ListAt k R css zs ∧ Sl W v zs.length css.flatten ∧ (zs.map sz).sum ≤ Rows.uptoBulk d := by
  obtain ⟨A, len, cap, rfl⟩ := okWide_slice ht hval
  obtain ⟨fuel, hf⟩ := h
  rcases DataW.trod_slice ht hf with ⟨hcs, _⟩ | ⟨a, len', cap', elems, rest, n, _, hcs, hx, _, hl, hm, hlen, hel, _, _⟩
  · simp [Value.cells] at hcs
    obtain ⟨rfl, rfl, rfl⟩ := hcs
    exact ⟨[], [], ⟨rfl, by simp, by simp⟩, sl_nil W, by simp⟩
  · simp [Value.cells] at hcs
    obtain ⟨rfl, rfl, rfl⟩ := hcs
    simp only [Prod.mk.injEq] at hx
    obtain ⟨rfl, _⟩ := hx
    have hch : ∀ i, i < len → ∃ y : List Value × α, (W.cells? 0 (a.add (i * k)) k = some y.1) ∧ R y.1 y.2 ∧ ∀ x, elems[i]? = some x → sz y.2 ≤ Rows.uptoBulk x.1 := fun i hi => by
      have h1 := hel i hi
      rw [hk] at h1
      have hi' : i < elems.length := by omega
      rw [List.getElem?_eq_getElem hi'] at h1
      rw [Option.bind_eq_some_iff] at h1
      obtain ⟨cs, hcs, hy⟩ := h1
      obtain ⟨b, hR, hs⟩ := hE n cs _ (cells_some hcs).1 hy
      refine ⟨(cs, b), hcs, hR, fun x hx => ?_⟩
      rw [List.getElem?_eq_getElem hi'] at hx
      cases hx; exact hs
    obtain ⟨l, hll, hlp⟩ := list_choose hch
    have hget : ∀ (i : Nat) cs a, (l.map (·.1))[i]? = some cs → (l.map (·.2))[i]? = some a → l[i]? = some (cs, a) := fun i cs a h1 h2 => by
      rw [List.getElem?_map] at h1 h2
      cases hq : l[i]? with
      | none => rw [hq] at h1; cases h1
      | some y => rw [hq] at h1 h2; simp at h1 h2; rw [← h1, ← h2]
    have heach : ∀ cs ∈ l.map (·.1), cs.length = k := fun cs hcs => by
      obtain ⟨i, hi, e⟩ := List.getElem_of_mem hcs
      have hi' : i < l.length := by simpa using hi
      have := hlp i (l[i]) (by simp [hi'])
      rw [← e, List.getElem_map]; exact (cells_some this.1).1
    refine ⟨l.map (·.1), l.map (·.2), ⟨by simp, heach, fun i cs b h1 h2 => (hlp i _ (hget i cs b h1 h2)).2.1⟩, ⟨some a, cap, by simp [hll], by simpa [hll] using hl, by simpa [maxLen] using hm, by simp, Rc.of_some fun j u hj => ?_⟩, ?_⟩
    · rw [flatten_get hk0 _ heach] at hj
      rw [List.getElem?_map] at hj
      cases hq : l[j / k]? with
      | none => rw [hq] at hj; cases hj
      | some y =>
        rw [hq] at hj
        simp at hj
        have hc := (cells_some (hlp _ _ hq).1).2 (j % k) (Nat.mod_lt _ hk0)
        have e : (a.add (j / k * k)).add (j % k) = a.add j := by
          have e3 : j / k * k + j % k = j := by rw [Nat.mul_comm]; exact Nat.div_add_mod j k
          unfold Addr.add
          by_cases q1 : j / k * k = 0
          · have : j % k = j := by omega
            simp [q1, this]
          · by_cases q2 : j % k = 0
            · have : j / k * k = j := by omega
              simp [q1, q2, this]
            · have q3 : j ≠ 0 := by intro e; rw [e] at q2; simp at q2
              simp [q1, q2, q3, Nat.add_assoc, e3]
        rw [e] at hc
        rw [hc]; exact hj
    · have := bulk_map (H := H) sz (l.map (·.2)) (elems.map (·.1)) (by simp [hll, hlen]) (fun i b d hb hd => by
        rw [List.getElem?_map] at hb hd
        cases hq : l[i]? with
        | none => rw [hq] at hb; cases hb
        | some y =>
          cases hq2 : elems[i]? with
          | none => rw [hq2] at hd; cases hd
          | some x =>
            rw [hq] at hb; rw [hq2] at hd
            simp at hb hd
            rw [← hb, ← hd]
            exact (hlp i _ hq).2.2 x hq2)
      simp only [Rows.uptoBulk]; omega
end Go.Proofs.Ytcaaeimcieooiaa
