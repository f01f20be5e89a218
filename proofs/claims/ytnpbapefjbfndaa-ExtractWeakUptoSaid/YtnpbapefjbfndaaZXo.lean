/- Arguments laid open: what a value that came in holds, in this seat's own words. Arguments laid open: arrays of bytes, strings. Arguments laid open: slices of whatever is read cell by cell. Slices of bytes that are read out of cells. Arguments laid open: slices of digests, of texts. -/
import Derived.Test.YtnpbapefjbfndaaZXa
import Derived.ProofKit
import Derived.Test.YtnpbapefjbfndaaZShaC
import Derived.ChangeMaps5
import Derived.ChangeArms
import Derived.Test.YtnpbapefjbfndaaZExtX
import Derived.Test.YtnpbapefjbfndaaZXd
import Derived.OpenShut
set_option linter.unusedVariables false
set_option linter.unusedSimpArgs false
set_option maxRecDepth 10000
namespace Go.Proofs.Ytnpbapefjbfndaa
open Go.ChangeShapes Go.WideShapes Go.ChangeAt Go.RowKit

variable {H : Type} {enc : TypeId × Value → H} {W : World} {base : Nat} {v : Value} {d : DataW H} {ps : List MemPlace}

theorem bulk_le (l : List (DataW H)) : l.length ≤ Rows.uptoBulkAll l := by
  induction l with
  | nil => simp [Rows.uptoBulkAll]
  | cons x r ih =>
    have h1 : 1 ≤ Rows.uptoBulk x := by
      cases x with
      | lit l => cases l <;> simp [Rows.uptoBulk]
      | _ => simp [Rows.uptoBulk]
    simp only [Rows.uptoBulkAll, List.length_cons]; omega

theorem open_bytes (hval : Value.okWide Try.prog W .any base 23 v) (h : DataW.Trod enc Try.prog W 0 (fun _ => true) true 23 v d ps) :
    ∃ xs : List UInt8, SlB W v xs ∧ xs.length ≤ Rows.uptoBulk d := by
  obtain ⟨a, len, cap, rfl⟩ := okWide_slice Try.underlying23 hval
  obtain ⟨fuel, hf⟩ := h
  rcases open_ints Try.underlying23 Try.underlying5 (by kernel_rfl) hf with ⟨hcs, _⟩ | ⟨x, l, c, zs, hcs, _, hl, hm, hz, hd, hcell, hwz⟩
  · simp [Value.cells] at hcs
    obtain ⟨rfl, rfl, rfl⟩ := hcs
    exact ⟨[], slB_nil W, by simp⟩
  · simp [Value.cells] at hcs
    obtain ⟨rfl, rfl, rfl⟩ := hcs
    have hzl : zs.length = cap := by simpa using hz
    have hwf : ∀ n ∈ zs, 0 ≤ n ∧ n < 256 := fun n hn => by
      have := hwz n hn
      simp [Lit.wf, IntKind.min, IntKind.max, IntKind.signed, IntKind.bits] at this
      omega
    have hlen : ((zs.take len).map fun n => UInt8.ofNat n.toNat).length = len := by rw [List.length_map, List.length_take]; omega
    refine ⟨(zs.take len).map fun n => UInt8.ofNat n.toNat, ⟨some x, cap, by rw [hlen], by rw [hlen]; exact hl, by simpa [maxLen] using hm, by simp, Rc.of_some fun j u hj => ?_⟩, ?_⟩
    · unfold bs at hj
      rw [List.map_map] at hj
      obtain ⟨n, hn, rfl⟩ := Option.map_eq_some_iff.1 (List.getElem?_map .. ▸ hj)
      rw [List.getElem?_take] at hn
      split at hn
      · have hjl : j < zs.length := (List.getElem?_eq_some_iff.1 hn).1
        rw [hcell j hjl]
        have hmem : n ∈ zs := List.mem_of_getElem? hn
        have := hwf n hmem
        have e : zs.getD j 0 = n := by rw [List.getD_eq_getElem?_getD, hn]; rfl
        rw [e]
        refine congrArg (fun q : Int => some (Value.int IntKind.u8 q)) ?_
        show n = c8 (UInt8.ofNat n.toNat)
        unfold c8
        rw [UInt8.toNat_ofNat']
        omega
      · cases hn
    · simp only [Prod.mk.injEq] at hd
      rw [hd.1]
      simp only [Rows.uptoBulk, List.length_map]
      have := bulk_le (lits .u8 (zs.take len) : List (DataW H))
      have e : (lits .u8 (zs.take len) : List (DataW H)).length = (zs.take len).length := by simp [lits]
      omega

theorem open_u32 (hval : Value.okWide Try.prog W .any base 86 v) (h : DataW.Trod enc Try.prog W 0 (fun _ => true) true 86 v d ps) : ∃ x : UInt32, v = .int .u32 (c32 x) := by
  obtain ⟨n, rfl, _, _, wf⟩ := open_int Try.underlying86 hval h
  refine ⟨UInt32.ofNat n.toNat, ?_⟩
  simp [Lit.wf, IntKind.min, IntKind.max, IntKind.signed, IntKind.bits] at wf
  congr 1; unfold c32; rw [UInt32.toNat_ofNat']; omega

theorem open_i64 (hval : Value.okWide Try.prog W .any base 3 v) (h : DataW.Trod enc Try.prog W 0 (fun _ => true) true 3 v d ps) : ∃ x : Int, v = .int .i64 x ∧ -9223372036854775808 ≤ x ∧ x ≤ 9223372036854775807 := by
  obtain ⟨n, rfl, _, _, wf⟩ := open_int Try.underlying3 hval h
  refine ⟨n, rfl, ?_⟩
  simp [Lit.wf, IntKind.min, IntKind.max, IntKind.signed, IntKind.bits] at wf
  omega
end Go.Proofs.Ytnpbapefjbfndaa
set_option linter.unusedVariables false
set_option linter.unusedSimpArgs false
set_option maxRecDepth 10000
namespace Go.Proofs.Ytnpbapefjbfndaa
open Go.ChangeShapes Go.WideShapes Go.ChangeAt Go.RowKit

def byteOf (v : Value) : UInt8 := match v with
  | .int _ n => UInt8.ofNat n.toNat
  | _ => 0
theorem byte_ok {W : World} {base : Nat} {v : Value} (h : Cell.okWide Try.prog W .any base 5 v) : v = .int .u8 (c8 (byteOf v)) := by
  unfold Cell.okWide at h
  rw [Try.underlying5] at h
  have h' : Cell.ok Try.prog W .any base 5 v := by cases v <;> exact h
  unfold Cell.ok at h'
  rw [Try.underlying5] at h'
  cases v with
  | int k n =>
    obtain ⟨rfl, hn⟩ := h'
    simp [IntKind.has, IntKind.min, IntKind.max, IntKind.signed, IntKind.bits] at hn
    show Value.int .u8 n = .int .u8 (((UInt8.ofNat n.toNat).toNat : Nat) : Int)
    rw [UInt8.toNat_ofNat']; congr 1; omega
  | _ => cases h'
theorem open_arr8 {t : TypeId} {n : Nat} (hu : Try.prog.underlying t = some (.array n 5)) (hc : Try.prog.cellsOf t = n) (hct : Try.prog.cellTypes Try.prog.depth t = some (List.replicate n 5))
    {W : World} {base : Nat} {v : Value} (hval : Value.okWide Try.prog W .any base t v) : ∃ xs : List UInt8, v = dg xs ∧ xs.length = n := by
  unfold Value.okWide at hval
  rw [hu] at hval
  obtain ⟨cs, rfl, hs, ts, hts, _, hrow⟩ := hval
  rw [hct] at hts; cases hts
  refine ⟨cs.toList.map byteOf, ?_, by simp [hs, hc]⟩
  unfold dg; congr 1
  apply Array.ext'
  show cs.toList = bs (cs.toList.map byteOf)
  unfold bs; rw [List.map_map]
  apply List.ext_getElem
  · simp
  · intro i h1 h2
    simp only [List.getElem_map, Function.comp]
    have hi : cs[i]? = some (cs.toList[i]) := by simp at h1; simp [h1]
    obtain ⟨u, hu', hok⟩ := hrow i _ hi
    have : u = 5 := by
      have := List.mem_of_getElem? hu'
      exact (List.mem_replicate.1 this).2
    subst this
    exact byte_ok hok
theorem open_digest {H : Type} {enc : TypeId × Value → H} {W : World} {base : Nat} {v : Value} {d : DataW H} {ps : List MemPlace} (hval : Value.okWide Try.prog W .any base 38 v) (_h : DataW.Trod enc Try.prog W 0 (fun _ => true) true 38 v d ps) :
    ∃ xs : List UInt8, v = dg xs ∧ xs.length = 32 := open_arr8 (by kernel_rfl) (by kernel_rfl) (by kernel_rfl) hval
theorem open_str {H : Type} {enc : TypeId × Value → H} {W : World} {base : Nat} {v : Value} {d : DataW H} {ps : List MemPlace} (hval : Value.okWide Try.prog W .any base 9 v) (h : DataW.Trod enc Try.prog W 0 (fun _ => true) true 9 v d ps) :
    ∃ xs : List UInt8, v = .string (str xs) ∧ xs.length ≤ 9223372036854775807 := by
  obtain ⟨s, rfl, _, _, hs⟩ := Go.ChangeMaps.open_string Try.underlying9 hval h
  refine ⟨s.data.toList, rfl, ?_⟩
  have : s.size = s.data.toList.length := (Array.length_toList (xs := s.data)).symm
  unfold maxLen at hs; omega
end Go.Proofs.Ytnpbapefjbfndaa
set_option linter.unusedVariables false
set_option linter.unusedSimpArgs false
set_option maxRecDepth 10000
namespace Go.Proofs.Ytnpbapefjbfndaa
open Go.ChangeShapes Go.WideShapes Go.ChangeAt Go.RowKit

theorem list_choose {α : Type} {P : Nat → α → Prop} {n : Nat} (h : ∀ i, i < n → ∃ x, P i x) : ∃ l : List α, l.length = n ∧ ∀ i x, l[i]? = some x → P i x := by
  refine ⟨List.ofFn fun i : Fin n => Classical.choose (h i.val i.isLt), by simp, fun i x hx => ?_⟩
  obtain ⟨hi, e⟩ := List.getElem?_eq_some_iff.1 hx
  simp at hi
  rw [← e, List.getElem_ofFn]
  exact Classical.choose_spec (h i hi)
theorem flatten_get {α : Type} {k : Nat} (hk : 0 < k) : ∀ (css : List (List α)), (∀ cs ∈ css, cs.length = k) → ∀ j, css.flatten[j]? = (css[j / k]?).bind (·[j % k]?)
  | [], _, j => by simp
  | c :: r, h, j => by
    have hc : c.length = k := h c (by simp)
    rw [List.flatten_cons]
    by_cases hj : j < k
    · rw [List.getElem?_append_left (by omega), Nat.div_eq_of_lt hj, Nat.mod_eq_of_lt hj]; rfl
    · rw [List.getElem?_append_right (by omega), hc, flatten_get hk r (fun cs hcs => h cs (by simp [hcs])) (j - k)]
      have e1 : j / k = (j - k) / k + 1 := by
        have : j = (j - k) + k := by omega
        conv => lhs; rw [this, Nat.add_div_right _ hk]
      have e2 : (j - k) % k = j % k := by
        have : j = (j - k) + k := by omega
        conv => rhs; rw [this, Nat.add_mod_right]
      rw [e1, e2]; rfl
theorem flatten_length {α : Type} {k : Nat} : ∀ (css : List (List α)), (∀ cs ∈ css, cs.length = k) → css.flatten.length = css.length * k
  | [], _ => by simp
  | c :: r, h => by
    rw [List.flatten_cons, List.length_append, flatten_length r (fun cs hcs => h cs (by simp [hcs])), h c (by simp), List.length_cons, Nat.add_mul]; omega
theorem bulk_map {H : Type} {α : Type} (sz : α → Nat) : ∀ (zs : List α) (ds : List (DataW H)), zs.length = ds.length → (∀ (i : Nat) a d, zs[i]? = some a → ds[i]? = some d → sz a ≤ Rows.uptoBulk d) → (zs.map sz).sum ≤ Rows.uptoBulkAll ds
  | [], [], _, _ => by simp
  | a :: zs, d :: ds, hl, h => by
    have h0 := h 0 a d rfl rfl
    have h1 := bulk_map sz zs ds (by simpa using hl) (fun i a d ha hd => h (i + 1) a d ha hd)
    simp only [List.map_cons, List.sum_cons, Rows.uptoBulkAll]; omega
  | [], _ :: _, hl, _ => by simp at hl
  | _ :: _, [], hl, _ => by simp at hl
theorem cells_some {w : World} {base : Nat} {a : Addr} {n : Nat} {cs : List Value} (h : w.cells? base a n = some cs) : cs.length = n ∧ ∀ i, i < n → w.cell? (a.add i) = cs[i]? := by
  unfold World.cells? at h
  split at h
  · refine ⟨by simpa using mapM_some_length h, fun i hi => ?_⟩
    exact mapM_some_get h i i (by simp [hi])
  · cases h

/-- What a slice's elements are read zs: each element's cells, and what R says of them. -/
structure ListAt {α : Type} (k : Nat) (R : List Value → α → Prop) (css : List (List Value)) (zs : List α) : Prop where
  len : css.length = zs.length
  each : ∀ cs ∈ css, cs.length = k
  rel : ∀ (i : Nat) cs a, css[i]? = some cs → zs[i]? = some a → R cs a

theorem open_list {H : Type} {enc : TypeId × Value → H} {W : World} {base : Nat} {v : Value} {d : DataW H} {ps : List MemPlace} {t e : TypeId} {k : Nat} (ht : Try.prog.underlying t = some (.slice e)) (hk : Try.prog.cellsOf e = k) (hk0 : 0 < k)
    {α : Type} (R : List Value → α → Prop) (sz : α → Nat)
    (hE : ∀ n cs x, cs.length = k → DataW.trod enc Try.prog W 0 (fun _ => true) true n e cs = some x → ∃ a, R cs a ∧ sz a ≤ Rows.uptoBulk x.1)
    (hval : Value.okWide Try.prog W .any base t v) (h : DataW.Trod enc Try.prog W 0 (fun _ => true) true t v d ps) :
    ∃ (css : List (List Value)) (zs : List α), ListAt k R css zs ∧ Sl W v zs.length css.flatten ∧ (zs.map sz).sum ≤ Rows.uptoBulk d := by
  obtain ⟨A, len, cap, rfl⟩ := okWide_slice ht hval
  obtain ⟨fuel, hf⟩ := h
  rcases DataW.trod_slice ht hf with ⟨hcs, _⟩ | ⟨a, len', cap', elems, rest, n, _, hcs, hx, _, hl, hm, hlen, hel, _, _⟩
  · simp [Value.cells] at hcs
    obtain ⟨rfl, rfl, rfl⟩ := hcs
    exact ⟨[], [], ⟨rfl, by simp, by simp⟩, sl_nil W, by simp⟩
  · simp [Value.cells] at hcs
    obtain ⟨rfl, rfl, rfl⟩ := hcs
    simp only [Prod.mk.injEq] at hx
    obtain ⟨rfl, _⟩ := hx
    have hch : ∀ i, i < len → ∃ y : List Value × α, (W.cells? 0 (a.add (i * k)) k = some y.1) ∧ R y.1 y.2 ∧ ∀ x, elems[i]? = some x → sz y.2 ≤ Rows.uptoBulk x.1 := fun i hi => by
      have h1 := hel i hi
      rw [hk] at h1
      have hi' : i < elems.length := by omega
      rw [List.getElem?_eq_getElem hi'] at h1
      rw [Option.bind_eq_some_iff] at h1
      obtain ⟨cs, hcs, hy⟩ := h1
      obtain ⟨b, hR, hs⟩ := hE n cs _ (cells_some hcs).1 hy
      refine ⟨(cs, b), hcs, hR, fun x hx => ?_⟩
      rw [List.getElem?_eq_getElem hi'] at hx
      cases hx; exact hs
    obtain ⟨l, hll, hlp⟩ := list_choose hch
    have hget : ∀ (i : Nat) cs a, (l.map (·.1))[i]? = some cs → (l.map (·.2))[i]? = some a → l[i]? = some (cs, a) := fun i cs a h1 h2 => by
      rw [List.getElem?_map] at h1 h2
      cases hq : l[i]? with
      | none => rw [hq] at h1; cases h1
      | some y => rw [hq] at h1 h2; simp at h1 h2; rw [← h1, ← h2]
    have heach : ∀ cs ∈ l.map (·.1), cs.length = k := fun cs hcs => by
      obtain ⟨i, hi, e⟩ := List.getElem_of_mem hcs
      have hi' : i < l.length := by simpa using hi
      have := hlp i (l[i]) (by simp [hi'])
      rw [← e, List.getElem_map]; exact (cells_some this.1).1
    refine ⟨l.map (·.1), l.map (·.2), ⟨by simp, heach, fun i cs b h1 h2 => (hlp i _ (hget i cs b h1 h2)).2.1⟩, ⟨some a, cap, by simp [hll], by simpa [hll] using hl, by simpa [maxLen] using hm, by simp, Rc.of_some fun j u hj => ?_⟩, ?_⟩
    · rw [flatten_get hk0 _ heach] at hj
      rw [List.getElem?_map] at hj
      cases hq : l[j / k]? with
      | none => rw [hq] at hj; cases hj
      | some y =>
        rw [hq] at hj
        simp at hj
        have hc := (cells_some (hlp _ _ hq).1).2 (j % k) (Nat.mod_lt _ hk0)
        have e : (a.add (j / k * k)).add (j % k) = a.add j := by
          have e3 : j / k * k + j % k = j := by rw [Nat.mul_comm]; exact Nat.div_add_mod j k
          unfold Addr.add
          by_cases q1 : j / k * k = 0
          · have : j % k = j := by omega
            simp [q1, this]
          · by_cases q2 : j % k = 0
            · have : j / k * k = j := by omega
              simp [q1, q2, this]
            · have q3 : j ≠ 0 := by intro e; rw [e] at q2; simp at q2
              simp [q1, q2, q3, Nat.add_assoc, e3]
        rw [e] at hc
        rw [hc]; exact hj
    · have := bulk_map (H := H) sz (l.map (·.2)) (elems.map (·.1)) (by simp [hll, hlen]) (fun i b d hb hd => by
        rw [List.getElem?_map] at hb hd
        cases hq : l[i]? with
        | none => rw [hq] at hb; cases hb
        | some y =>
          cases hq2 : elems[i]? with
          | none => rw [hq2] at hd; cases hd
          | some x =>
            rw [hq] at hb; rw [hq2] at hd
            simp at hb hd
            rw [← hb, ← hd]
            exact (hlp i _ hq).2.2 x hq2)
      simp only [Rows.uptoBulk]; omega
end Go.Proofs.Ytnpbapefjbfndaa
set_option linter.unusedVariables false
set_option linter.unusedSimpArgs false
set_option maxRecDepth 10000
namespace Go.Proofs.Ytnpbapefjbfndaa
open Go.ChangeShapes Go.WideShapes Go.ChangeAt Go.RowKit

theorem bytes_of_trod {H : Type} {enc : TypeId × Value → H} {W : World} {n : Nat} {cs : List Value} {x : DataW H × List MemPlace} (hf : DataW.trod enc Try.prog W 0 (fun _ => true) true n 23 cs = some x) :
    ∃ v xs, cs = [v] ∧ SlB W v xs ∧ xs.length + 1 ≤ Rows.uptoBulk x.1 := by
  rcases open_ints Try.underlying23 Try.underlying5 (by kernel_rfl) hf with ⟨hcs, hx⟩ | ⟨x', l, c, zs, hcs, _, hl, hm, hz, hd, hcell, hwz⟩
  · subst hcs; subst hx
    exact ⟨_, [], rfl, slB_nil W, by simp [Rows.uptoBulk]⟩
  · subst hcs
    have hzl : zs.length = c := by simpa using hz
    have hwf : ∀ n ∈ zs, 0 ≤ n ∧ n < 256 := fun n hn => by
      have := hwz n hn
      simp [Lit.wf, IntKind.min, IntKind.max, IntKind.signed, IntKind.bits] at this
      omega
    have hlen : ((zs.take l).map fun n => UInt8.ofNat n.toNat).length = l := by rw [List.length_map, List.length_take]; omega
    refine ⟨_, (zs.take l).map fun n => UInt8.ofNat n.toNat, rfl, ⟨some x', c, by rw [hlen], by rw [hlen]; exact hl, by simpa [maxLen] using hm, by simp, Rc.of_some fun j u hj => ?_⟩, ?_⟩
    · unfold bs at hj
      rw [List.map_map] at hj
      obtain ⟨n, hn, rfl⟩ := Option.map_eq_some_iff.1 (List.getElem?_map .. ▸ hj)
      rw [List.getElem?_take] at hn
      split at hn
      · have hjl : j < zs.length := (List.getElem?_eq_some_iff.1 hn).1
        rw [hcell j hjl]
        have hmem : n ∈ zs := List.mem_of_getElem? hn
        have := hwf n hmem
        have e : zs.getD j 0 = n := by rw [List.getD_eq_getElem?_getD, hn]; rfl
        rw [e]
        refine congrArg (fun q : Int => some (Value.int IntKind.u8 q)) ?_
        show n = c8 (UInt8.ofNat n.toNat)
        unfold c8
        rw [UInt8.toNat_ofNat']
        omega
      · cases hn
    · subst hd
      simp only [Rows.uptoBulk, List.length_map]
      have := bulk_le (lits .u8 (zs.take l) : List (DataW H))
      have e : (lits .u8 (zs.take l) : List (DataW H)).length = (zs.take l).length := by simp [lits]
      omega
end Go.Proofs.Ytnpbapefjbfndaa
set_option linter.unusedVariables false
set_option linter.unusedSimpArgs false
namespace Go.Proofs.Ytnpbapefjbfndaa
open Go.ChangeShapes Go.WideShapes Go.ChangeAt Go.RowKit

theorem bulk_pos {H : Type} (d : DataW H) : 1 ≤ Rows.uptoBulk d := by
  cases d with
  | lit l => cases l <;> simp [Rows.uptoBulk]
  | _ => simp [Rows.uptoBulk]
theorem digest_of_trod {H : Type} {enc : TypeId × Value → H} {W : World} {n : Nat} {cs : List Value} {x : DataW H × List MemPlace} (hcl : cs.length = 32) (hf : DataW.trod enc Try.prog W 0 (fun _ => true) true n 38 cs = some x) :
    ∃ a : List UInt8, (cs = bs a ∧ a.length = 32) ∧ 32 ≤ Rows.uptoBulk x.1 := by
  obtain ⟨xs, m, _, rfl, _, hxl, hxs⟩ := DataW.trod_array (e := 5) (n := 32) (by kernel_rfl) hf
  refine ⟨cs.map byteOf, ⟨?_, by simpa using hcl⟩, ?_⟩
  · unfold bs; rw [List.map_map]
    apply List.ext_getElem
    · simp
    · intro i h1 h2
      simp only [List.getElem_map, Function.comp]
      have hi : i < 32 := by omega
      have hy := hxs i hi
      rw [show Try.prog.cellsOf 5 = 1 by kernel_rfl, Nat.mul_one] at hy
      have hq : (cs.drop i).take 1 = [cs[i]] := by rw [List.drop_eq_getElem_cons h1]; rfl
      rw [hq] at hy
      cases hx : xs[i]? with
      | none => exact absurd (List.getElem?_eq_none_iff.1 hx) (by omega)
      | some y =>
        rw [hx] at hy
        obtain ⟨k, e, _, hw⟩ := DataW.trod_int Try.underlying5 hy
        injection e with e _
        rw [e]
        simp [Lit.wf, IntKind.min, IntKind.max, IntKind.signed, IntKind.bits] at hw
        show Value.int .u8 k = .int .u8 (((UInt8.ofNat k.toNat).toNat : Nat) : Int)
        rw [UInt8.toNat_ofNat']; congr 1; omega
  · simp only [Rows.uptoBulk]
    have := bulk_map (H := H) (fun _ : Unit => 1) (List.replicate 32 ()) (xs.map (·.1)) (by simp [hxl]) (fun i a d ha hd => bulk_pos d)
    have e : ((List.replicate 32 ()).map fun _ : Unit => 1).sum = 32 := rfl
    rw [e] at this
    omega
theorem open_digests {H : Type} {enc : TypeId × Value → H} {W : World} {base : Nat} {v : Value} {d : DataW H} {ps : List MemPlace} (hval : Value.okWide Try.prog W .any base 46 v) (h : DataW.Trod enc Try.prog W 0 (fun _ => true) true 46 v d ps) :
    ∃ ds : List (List UInt8), SlD W v ds ∧ ds.length * 32 ≤ Rows.uptoBulk d := by
  obtain ⟨css, zs, hl, hs, hb⟩ := open_list (e := 38) (k := 32) Try.underlying46 (by kernel_rfl) (by decide) (fun cs (a : List UInt8) => cs = bs a ∧ a.length = 32) (fun _ => 32) (fun n cs x hcl hf => digest_of_trod hcl hf) hval h
  have e : css.flatten = bs zs.flatten := by
    have e1 : css = zs.map bs := by
      apply List.ext_getElem
      · rw [List.length_map]; exact hl.len
      · intro i h1 h2
        rw [List.getElem_map]
        have h3 : i < zs.length := by simpa using h2
        exact (hl.rel i _ _ (List.getElem?_eq_getElem h1) (List.getElem?_eq_getElem h3)).1
    rw [e1]
    clear e1 hb hs hl h hval
    induction zs with
    | nil => rfl
    | cons a r ih => rw [List.map_cons, List.flatten_cons, List.flatten_cons, ih, bs_append]
  refine ⟨zs, ⟨by rw [← e]; exact hs, fun d hd => ?_⟩, ?_⟩
  · obtain ⟨i, hi, e2⟩ := List.getElem_of_mem hd
    have h1 : i < css.length := by rw [hl.len]; exact hi
    have := (hl.rel i _ _ (List.getElem?_eq_getElem h1) (List.getElem?_eq_getElem hi)).2
    rw [← e2]; exact this
  · have e3 : (zs.map fun _ => 32).sum = zs.length * 32 := by
      clear e hb hs hl h hval
      induction zs with
      | nil => rfl
      | cons a r ih => rw [List.map_cons, List.sum_cons, ih, List.length_cons]; omega
    omega
theorem open_bytess {H : Type} {enc : TypeId × Value → H} {W : World} {base : Nat} {v : Value} {d : DataW H} {ps : List MemPlace} (hval : Value.okWide Try.prog W .any base 22 v) (h : DataW.Trod enc Try.prog W 0 (fun _ => true) true 22 v d ps) :
    ∃ zs : List (List UInt8), SlX W v zs ∧ (zs.map fun z => z.length + 1).sum ≤ Rows.uptoBulk d := by
  obtain ⟨css, zs, hl, hs, hb⟩ := open_list (e := 23) (k := 1) Try.underlying22 (by kernel_rfl) (by decide) (fun cs (a : List UInt8) => ∃ v, cs = [v] ∧ SlB W v a) (fun a => a.length + 1)
    (fun n cs x hcl hf => by obtain ⟨v, xs, e, hs, hb⟩ := bytes_of_trod hf; exact ⟨xs, ⟨v, e, hs⟩, hb⟩) hval h
  refine ⟨zs, ⟨css.flatten, hs, by rw [flatten_length css hl.each, hl.len, Nat.mul_one], fun i u x hu hx => ?_⟩, hb⟩
  rw [flatten_get (by decide) css hl.each, Nat.div_one, Nat.mod_one] at hu
  cases hc : css[i]? with
  | none => rw [hc] at hu; cases hu
  | some cs =>
    rw [hc] at hu
    obtain ⟨v', e, hs'⟩ := hl.rel i cs x hc hx
    subst e
    simp at hu
    subst hu; exact hs'
end Go.Proofs.Ytnpbapefjbfndaa
