/- Arguments laid open: slices of digests, of texts. -/
import Derived.Test.YtidgomppehhkgaaOpB
import Derived.Test.YtidgomppehhkgaaMerQ
import Derived.OpenShut
set_option linter.unusedVariables false
set_option linter.unusedSimpArgs false
namespace Go.Proofs.Ytidgomppehhkgaa
open Go.ChangeShapes Go.WideShapes Go.ChangeAt Go.RowKit

theorem bulk_pos {H : Type} (d : DataW H) : 1 ≤ Rows.uptoBulk d := by
  cases d with
  | lit l => cases l <;> simp [Rows.uptoBulk]
  | _ => simp [Rows.uptoBulk]
theorem digest_of_trod {H : Type} {enc : TypeId × Value → H} {W : World} {n : Nat} {cs : List Value} {x : DataW H × List MemPlace} (hcl : cs.length = 32) (hf : DataW.trod enc Try.prog W 0 (fun _ => true) true n 25 cs = some x) :
    ∃ a : List UInt8, (cs = bs a ∧ a.length = 32) ∧ 32 ≤ Rows.uptoBulk x.1 := by
  obtain ⟨xs, m, _, rfl, _, hxl, hxs⟩ := DataW.trod_array (e := 5) (n := 32) (by kernel_rfl) hf
  refine ⟨cs.map byteOf, ⟨?_, by simpa using hcl⟩, ?_⟩
  · unfold bs; rw [List.map_map]
    apply List.ext_getElem
    · simp
    · intro i h1 h2
      simp only [List.getElem_map, Function.comp]
      have hi : i < 32 := by omega
      have hy := hxs i hi
      rw [show Try.prog.cellsOf 5 = 1 by kernel_rfl, Nat.mul_one] at hy
      have hq : (cs.drop i).take 1 = [cs[i]] := by rw [List.drop_eq_getElem_cons h1]; rfl
      rw [hq] at hy
      cases hx : xs[i]? with
      | none => exact absurd (List.getElem?_eq_none_iff.1 hx) (by omega)
      | some y =>
        rw [hx] at hy
        obtain ⟨k, e, _, hw⟩ := DataW.trod_int Try.underlying5 hy
        injection e with e _
        rw [e]
        simp [Lit.wf, IntKind.min, IntKind.max, IntKind.signed, IntKind.bits] at hw
        show Value.int .u8 k = .int .u8 (((UInt8.ofNat k.toNat).toNat : Nat) : Int)
        rw [UInt8.toNat_ofNat']; congr 1; omega
  · simp only [Rows.uptoBulk]
    have := bulk_map (H := H) (fun _ : Unit => 1) (List.replicate 32 ()) (xs.map (·.1)) (by simp [hxl]) (fun i a d ha hd => bulk_pos d)
    have e : ((List.replicate 32 ()).map fun _ : Unit => 1).sum = 32 := rfl
    rw [e] at this
    omega
theorem open_digests {H : Type} {enc : TypeId × Value → H} {W : World} {base : Nat} {v : Value} {d : DataW H} {ps : List MemPlace} (hval : Value.okWide Try.prog W .any base 22 v) (h : DataW.Trod enc Try.prog W 0 (fun _ => true) true 22 v d ps) :
    ∃ ds : List (List UInt8), SlD W v ds ∧ ds.length * 32 ≤ Rows.uptoBulk d := by
  obtain ⟨css, zs, hl, hs, hb⟩ := open_list (e := 25) (k := 32) Try.underlying22 (by kernel_rfl) (by decide) (fun cs (a : List UInt8) => cs = bs a ∧ a.length = 32) (fun _ => 32) (fun n cs x hcl hf => digest_of_trod hcl hf) hval h
  have e : css.flatten = bs zs.flatten := by
    have e1 : css = zs.map bs := by
      apply List.ext_getElem
      · rw [List.length_map]; exact hl.len
      · intro i h1 h2
        rw [List.getElem_map]
        have h3 : i < zs.length := by simpa using h2
        exact (hl.rel i _ _ (List.getElem?_eq_getElem h1) (List.getElem?_eq_getElem h3)).1
    rw [e1]
    clear e1 hb hs hl h hval
    induction zs with
    | nil => rfl
    | cons a r ih => rw [List.map_cons, List.flatten_cons, List.flatten_cons, ih, bs_append]
  refine ⟨zs, ⟨by rw [← e]; exact hs, fun d hd => ?_⟩, ?_⟩
  · obtain ⟨i, hi, e2⟩ := List.getElem_of_mem hd
    have h1 : i < css.length := by rw [hl.len]; exact hi
    have := (hl.rel i _ _ (List.getElem?_eq_getElem h1) (List.getElem?_eq_getElem hi)).2
    rw [← e2]; exact this
  · have e3 : (zs.map fun _ => 32).sum = zs.length * 32 := by
      clear e hb hs hl h hval
      induction zs with
      | nil => rfl
      | cons a r ih => rw [List.map_cons, List.sum_cons, ih, List.length_cons]; omega
    omega
theorem open_bytess {H : Type} {enc : TypeId × Value → H} {W : World} {base : Nat} {v : Value} {d : DataW H} {ps : List MemPlace} (hval : Value.okWide Try.prog W .any base 42 v) (h : DataW.Trod enc Try.prog W 0 (fun _ => true) true 42 v d ps) :
    ∃ zs : List (List UInt8), SlX W v zs ∧ (zs.map fun z => z.length + 1).sum ≤ Rows.uptoBulk d := by
  obtain ⟨css, zs, hl, hs, hb⟩ := open_list (e := 41) (k := 1) Try.underlying42 (by kernel_rfl) (by decide) (fun cs (a : List UInt8) => ∃ v, cs = [v] ∧ SlB W v a) (fun a => a.length + 1)
    (fun n cs x hcl hf => by obtain ⟨v, xs, e, hs, hb⟩ := bytes_of_trod hf; exact ⟨xs, ⟨v, e, hs⟩, hb⟩) hval h
  refine ⟨zs, ⟨css.flatten, hs, by rw [flatten_length css hl.each, hl.len, Nat.mul_one], fun i u x hu hx => ?_⟩, hb⟩
  rw [flatten_get (by decide) css hl.each, Nat.div_one, Nat.mod_one] at hu
  cases hc : css[i]? with
  | none => rw [hc] at hu; cases hu
  | some cs =>
    rw [hc] at hu
    obtain ⟨v', e, hs'⟩ := hl.rel i cs x hc hx
    subst e
    simp at hu
    subst hu; exact hs'
theorem open_u8 {H : Type} {enc : TypeId × Value → H} {W : World} {base : Nat} {v : Value} {d : DataW H} {ps : List MemPlace} (hval : Value.okWide Try.prog W .any base 5 v) (h : DataW.Trod enc Try.prog W 0 (fun _ => true) true 5 v d ps) : ∃ x : UInt8, v = .int .u8 (c8 x) := by
  obtain ⟨n, rfl, _, _, wf⟩ := open_int Try.underlying5 hval h
  refine ⟨UInt8.ofNat n.toNat, ?_⟩
  simp [Lit.wf, IntKind.min, IntKind.max, IntKind.signed, IntKind.bits] at wf
  congr 1; unfold c8; rw [UInt8.toNat_ofNat']; omega

end Go.Proofs.Ytidgomppehhkgaa
