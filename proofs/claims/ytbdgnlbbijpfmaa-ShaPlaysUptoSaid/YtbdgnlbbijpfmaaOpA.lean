/- The parts of chapter 2's law, laid open. -/
import Derived.Test.YtbdgnlbbijpfmaaOpB
import Derived.Test.YtbdgnlbbijpfmaaShaP
set_option linter.unusedVariables false
set_option linter.unusedSimpArgs false
namespace Go.Proofs.Ytbdgnlbbijpfmaa
open Go.ChangeShapes Go.WideShapes Go.ChangeAt Go.RowKit

theorem bool_of_trod {H : Type} {enc : TypeId × Value → H} {W : World} {n : Nat} {cs : List Value} {x : DataW H × List MemPlace} (hf : DataW.trod enc Try.prog W 0 (fun _ => true) true n 4 cs = some x) : ∃ b, cs = [.bool b] := by
  cases n with
  | zero => simp [DataW.trod] at hf
  | succ m =>
    rw [DataW.trod_step] at hf
    unfold DataW.trodStep at hf
    rw [Try.underlying4] at hf
    split at hf <;> simp_all
theorem open_acts {H : Type} {enc : TypeId × Value → H} {W : World} {base : Nat} {v : Value} {d : DataW H} {ps : List MemPlace} (hval : Value.okWide Try.prog W .any base 35 v) (h : DataW.Trod enc Try.prog W 0 (fun _ => true) true 35 v d ps) :
    ∃ (css : List (List Value)) (zs : List ActP), ListAt 3 (ActC W) css zs ∧ Sl W v zs.length css.flatten ∧ (zs.map fun a => a.b.length + 1).sum ≤ Rows.uptoBulk d := by
  refine open_list (e := 39) (k := 3) Try.underlying35 (by kernel_rfl) (by decide) (ActC W) (fun a => a.b.length + 1) ?_ hval h
  intro n cs x hcl hf
  obtain ⟨xs, m, _, rfl, _, hxl, hfs⟩ := DataW.trod_struct Try.underlying39 hf
  have hx3 : xs.length = 3 := by simpa using hxl
  match cs, hcl, xs, hx3 with
  | [a, b, c], _, [x0, x1, x2], _ =>
    have f0 := hfs 0 _ rfl
    have f1 := hfs 1 _ rfl
    have f2 := hfs 2 _ rfl
    change DataW.trod _ _ _ _ _ _ m 22 (List.take (Try.prog.cellsOf 22) (List.drop 0 [a, b, c])) = some x0 at f0
    change DataW.trod _ _ _ _ _ _ m 4 (List.take (Try.prog.cellsOf 4) (List.drop 1 [a, b, c])) = some x1 at f1
    change DataW.trod _ _ _ _ _ _ m 4 (List.take (Try.prog.cellsOf 4) (List.drop 2 [a, b, c])) = some x2 at f2
    rw [show Try.prog.cellsOf 22 = 1 by kernel_rfl] at f0
    rw [show Try.prog.cellsOf 4 = 1 by kernel_rfl] at f1 f2
    obtain ⟨v, ys, e0, hs, hb⟩ := bytes_of_trod (x := x0) f0
    obtain ⟨b1, e1⟩ := bool_of_trod (x := x1) f1
    obtain ⟨b2, e2⟩ := bool_of_trod (x := x2) f2
    simp at e0 e1 e2
    refine ⟨⟨ys, b1, b2⟩, ⟨v, by rw [e0, e1, e2], hs⟩, ?_⟩
    simp only [List.map_cons, List.map_nil, Rows.uptoBulk, Rows.uptoBulkAll]; omega
end Go.Proofs.Ytbdgnlbbijpfmaa
