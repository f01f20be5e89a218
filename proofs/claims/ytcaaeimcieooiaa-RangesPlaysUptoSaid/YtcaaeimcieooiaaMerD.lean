/- Slices of digests, as lists. -/
import Derived.Test.YtcaaeimcieooiaaCp
set_option linter.unusedVariables false
set_option linter.unusedSimpArgs false
namespace Go.Proofs.Ytcaaeimcieooiaa
open Go.RowKit

/-- Each is a digest. -/
def All32 (ds : List (List UInt8)) : Prop := ∀ d ∈ ds, d.length = 32
theorem All32.take {ds : List (List UInt8)} (h : All32 ds) (k : Nat) : All32 (ds.take k) := fun d hd => h d (List.mem_of_mem_take hd)
theorem All32.drop {ds : List (List UInt8)} (h : All32 ds) (k : Nat) : All32 (ds.drop k) := fun d hd => h d (List.mem_of_mem_drop hd)
theorem All32.append {ds es : List (List UInt8)} (h : All32 ds) (k : All32 es) : All32 (ds ++ es) := fun d hd => (List.mem_append.1 hd).elim (h d) (k d)
theorem All32.flat {ds : List (List UInt8)} (h : All32 ds) : ds.flatten.length = ds.length * 32 := by
  induction ds with
  | nil => rfl
  | cons d r ih =>
    rw [List.flatten_cons, List.length_append, ih (fun x hx => h x (by simp [hx])), h d (by simp), List.length_cons]; omega
theorem flat_drop : ∀ (l : Nat) (ds : List (List UInt8)), All32 ds → ds.flatten.drop (l * 32) = (ds.drop l).flatten
  | 0, ds, _ => by simp
  | l + 1, [], _ => by simp
  | l + 1, d :: r, h => by
    have hd : d.length = 32 := h d (by simp)
    rw [List.flatten_cons, List.drop_succ_cons, ← flat_drop l r (fun x hx => h x (by simp [hx])), List.drop_append, List.drop_eq_nil_of_le (by omega), List.nil_append]
    congr 1; omega
theorem flat_take : ∀ (l : Nat) (ds : List (List UInt8)), All32 ds → ds.flatten.take (l * 32) = (ds.take l).flatten
  | 0, ds, _ => by simp
  | l + 1, [], _ => by simp
  | l + 1, d :: r, h => by
    have hd : d.length = 32 := h d (by simp)
    rw [List.flatten_cons, List.take_succ_cons, List.flatten_cons, ← flat_take l r (fun x hx => h x (by simp [hx])), List.take_append, List.take_of_length_le (by omega)]
    congr 2; omega
/-- The slice reads as these digests. -/
def SlD (w : World) (v : Value) (ds : List (List UInt8)) : Prop := Sl w v ds.length (bs ds.flatten) ∧ All32 ds
theorem SlD.below {w w' : World} {v : Value} {ds : List (List UInt8)} (h : SlD w v ds) (hb : Below w.heap.size w w') : SlD w' v ds := ⟨h.1.below hb, h.2⟩
theorem slD_nil (w : World) : SlD w (.slice none 0 0) [] := ⟨sl_nil w, fun d hd => by cases hd⟩
theorem SlD.slice {w : World} {A : Option Addr} {n c : Nat} {ds : List (List UInt8)} (h : SlD w (.slice A n c) ds) (l k : Nat) (hl : l ≤ k) (hk : k ≤ ds.length) :
    SlD w (.slice (slA A l c 32) (k - l) (c - l)) ((ds.drop l).take (k - l)) := by
  obtain ⟨h1, h2⟩ := h
  have hn : n = ds.length := by obtain ⟨A', c', e, _⟩ := h1; injection e
  subst hn
  have := sl_slice (s := 32) h1 (by rw [bs_length, h2.flat]) l k hl hk
  rw [bs_drop, bs_take, flat_drop _ _ h2, flat_take _ _ (h2.drop l)] at this
  refine ⟨?_, (h2.drop l).take _⟩
  rw [List.length_take, List.length_drop, Nat.min_eq_left (by omega)]
  exact this
/-- A digest of the slice. -/
theorem SlD.get {w : World} {A : Option Addr} {n c i : Nat} {ds : List (List UInt8)} (h : SlD w (.slice A n c) ds) (hi : i < ds.length) : ∃ ad, A = some ad ∧ RdB w (some (ad.add (i * 32))) (ds.getD i []) := by
  obtain ⟨h1, h2⟩ := h
  obtain ⟨A', c', e, _, _, hA, hr⟩ := h1
  injection e with e1 e2 e3
  subst e1
  have hf := h2.flat
  cases A with
  | none =>
    have := hr.none_
    have hl : (bs ds.flatten).length = 0 := by rw [this]; rfl
    rw [bs_length, hf] at hl; omega
  | some ad =>
    refine ⟨ad, rfl, ?_⟩
    have hd := hr.drop (i * 32)
    have ht := hd.take 32
    have e : ((bs ds.flatten).drop (i * 32)).take 32 = bs (ds.getD i []) := by
      rw [bs_drop, bs_take, flat_drop _ _ h2]
      have : ds.drop i = ds.getD i [] :: ds.drop (i + 1) := by rw [List.drop_eq_getElem_cons hi]; simp [hi]
      rw [this, List.flatten_cons]
      have hl : (ds.getD i []).length = 32 := by
        apply h2; simp [hi]
      rw [List.take_append_of_le_length (by omega), List.take_of_length_le (by omega)]
    rw [e] at ht; exact ht
theorem SlD.len32 {w : World} {v : Value} {ds : List (List UInt8)} (h : SlD w v ds) {i : Nat} (hi : i < ds.length) : (ds.getD i []).length = 32 := by apply h.2; simp [hi]
end Go.Proofs.Ytcaaeimcieooiaa
