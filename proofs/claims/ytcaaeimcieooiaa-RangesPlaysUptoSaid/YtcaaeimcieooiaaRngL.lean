/- A range in memory, whole: what its calls do. -/
import Derived.Test.YtcaaeimcieooiaaRngJ
import Derived.Test.YtcaaeimcieooiaaRngH
import Derived.Test.YtcaaeimcieooiaaRngK
set_option linter.unusedVariables false
set_option linter.unusedSimpArgs false
set_option maxRecDepth 10000
namespace Go.Proofs.Ytcaaeimcieooiaa
open Go.RowKit

/-- Block p holds a range of n leaves, with these peaks in v; it is the call's own from B on. -/
structure RgH (B : Nat) (w : World) (p n : Nat) (v : Value) (ds : List (List UInt8)) : Prop where
  at_ : RgAt w p n v true
  own : OwD B w v ds
  ge : B ≤ p
  le : n ≤ 1048576
  pop : ds.length = popN 21 n
/-- What Add makes of the peaks, and what it tells. -/
def nextN (n : Nat) (ds : List (List UInt8)) (x : List UInt8) : List (List UInt8) := (addN 21 n ds x [x]).1 ++ [(addN 21 n ds x [x]).2.1]
def toldN (n : Nat) (ds : List (List UInt8)) (x : List UInt8) : List (List UInt8) := (addN 21 n ds x [x]).2.2
theorem RgH.lt {B : Nat} {w : World} {p n : Nat} {v : Value} {ds : List (List UInt8)} (h : RgH B w p n v ds) : p < w.heap.size := h.at_.lt
theorem RgH.len {B : Nat} {w : World} {p n : Nat} {v : Value} {ds : List (List UInt8)} (h : RgH B w p n v ds) : ds.length ≤ 21 := by rw [h.pop]; exact pop_le 21 n
theorem RgH.below {B : Nat} {w w' : World} {p n : Nat} {v : Value} {ds : List (List UInt8)} (h : RgH B w p n v ds) (hb : Below w.heap.size w w') : RgH B w' p n v ds := ⟨h.at_.below hb, h.own.below hb, h.ge, h.le, h.pop⟩
theorem OwD.but {S : Nat → Prop} {B : Nat} {w w' : World} {v : Value} {ds : List (List UInt8)} (h : OwD B w v ds) (b : But S w w') (hv : ∀ k, v.ownBlock = Option.some k → ¬ S k) : OwD B w' v ds :=
  h.apart fun k hk => b.block k (h.lt k hk).2 (hv k hk)
theorem RowT.but {S : Nat → Prop} {t : TypeId} {w w' : World} {p : Nat} {xs : List UInt8} (h : RowT t w p xs) (b : But S w w') (hp : ¬ S p) : RowT t w' p xs := (b.block p h.lt hp).trans h
theorem RgH.but {S : Nat → Prop} {B : Nat} {w w' : World} {p n : Nat} {v : Value} {ds : List (List UInt8)} (h : RgH B w p n v ds) (b : But S w w') (hp : ¬ S p) (hv : ∀ k, v.ownBlock = some k → ¬ S k) : RgH B w' p n v ds :=
  ⟨(b.block p h.lt hp).trans h.at_, h.own.but b hv, h.ge, h.le, h.pop⟩
/-- What an Add of this range turns lies from B on. -/
theorem RgH.blk {B : Nat} {w : World} {p n : Nat} {v : Value} {ds : List (List UInt8)} (h : RgH B w p n v ds) : ∀ k, RgB p v k → B ≤ k := fun k hk => by
  rcases hk with rfl | hk
  · exact h.ge
  · exact (h.own.lt k hk).1
theorem next_pop {n : Nat} {ds : List (List UInt8)} (hn : n < 1048576) (hp : ds.length = popN 21 n) (x : List UInt8) : (nextN n ds x).length = popN 21 (n + 1) := by
  have h := add_pop 21 n ds x [x] (by omega) hp
  rw [pop_fuel 21 (n + 1) (by omega)] at h
  unfold nextN; rw [List.length_append, List.length_singleton]; exact h
theorem rg_new (w : World) : Calls Try.prog 5 #[] w fun e w' => ∃ p, e = .returned (ptr p) ∧ RgH w.heap.size w' p 0 (.slice none 0 0) [] ∧ Below w.heap.size w w' :=
  (rnew_any w).mono fun e w' ⟨p, he, hp, hr, hb⟩ => ⟨p, he, ⟨hr, OwD.nil _ _, hp, by omega, by decide⟩, hb⟩
theorem rg_add {B : Nat} {w : World} {p n : Nat} {v : Value} {ds : List (List UInt8)} (h : RgH B w p n v ds) (hB : B ≤ w.heap.size) (hn : n < 1048576) (x : List UInt8) (hx : x.length = 32) :
    Calls Try.prog 9 #[ptr p, dg x] w fun e w' => ∃ u v', e = .returned (.tuple #[u, .int .i64 0]) ∧ OwD w.heap.size w' u (toldN n ds x) ∧ RgH B w' p (n + 1) v' (nextN n ds x) ∧ But (RgB p v) w w' ∧
      (∀ k, v'.ownBlock = some k → (v.ownBlock = some k ∨ w.heap.size ≤ k) ∧ u.ownBlock ≠ some k) :=
  (add_at h.at_ h.own hB hn h.pop x hx).mono fun e w' ⟨u, v', he, hu, hr, ho, hb, hd⟩ => ⟨u, v', he, hu, ⟨hr, ho, h.ge, by omega, next_pop hn h.pop x⟩, hb, hd⟩
theorem rg_size {B : Nat} {w : World} {p n : Nat} {v : Value} {ds : List (List UInt8)} (h : RgH B w p n v ds) : Calls Try.prog 13 #[ptr p] w fun e w' => e = .returned (.int .u64 (n : Int)) ∧ w = w' := size_at h.at_
theorem rg_peaks {B : Nat} {w : World} {p n : Nat} {v : Value} {ds : List (List UInt8)} (h : RgH B w p n v ds) :
    Calls Try.prog 12 #[ptr p] w fun e w' => ∃ v', e = .returned v' ∧ OwD w.heap.size w' v' ds ∧ Below w.heap.size w w' := peaks_at h.at_ h.own.sl (by have := h.len; omega)
theorem rg_root {B : Nat} {w : World} {p n : Nat} {v : Value} {ds : List (List UInt8)} (h : RgH B w p n v ds) :
    Calls Try.prog 17 #[ptr p] w fun e w' => e = .returned (dg (headL ds)) ∧ Below w.heap.size w w' := root_at h.at_ h.own.sl (by have := h.len; omega)
theorem rg_copy {B : Nat} {w : World} {p n : Nat} {v : Value} {ds : List (List UInt8)} (h : RgH B w p n v ds) :
    Calls Try.prog 8 #[ptr p] w fun e w' => ∃ q v', e = .returned (ptr q) ∧ RgH w.heap.size w' q n v' ds ∧ Below w.heap.size w w' :=
  (rg_copy_at h.at_ h.own.sl h.le h.pop).mono fun e w' ⟨q, v', he, hq, hr, ho, hb⟩ => ⟨q, v', he, ⟨hr, ho, hq, h.le, h.pop⟩, hb⟩
theorem rg_from (v : Value) (ds : List (List UInt8)) (w : World) (n : Nat) (h : SlD w v ds) (hs : n ≤ 1048576) (hp : ds.length = popN 21 n) :
    Calls Try.prog 14 #[v, .int .u64 (n : Int)] w fun e w' => ∃ q v', e = .returned (.tuple #[ptr q, .int .i64 0]) ∧ RgH w.heap.size w' q n v' ds ∧ Below w.heap.size w w' :=
  (from_ok v ds w n h hs hp).mono fun e w' ⟨q, v', he, hq, hr, ho, hb⟩ => ⟨q, v', he, ⟨hr, ho, hq, hs, hp⟩, hb⟩
end Go.Proofs.Ytcaaeimcieooiaa
