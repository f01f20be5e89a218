/- Bytes copied into an array that lies in memory; a new row as a slice. -/
import Derived.Test.YtcaaeimcieooiaaSg
set_option linter.unusedVariables false
set_option linter.unusedSimpArgs false
set_option maxRecDepth 10000
namespace Go.Proofs.Ytcaaeimcieooiaa
open Go.RowKit

theorem sl_new (w : World) (cs : List Value) (t : TypeId) (n : Nat) (hn : cs.length = n) (hm : n ≤ 1099511627776) : Sl (w.alloc (.cells cs.toArray t)) (.slice (some ⟨w.heap.size, 0, none⟩) n n) n cs :=
  ⟨_, _, rfl, Nat.le_refl _, by omega, by simp, rc_new _ _ _⟩
/-- Bytes copied into an array that lies in memory. -/
theorem copy_into {t : TypeId} {w : World} {B : Nat} {zs us : List UInt8} (h : RowT t w B zs) (off n m : Nat) {ad : Addr} {c cap : Nat} (hu : RdB w (some ad) us) (hm : m = us.length) (hn : n = zs.length - off) (ho : off + us.length ≤ zs.length) (hc : n ≤ cap) :
    (Builtin.copy_ #[56, 56] 3 #[.slice (some ⟨B, off, none⟩) n cap, .slice (some ad) m c]).run Try.prog w = .ok (.int .i64 (m : Int)) (w.setRow B (bs (put zs off us)).toArray) := by
  subst hm hn
  have := run_copy_row (P := Try.prog) w 56 56 3 5 B off (zs.length - off) cap ad us.length c (bs zs).toArray t (bs us)
    Try.underlying56 (by kernel_rfl) h (by rw [bs_length]; exact (Nat.min_eq_left (by omega)).symm) hu.some_ (by rw [bs_length, List.size_toArray, bs_length]; omega) (bs_one _)
  rw [this, bs_length]
  have e : (bs (put zs off us)).toArray = (((bs zs).toArray.toList.take off) ++ bs us ++ ((bs zs).toArray.toList.drop (off + us.length))).toArray := by
    unfold put; rw [bs_append, bs_append, bs_take, bs_drop]
  rw [e]; rfl
theorem own_one (w : World) (x : UInt8) (B : Nat) (hB : B ≤ w.heap.size) : OwB B (w.alloc (.cells #[.int .u8 (c8 x)] 5)) (.slice (some ⟨w.heap.size, 0, none⟩) 1 1) [x] :=
  World.ownsRow_lit (base := B) (e := 5) (size := 1) w #[.int .u8 (c8 x)] 1 hB (by decide) rfl

end Go.Proofs.Ytcaaeimcieooiaa
