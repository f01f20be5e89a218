/- slices.Backward of digests, as an iterator (walk). -/
import Derived.RangeFuncNested
import Derived.RangeFuncBound
import Derived.RangeFuncCalls
import Derived.RangeFuncLeaves
import Derived.Shelf.Abstract
import Derived.Shelf.RegionOpen
import Derived.WalkKit
import Derived.OwnWalkIn
import Derived.TacticsInMore
import Derived.LoopNIn
import Derived.LoopIn
import Derived.Test.YtcaaeimcieooiaaRngF
set_option linter.unusedVariables false
set_option linter.unusedSimpArgs false
namespace Go.Proofs.Ytcaaeimcieooiaa
open Go.RowKit Go.Shelf
attribute [local go_sem] Oper.semAt_some

section
variable {F : Fence} {m : Nat} {ops : Array Oper} {rest : List Oper} {o : Oper} {a : Act} {w : World} {Q : Exit → Act → World → Prop}
theorem in_value (hg : o.guard = none) (hd : ∀ c, o.op ≠ .defer c) (hc : ∀ c, o.op ≠ .call c) {v : Value} {w' : World} (hr : (execOp a.eval o).run Try.prog w = .ok (.value v) w')
    (h : wpListIn F m Try.prog ops Q rest (a.put o.dst v) w') : wpListIn F m Try.prog ops Q (o :: rest) a w := by
  refine wpListIn_plain hg fun K hK => ?_
  unfold Oper.wpIn
  refine ⟨fun f hf => ?_, ?_⟩
  · unfold Oper.about at hf
    split at hf
    · rename_i c e; exact absurd e (hc c)
    · cases hf
  · rw [Oper.semAt_plain F _ _ hd, hr]
    exact hK _ _ h
theorem in_skip (hg : o.guard = none) (hd : ∀ c, o.op ≠ .defer c) (hc : ∀ c, o.op ≠ .call c) {w' : World} (hr : (execOp a.eval o).run Try.prog w = .ok .skip w')
    (h : wpListIn F m Try.prog ops Q rest (a.put o.dst undef) w') : wpListIn F m Try.prog ops Q (o :: rest) a w := by
  refine wpListIn_plain hg fun K hK => ?_
  unfold Oper.wpIn
  refine ⟨fun f hf => ?_, ?_⟩
  · unfold Oper.about at hf
    split at hf
    · rename_i c e; exact absurd e (hc c)
    · cases hf
  · rw [Oper.semAt_plain F _ _ hd, hr]
    exact hK _ _ h
theorem Arr8.loadAtI {t : TypeId} {n : Nat} (T : Arr8 t n) {x : List UInt8} {ad : Addr} (hB : RdB w (some ad) x) (hg : o.guard = none) (hx : x.length = n) (p : Operand) (ho : o.op = .load t p) (hp : a.eval p = .pointer (some ad))
    (h : wpListIn F m Try.prog ops Q rest (a.put o.dst (dg x)) w) : wpListIn F m Try.prog ops Q (o :: rest) a w := by
  refine in_value hg (by rw [ho]; intro c e; cases e) (by rw [ho]; intro c e; cases e) (v := dg x) (w' := w) ?_ h
  unfold execOp
  simp only [ho, hp, Instr.loadAt, Instr.sureAddr, Sem.run_bind, Sem.run_pure, Result.andThen_ok, T.loadAt hB hx]
theorem Arr8.loadI {t : TypeId} {n : Nat} (T : Arr8 t n) {x : List UInt8} {B : Nat} (hB : RowT t w B x) (hg : o.guard = none) (hx : x.length = n) (p : Operand) (ho : o.op = .load t p) (hp : a.eval p = .pointer (some ⟨B, 0, none⟩))
    (h : wpListIn F m Try.prog ops Q rest (a.put o.dst (dg x)) w) : wpListIn F m Try.prog ops Q (o :: rest) a w := by
  refine in_value hg (by rw [ho]; intro c e; cases e) (by rw [ho]; intro c e; cases e) (v := dg x) (w' := w) ?_ h
  exact T.ex hB hx p ho hp
theorem Arr8.storeI {t : TypeId} {n : Nat} (T : Arr8 t n) {B : Nat} {x z : List UInt8} (hB : RowT t w B z) (hz : z.length = n) (hg : o.guard = none) (hx : x.length = n) (p y : Operand) (ho : o.op = .store t p y) (hp : a.eval p = .pointer (some ⟨B, 0, none⟩)) (hy : a.eval y = dg x)
    (h : wpListIn F m Try.prog ops Q rest (a.put o.dst undef) (w.setRow B (bs x).toArray)) : wpListIn F m Try.prog ops Q (o :: rest) a w := by
  refine in_skip hg (by rw [ho]; intro c e; cases e) (by rw [ho]; intro c e; cases e) (w' := w.setRow B (bs x).toArray) ?_ h
  unfold execOp
  have hr := run_storeVar_row (P := Try.prog) w B t t (bs z).toArray (bs x).toArray hB (T.infoA hx) (by simp [bs_length, hx, hz]) (all_oneCell_toArray (bs_one _))
  unfold dg at hy
  simp only [ho, hp, hy, Instr.storeAt, Instr.sureAddr, Sem.run_bind, Sem.run_pure, Result.andThen_ok, hr]
theorem at_storeI {P : Program} {d : Option Tmp} {t ty : TypeId} {x y : Operand} {p : String} {af : Array Edge} {g : Option (Nat × Bool)}
    (h : wpListIn F m P ops Q ({ dst := d, op := .store t x y, type := ty, pos := p, after := af, guard := g } :: rest) a w) : wpListIn F m P ops Q ({ dst := d, op := .store t x y, type := ty, pos := p, after := af, guard := g } :: rest) a w := h
theorem at_loadI {P : Program} {d : Option Tmp} {t ty : TypeId} {x : Operand} {p : String} {af : Array Edge} {g : Option (Nat × Bool)}
    (h : wpListIn F m P ops Q ({ dst := d, op := .load t x, type := ty, pos := p, after := af, guard := g } :: rest) a w) : wpListIn F m P ops Q ({ dst := d, op := .load t x, type := ty, pos := p, after := af, guard := g } :: rest) a w := h
end

/-- A peak with its place. -/
abbrev Pk := { x : Nat × List UInt8 // x.2.length = 32 }
abbrev encP (x : Pk) : Array Value := #[.int .i64 (x.1.1 : Int), dg x.1.2]
/-- What has come when k rounds are over: from behind. -/
def backP (f : Nat → Pk) : Nat → Nat → List Pk
  | _, 0 => []
  | n, k + 1 => backP f n k ++ [f (n - 1 - k)]
theorem backP_length (f : Nat → Pk) (n : Nat) : ∀ k, (backP f n k).length = k
  | 0 => rfl
  | k + 1 => by unfold backP; rw [List.length_append, backP_length f n k]; rfl

set_option maxRecDepth 100000 in
set_option maxHeartbeats 4000000 in
/-- The iterator of slices.Backward. -/
theorem back_in (n : Nat) (hn : 1 ≤ n) (l Bs N c : Nat) (ad : Addr) (f : Nat → Pk) (hf : ∀ k, (f k).1.1 = k) (hN : N ≤ 65536) (Kp : World → World → Prop) (hKr : ∀ W, Kp W W) (hKt : ∀ {A B C : World}, Kp A B → Kp B C → Kp A C) (J Jx : List Pk → World → Prop)
    (hY : ∀ pre x W, J pre W → pre.length < N → YieldAt Fence.wide (n - 1) Try.prog l (encP x) W fun e W' =>
      (e = .returned (.bool true) ∧ J (pre ++ [x]) W' ∧ Kp W W') ∨ (e = .returned (.bool false) ∧ Jx (pre ++ [x]) W'))
    (W : World) (hBs : ∀ W', Kp W W' → W'.cell? ⟨Bs, 0, none⟩ = some (.slice (some ad) N c)) (hc : ∀ W', Kp W W' → ∀ j, j < N → RdB W' (some (ad.add (j * 32))) (f j).1.2) (h0 : J [] W) :
    CallsIn Fence.wide n Try.prog 35 #[.func (.yield l) #[] #[], .pointer (some ⟨Bs, 0, none⟩)] W fun e W' => (∃ v, e = .returned v) ∧
      ((∃ ys, ys = backP f N N ∧ J ys W') ∨ (∃ pre, (∃ k, k ≤ N ∧ pre = backP f N k) ∧ Jx pre W')) := by
  refine callsIn_of_wp Try.func35 rfl trivial ?_ rfl
  simp only [Try.ntmps35, List.size_toArray, List.length_cons, List.length_nil, Nat.reduceAdd, Nat.reduceSub, Array.replicate_succ, Array.replicate_zero, List.push_toArray, List.append_toArray, List.nil_append, List.cons_append]
  have hN1 : RowKit.wrap64 ((N : Int) - 1) = (N : Int) - 1 := by unfold RowKit.wrap64; omega
  have hBs0 := hBs W (hKr W)
  gi_wp2
  gi_loopw [3] (fun i wr => ∃ k : Nat, k ≤ N ∧ i = .int .i64 ((N : Int) - 1 - k) ∧ J (backP f N k) wr ∧ Kp W wr)
    (fun i _ => (intOf i + 1).toNat)
  case atStart => exact ⟨0, Nat.zero_le _, by simp, h0, hKr _⟩
  case round =>
    obtain ⟨k, hk, rfl, hJs, hnx⟩ := hrel
    have hBs' : wr.cell? ⟨Bs, 0, none⟩ = some (.slice (some ad) N c) := hBs wr hnx
    clear hBs hBs0
    by_cases hlt : k < N
    · obtain ⟨q, hq⟩ : ∃ q : Nat, N - 1 - k = q := ⟨_, rfl⟩
      have hqI : (N : Int) - 1 - k = (q : Int) := by omega
      have hR0 := hc wr hnx q (by omega)
      have hd := (f q).2
      obtain ⟨fn, tmps, assign, body, hy, hR⟩ := hY _ (f q) wr hJs (by rw [backP_length]; exact hlt)
      unfold encP at hy
      rw [hf q] at hy
      have hsn : backP f N k ++ [f q] = backP f N (k + 1) := by rw [← hq]; rfl
      rw [hsn] at hR
      rw [hqI]
      have hq0 : (0 : Int) ≤ q := by omega
      have hqN : (q : Int) < N := by omega
      clear hsn hc hY
      generalize (f q).1.2 = d at *
      replace hqI : Hid _ := hqI
      gi_wp2_with ((with_reducible refine at_loadI ?_); refine arr_dg.loadAtI hR0 rfl hd _ rfl rfl ?_)
      refine hR.mono ?_
      rintro e W3 (⟨rfl, hJ3, hk3⟩ | ⟨rfl, hJx3⟩)
      · have w1 : RowKit.wrap64 ((q : Int) - 1) = (q : Int) - 1 := by unfold RowKit.wrap64; omega
        gi_wp2
        go_roundw
        case rel => exact ⟨k + 1, by omega, by have := hqI.out; rw [show (N : Int) - 1 - ((k + 1 : Nat) : Int) = (q : Int) - 1 by omega], hJ3, hKt hnx hk3⟩
        case measure => simp [intOf]
      · gi_wp2
        refine bodyPost_ret (results_none rfl _ _ _) rfl ?_
        exact ⟨⟨_, rfl⟩, .inr ⟨_, ⟨k + 1, by omega, rfl⟩, hJx3⟩⟩
    · obtain rfl : k = N := by omega
      have e : (k : Int) - 1 - k = -1 := by omega
      rw [e]
      gi_wp2
      go_end0
      exact ⟨⟨_, rfl⟩, .inl ⟨_, rfl, hJs⟩⟩
set_option maxRecDepth 100000 in
set_option maxHeartbeats 4000000 in
/-- .. at the nil slice: no round. -/
theorem back_nil_in (n l Bs : Nat) (J : List Pk → World → Prop) (W : World) (hBs : W.cell? ⟨Bs, 0, none⟩ = some (.slice none 0 0)) (h0 : J [] W) :
    CallsIn Fence.wide n Try.prog 35 #[.func (.yield l) #[] #[], .pointer (some ⟨Bs, 0, none⟩)] W fun e W' => (∃ v, e = .returned v) ∧ J [] W' := by
  refine callsIn_of_wp Try.func35 rfl trivial ?_ rfl
  simp only [Try.ntmps35, List.size_toArray, List.length_cons, List.length_nil, Nat.reduceAdd, Nat.reduceSub, Array.replicate_succ, Array.replicate_zero, List.push_toArray, List.append_toArray, List.nil_append, List.cons_append]
  gi_wp2
  gi_loopw [3] (fun i wr => i = .int .i64 (-1) ∧ J [] wr) (fun _ _ => 0)
  case atStart => exact ⟨rfl, h0⟩
  case round =>
    obtain ⟨rfl, hJs⟩ := hrel
    gi_wp2
    go_end0
    exact ⟨⟨_, rfl⟩, hJs⟩
/-- The digests with their places. -/
def pkOf (ds : List (List UInt8)) (h : All32 ds) (k : Nat) : Pk := ⟨(k, if k < ds.length then ds.getD k [] else zer), by
  by_cases hk : k < ds.length
  · simp only [if_pos hk]; apply h; simp [hk]
  · simp only [if_neg hk]; exact zer_length⟩
theorem pkOf_get (ds : List (List UInt8)) (h : All32 ds) {k : Nat} (hk : k < ds.length) : (pkOf ds h k).1.2 = ds.getD k [] := by unfold pkOf; simp only [if_pos hk]
/-- slices.Backward hands back a value that has its contract. -/
theorem back_stops (n : Nat) (hn : 1 ≤ n) (Bs : Nat) (v : Value) (ds : List (List UInt8)) (h32 : All32 ds) (hl : ds.length ≤ 65536) (Kp : World → World → Prop) (hKr : ∀ W, Kp W W) (hKt : ∀ {A B C : World}, Kp A B → Kp B C → Kp A C) (w : World)
    (hBs : ∀ W W', Below w.heap.size w W → Kp W W' → W'.cell? ⟨Bs, 0, none⟩ = some v) (hv : ∀ W W', Below w.heap.size w W → Kp W W' → SlD W' v ds) :
    SeqStopsK Fence.wide n Try.prog 35 #[.pointer (some ⟨Bs, 0, none⟩)] encP Kp (fun ys => ys = backP (pkOf ds h32) ds.length ds.length) (fun pre => ∃ k, k ≤ ds.length ∧ pre = backP (pkOf ds h32) ds.length k) ds.length w := fun l J Jx W hW _ _ hY h0 => by
  obtain ⟨⟨A, c, rfl, _, _, hA, _⟩, _⟩ := hv W W hW (hKr W)
  cases A with
  | none =>
    obtain rfl : c = 0 := hA rfl
    have hnil := (hv W W hW (hKr W)).1
    have h0l : ds.length = 0 := by
      obtain ⟨A2, c2, e, _, _, hA2, hr⟩ := hnil
      injection e with e1 e2 e3
      subst e1
      have := hr.none_
      have hlen : (bs ds.flatten).length = 0 := by rw [this]; rfl
      rw [bs_length, h32.flat] at hlen; omega
    have hB0 := hBs W W hW (hKr W)
    rw [h0l] at hB0 ⊢
    exact (back_nil_in n l Bs J W hB0 h0).mono fun e W' ⟨he, hj⟩ => ⟨he, .inl ⟨_, rfl, hj⟩⟩
  | some ad =>
    refine back_in n hn l Bs ds.length c ad (pkOf ds h32) (fun k => rfl) hl Kp hKr hKt J Jx hY W (fun W' hk => hBs W W' hW hk) (fun W' hk j hj => ?_) h0
    obtain ⟨ad2, e, h⟩ := (hv W W' hW hk).get hj
    cases e
    rw [pkOf_get ds h32 hj]; exact h
end Go.Proofs.Ytcaaeimcieooiaa
