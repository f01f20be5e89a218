/- The closure of Consistent: the left part, the right part (walks). -/
import Derived.Test.YtnpbapefjbfndaaZExtH
import Derived.Test.YtnpbapefjbfndaaZXa
import Derived.Deep.DeepCutAuto
set_option linter.unusedVariables false
set_option linter.unusedSimpArgs false
set_option maxRecDepth 10000
namespace Go.Proofs.Ytnpbapefjbfndaa
open Go.RowKit
attribute [local go_sem high] dg_cells guard_dg rs_l rs_lh rs_lhm rs_h rs_hm rs_all

theorem zeroD (w : World) : (zeroValue 38).run Try.prog w = .ok (.agg (bs zer).toArray) w :=
  (zero_of_info (P := Try.prog) (t := 38) (v := .agg (bs zer).toArray) (n := 32) (by kernel_rfl)).1 w
/-- A new variable, if it has been made. -/
def NewD (lo : Nat) (w : World) (x : Option Nat) : Prop := ∀ B, x = some B → lo < B ∧ RowT 38 w B zer
theorem NewD.none (lo : Nat) (w : World) : NewD lo w none := fun B e => by cases e
theorem NewD.ext {lo : Nat} {w w' : World} {x : Option Nat} (h : NewD lo w x) (hb : Ext w w') : NewD lo w' x := fun B e => ⟨(h B e).1, (h B e).2.below hb⟩
theorem NewD.new {lo : Nat} {w : World} (h : lo < w.heap.size) : NewD lo (w.alloc (.cells (bs zer).toArray 38 (0, 0))) (some w.heap.size) := fun B e => by
  cases e; exact ⟨h, heap_alloc_new _ _⟩
theorem NewD.ne {lo : Nat} {w : World} {x : Option Nat} (h : NewD lo w x) : x ≠ some w.heap.size := fun e => Nat.lt_irrefl _ (h _ e).2.lt
/-- What lies ahead of the call. -/
structure Pre2 (w0 w : World) (F G OB UB FB HB : Nat) : Prop where
  l0 : w0.heap.size ≤ w.heap.size
  fl : F < w.heap.size
  gl : G < w.heap.size
  ol : OB < w.heap.size
  ul : UB < w.heap.size
  bl : FB < w.heap.size
  hl : HB < w.heap.size
/-- While the call of the part and its two variables come up. -/
structure Cur2 (w0 w : World) (F G OB UB FB HB g : Nat) (old : List UInt8) (o : Option (List UInt8 × List UInt8)) (f : Bool) (x y : Option Nat) (w' : World) : Prop where
  env : Env2 w0 F G OB UB FB HB g old w'
  fin : FindAt w' F g o
  fit : C1 4 w' G (.bool f)
  but : But w0.heap.size F G w w'
  r0 : RowT 38 w' w.heap.size zer
  r1 : RowT 38 w' (w.heap.size + 1) zer
  pre : Pre2 w0 w F G OB UB FB HB
  ax : NewD (w.heap.size + 1) w' x
  ay : NewD (w.heap.size + 1) w' y
  ne : ∀ B, x = some B → y ≠ some B
section
variable {w0 w w' w'' : World} {F G OB UB FB HB g : Nat} {old : List UInt8} {o o' : Option (List UInt8 × List UInt8)} {f f' : Bool} {x y : Option Nat}
theorem Cur2.ext (h : Cur2 w0 w F G OB UB FB HB g old o f x y w') (hb : Ext w' w'') : Cur2 w0 w F G OB UB FB HB g old o f x y w'' :=
  ⟨h.env.ext hb, h.fin.below hb, h.fit.below hb, h.but.trans (But.of hb h.env.below.size), h.r0.below hb, h.r1.below hb, h.pre, h.ax.ext hb, h.ay.ext hb, h.ne⟩
theorem Cur2.a1 (h : Cur2 w0 w F G OB UB FB HB g old o f none y w') : Cur2 w0 w F G OB UB FB HB g old o f (some w'.heap.size) y (w'.alloc (.cells (bs zer).toArray 38 (0, 0))) :=
  let k := h.ext (ext_alloc w' _)
  ⟨k.env, k.fin, k.fit, k.but, k.r0, k.r1, h.pre, NewD.new (by have := h.r1.lt; omega), k.ay, fun B e e2 => by cases e; exact h.ay.ne e2⟩
theorem Cur2.a2 (h : Cur2 w0 w F G OB UB FB HB g old o f x none w') : Cur2 w0 w F G OB UB FB HB g old o f x (some w'.heap.size) (w'.alloc (.cells (bs zer).toArray 38 (0, 0))) :=
  let k := h.ext (ext_alloc w' _)
  ⟨k.env, k.fin, k.fit, k.but, k.r0, k.r1, h.pre, k.ax, NewD.new (by have := h.r1.lt; omega), fun B e e2 => by cases e2; exact h.ax.ne e⟩
theorem Cur2.call (h : Cur2 w0 w F G OB UB FB HB g old o f x y w') (D : Dis2 w0 F G OB UB FB HB) (hf : FindAt w'' F g o') (hg : C1 4 w'' G (.bool f')) (m : But w0.heap.size F G w' w'') : Cur2 w0 w F G OB UB FB HB g old o' f' x y w'' :=
  have hp := h.pre
  ⟨h.env.but D m, hf, hg, h.but.trans m, h.r0.but m (by have := hp.fl; omega) (by have := hp.gl; omega), h.r1.but m (by have := hp.fl; omega) (by have := hp.gl; omega), hp,
    fun B e => ⟨(h.ax B e).1, (h.ax B e).2.but m (by have := hp.fl; have := (h.ax B e).1; omega) (by have := hp.gl; have := (h.ax B e).1; omega)⟩,
    fun B e => ⟨(h.ay B e).1, (h.ay B e).2.but m (by have := hp.fl; have := (h.ay B e).1; omega) (by have := hp.gl; have := (h.ay B e).1; omega)⟩, h.ne⟩
theorem env_row (h : Env2 w0 F G OB UB FB HB g old w') (p : Pre2 w0 w F G OB UB FB HB) {A : Nat} (hA : w.heap.size ≤ A) (cs : Array Value) : Env2 w0 F G OB UB FB HB g old (w'.setRow A cs) :=
  h.row (by have := p.l0; omega) (by have := p.ol; omega) (by have := p.ul; omega) (by have := p.bl; omega) (by have := p.hl; omega) cs
/-- When the part's heads lie in their variables. -/
structure Cut2 (w0 w : World) (F G OB UB FB HB g : Nat) (old : List UInt8) (o : Option (List UInt8 × List UInt8)) (f : Bool) (A B : Nat) (a b : List UInt8) (w' : World) : Prop where
  env : Env2 w0 F G OB UB FB HB g old w'
  fin : FindAt w' F g o
  fit : C1 4 w' G (.bool f)
  but : But w0.heap.size F G w w'
  r0 : RowT 38 w' w.heap.size zer
  r1 : RowT 38 w' (w.heap.size + 1) zer
  pre : Pre2 w0 w F G OB UB FB HB
  ra : RowT 38 w' A a
  rb : RowT 38 w' B b
  la : w.heap.size + 1 < A
  lb : w.heap.size + 1 < B
theorem Cur2.cut {A B : Nat} (h : Cur2 w0 w F G OB UB FB HB g old o f (some A) (some B) w') (a b : List UInt8) : Cut2 w0 w F G OB UB FB HB g old o f A B a b ((w'.setRow A (bs a).toArray).setRow B (bs b).toArray) := by
  have hp := h.pre
  obtain ⟨lA, rA⟩ := h.ax A rfl
  obtain ⟨lB, rB⟩ := h.ay B rfl
  have hne : A ≠ B := fun e => h.ne A rfl (by rw [e])
  have rB1 := rB.other (D := A) (fun e => hne e.symm) (bs a).toArray
  have l0 := hp.l0
  have fl := hp.fl
  have gl := hp.gl
  exact ⟨env_row (env_row h.env hp (by omega) _) hp (by omega) _, (h.fin.row rA _).row rB1 _, (h.fit.row (by omega) _).row (by omega) _, (h.but.setRow (by omega) (by omega) _).setRow (by omega) (by omega) _,
    (h.r0.other (by omega) _).other (by omega) _, (h.r1.other (by omega) _).other (by omega) _, hp, (rA.setRow a).other hne _, rB1.setRow b, lA, lB⟩
/-- What stands while the part's text is held against the other. -/
structure Env3 (w0 w : World) (F G OB UB FB HB g : Nat) (old : List UInt8) (A B : Nat) (a b : List UInt8) (w' : World) : Prop where
  env : Env2 w0 F G OB UB FB HB g old w'
  ra : RowT 38 w' A a
  rb : RowT 38 w' B b
theorem Env3.ext {A B : Nat} {a b : List UInt8} (h : Env3 w0 w F G OB UB FB HB g old A B a b w') (hb : Ext w' w'') : Env3 w0 w F G OB UB FB HB g old A B a b w'' := ⟨h.env.ext hb, h.ra.below hb, h.rb.below hb⟩
theorem Env3.but {A B : Nat} {a b : List UInt8} (h : Env3 w0 w F G OB UB FB HB g old A B a b w') (D : Dis2 w0 F G OB UB FB HB) (p : Pre2 w0 w F G OB UB FB HB) (la : w.heap.size + 1 < A) (lb : w.heap.size + 1 < B) (m : But w0.heap.size F G w' w'') : Env3 w0 w F G OB UB FB HB g old A B a b w'' :=
  ⟨h.env.but D m, h.ra.but m (by have := p.fl; omega) (by have := p.gl; omega), h.rb.but m (by have := p.fl; omega) (by have := p.gl; omega)⟩
theorem Env3.row {A B R : Nat} {a b : List UInt8} (h : Env3 w0 w F G OB UB FB HB g old A B a b w') (p : Pre2 w0 w F G OB UB FB HB) (la : w.heap.size + 1 < A) (lb : w.heap.size + 1 < B) (h0 : w.heap.size ≤ R) (h1 : R ≤ w.heap.size + 1) (cs : Array Value) : Env3 w0 w F G OB UB FB HB g old A B a b (w'.setRow R cs) :=
  ⟨env_row h.env p h0 cs, h.ra.other (by omega) _, h.rb.other (by omega) _⟩
end
set_option maxHeartbeats 16000000 in
theorem gp_left (w0 : World) (F G OB UB FB HB g k : Nat) (hk : k ≤ 256) (old : List UInt8) (D : Dis2 w0 F G OB UB FB HB) (A Ap : Option Addr) (c cp : Nat) (l : List (List UInt8)) (m j : Nat) (mark : Bool) (ps : List (List UInt8)) (wy : WayL) (w : World)
    (he : Env2 w0 F G OB UB FB HB g old w) (hF : FindAt w F g none) (hG : C1 4 w G (.bool true)) (hg : HvAt w0 g k) (hl : SlX w0 (.slice A l.length c) l) (h2 : 2 ≤ l.length) (hll : l.length ≤ 1048576) (hz : ∀ z ∈ l, z.length ≤ 1048576)
    (hp : SlD w0 (.slice Ap ps.length cp) ps) (h0 : 0 < ps.length) (hj : kOf l.length = j) (hml : m ≠ l.length) (hmj : m ≤ j) (hnl : wy.new.length = 32) (hol : wy.old.length = 32)
    (hup : ∀ w', Env2 w0 F G OB UB FB HB g old w' → FindAt w' F g none → C1 4 w' G (.bool true) →
      Calls Try.prog 42 #[.slice A j c, .int .i64 m, .bool mark, .slice Ap (ps.length - 1) cp, .pointer (some ⟨G, 0, none⟩), .pointer (some ⟨OB, 0, none⟩), .pointer (some ⟨UB, 0, none⟩), .pointer (some ⟨FB, 0, none⟩), .pointer (some ⟨HB, 0, none⟩)] w'
        fun e w'' => e = .returned (.tuple #[dg wy.old, dg wy.new]) ∧ FindAt w'' F g wy.p ∧ C1 4 w'' G (.bool wy.fits) ∧ But w0.heap.size F G w' w'') :
    Calls Try.prog 42 #[.slice A l.length c, .int .i64 m, .bool mark, .slice Ap ps.length cp, .pointer (some ⟨G, 0, none⟩), .pointer (some ⟨OB, 0, none⟩), .pointer (some ⟨UB, 0, none⟩), .pointer (some ⟨FB, 0, none⟩), .pointer (some ⟨HB, 0, none⟩)] w
      fun e w' => e = .returned (.tuple #[dg wy.old, dg (stepL k wy (ndL wy.new (lastL ps)) l).new]) ∧ FindAt w' F g (stepL k wy (ndL wy.new (lastL ps)) l).p ∧ C1 4 w' G (.bool wy.fits) ∧ But w0.heap.size F G w w' := by
  have e1 : (stepL k wy (ndL wy.new (lastL ps)) l).new = hashL k (ndL wy.new (lastL ps)) := rfl
  have e2 : (stepL k wy (ndL wy.new (lastL ps)) l).p = metL k wy.p (ndL wy.new (lastL ps)) (textL k l) := rfl
  rw [e1, e2]
  clear e1 e2
  obtain ⟨ad, rfl, hrd⟩ := hp.get (i := ps.length - 1) (by omega)
  have hd1 := hp.len32 (i := ps.length - 1) (by omega)
  have hlast : lastL ps = ps.getD (ps.length - 1) [] := rfl
  rw [← hlast] at hrd hd1
  clear hlast
  have hkl := kOf_lt (n := l.length) h2 (by omega)
  rw [hj] at hkl
  have hcl : l.length ≤ c := by obtain ⟨_, _, e, h, _⟩ := hl.len; cases e; exact h
  have hcp : ps.length ≤ cp := by obtain ⟨_, _, e, h, _⟩ := hp.1; cases e; exact h
  have hcpm : cp ≤ 9223372036854775807 := by obtain ⟨_, _, e, _, h, _⟩ := hp.1; cases e; exact h
  have hh := fun w' => half_any l.length w' h2 hll
  rw [hj] at hh
  have hnd := fun w' => node_own wy.new (lastL ps) hnl hd1 w'
  have htl : (ndL wy.new (lastL ps)).length = 65 := ndL_length _ _ hnl hd1
  generalize lastL ps = lst at *
  generalize ndL wy.new lst = t at *
  have q1 : ((m : Int) == l.length) = false := by rw [beq_eq_false_iff_ne]; omega
  have hps : (ps.length : Int) ≤ 9223372036854775807 := by omega
  have j0 : (0 : Int) ≤ (ps.length : Int) - 1 := by omega
  have j1 : (ps.length : Int) - 1 < ps.length := by omega
  have j4 : (1 : Int) ≤ ps.length := by omega
  have j2 : ((ps.length : Int) - 1).toNat = ps.length - 1 := by omega
  have j3 : (ps.length : Int) - 1 ≤ cp := by omega
  have g1 : (j : Int) ≤ c := by omega
  have g2 : (m : Int) ≤ j := by omega
  obtain ⟨h1, h2, b2, z2⟩ := alloc2 (w := w) (o1 := .cells (bs zer).toArray 38 (0, 0)) (o2 := .cells (bs zer).toArray 38 (0, 0)) rfl
  have hcur0 : Cur2 w0 w F G OB UB FB HB g old none true none none ((w.alloc (.cells (bs zer).toArray 38 (0, 0))).alloc (.cells (bs zer).toArray 38 (0, 0))) :=
    have hlt := he.lt
    ⟨he.ext b2, hF.below b2, hG.below b2, But.of b2 he.below.size, h1, h2, ⟨hlt.1, hF.lt, hG.lt, hlt.2.1, hlt.2.2.1, hlt.2.2.2.1, hlt.2.2.2.2⟩, NewD.none _ _, NewD.none _ _, fun B e => by cases e⟩
  have hdl := hashL_length k t
  replace hj : Hid _ := hj
  replace hmj : Hid _ := hmj
  clear hG hF he hkl hcl hcp hcpm h1 h2 b2 z2
  go_enter Try.func42, Try.ntmps42
  go_wp2_with fail
  (with_reducible refine (hh _).mono ?_); rintro e w' ⟨rfl, rfl⟩
  go_upto_region 13 with fail
  generalize hW : World.alloc (World.alloc w _) _ = W
  have hW2 : (w.alloc (.cells (bs zer).toArray 38 (0, 0))).alloc (.cells (bs zer).toArray 38 (0, 0)) = W := by rw [← hW]; rfl
  rw [hW2] at hcur0
  clear hW hW2 hh
  go_cut [17, 18] (fun s17 s18 wx => ∃ A' B', s17 = .pointer (some ⟨A', 0, none⟩) ∧ s18 = .pointer (some ⟨B', 0, none⟩) ∧ Cut2 w0 w F G OB UB FB HB g old wy.p wy.fits A' B' wy.old wy.new wx)
  case first =>
    have cur := Cur2.ext hcur0 (ext_drew _)
    have hS := cur.env
    clear hcur0 hnd hrd hd1
    refine wp_region_S (fun w' => Env2 w0 F G OB UB FB HB g old w') (by kernel_rfl) ?_
    refine wpAnyS_take (i := 0) (v := ?_) hS (some 67) rfl rfl (by kernel_rfl) (by kernel_rfl) (by kernel_rfl) (fun _ _ _ h => h) ?_ ?_
    rotate_left 1
    · (refine Or.inl ⟨by rfl, ?_⟩; intro w' hw'; have hq1 := hw'.ub.cell.1; unfold gpv at hq1; (try go_simp); (try rfl); done)
    try simp only [Act.put, List.setIfInBounds_toArray, List.set_cons_zero, List.set_cons_succ]
    refine wpAnyS_take (i := 1) (v := ?_) hS (some 68) rfl rfl (by kernel_rfl) (by kernel_rfl) (by kernel_rfl) (fun _ _ _ h => h) ?_ ?_
    rotate_left 1
    · (refine Or.inl ⟨by rfl, ?_⟩; intro w' hw'; have hq1 := hw'.ub.cell.1; unfold gpv at hq1; (try go_simp); (try rfl); done)
    try simp only [Act.put, List.setIfInBounds_toArray, List.set_cons_zero, List.set_cons_succ]
    refine wpAnyS_take (i := 2) (v := ?_) hS (some 69) rfl rfl (by kernel_rfl) (by kernel_rfl) (by kernel_rfl) (fun _ _ _ h => h) ?_ ?_
    rotate_left 1
    · (refine Or.inl ⟨by rfl, ?_⟩; intro w' hw'; have hq1 := hw'.ub.cell.1; unfold gpv at hq1; (try go_simp); (try rfl); done)
    try simp only [Act.put, List.setIfInBounds_toArray, List.set_cons_zero, List.set_cons_succ]
    refine wpAnyS_take (i := 3) (v := ?_) hS (some 70) rfl rfl (by kernel_rfl) (by kernel_rfl) (by kernel_rfl) (fun _ _ _ h => h) ?_ ?_
    rotate_left 1
    · (refine Or.inl ⟨by rfl, ?_⟩; intro w' hw'; have hq1 := hw'.ub.cell.1; unfold gpv at hq1; (try go_simp); (try rfl); done)
    try simp only [Act.put, List.setIfInBounds_toArray, List.set_cons_zero, List.set_cons_succ]
    refine wpAnyS_take (i := 4) (v := ?_) hS (some 71) rfl rfl (by kernel_rfl) (by kernel_rfl) (by kernel_rfl) (fun _ _ _ h => h) ?_ ?_
    rotate_left 1
    · (refine Or.inl ⟨by rfl, ?_⟩; intro w' hw'; have hq1 := hw'.ub.cell.1; unfold gpv at hq1; (try go_simp); (try rfl); done)
    try simp only [Act.put, List.setIfInBounds_toArray, List.set_cons_zero, List.set_cons_succ]
    refine wpAnyS_take (i := 5) (v := ?_) hS (some 72) rfl rfl (by kernel_rfl) (by kernel_rfl) (by kernel_rfl) (fun _ _ _ h => h) ?_ ?_
    rotate_left 1
    · (refine Or.inl ⟨by rfl, ?_⟩; intro w' hw'; have hq1 := hw'.ub.cell.1; unfold gpv at hq1; (try go_simp); (try rfl); done)
    try simp only [Act.put, List.setIfInBounds_toArray, List.set_cons_zero, List.set_cons_succ]
    refine wpAnyS_take (i := 6) (v := ?_) hS (some 73) rfl rfl (by kernel_rfl) (by kernel_rfl) (by kernel_rfl) (fun _ _ _ h => h) ?_ ?_
    rotate_left 1
    · (refine Or.inl ⟨by rfl, ?_⟩; intro w' hw'; have hq1 := hw'.ub.cell.1; unfold gpv at hq1; (try go_simp); (try rfl); done)
    try simp only [Act.put, List.setIfInBounds_toArray, List.set_cons_zero, List.set_cons_succ]
    refine wpAnyS_take (i := 7) (v := ?_) hS (some 74) rfl rfl (by kernel_rfl) (by kernel_rfl) (by kernel_rfl) (fun _ _ _ h => h) ?_ ?_
    rotate_left 1
    · (refine Or.inl ⟨by rfl, ?_⟩; intro w' hw'; have hq1 := hw'.ub.cell.1; unfold gpv at hq1; (try go_simp); (try rfl); done)
    try simp only [Act.put, List.setIfInBounds_toArray, List.set_cons_zero, List.set_cons_succ]
    refine wpAnyS_take (i := 8) (v := ?_) hS (some 75) rfl rfl (by kernel_rfl) (by kernel_rfl) (by kernel_rfl) (fun _ _ _ h => h) ?_ ?_
    rotate_left 1
    · (refine Or.inl ⟨by rfl, ?_⟩; intro w' hw'; have hq1 := hw'.ub.cell.1; unfold gpv at hq1; (try go_simp); (try rfl); done)
    try simp only [Act.put, List.setIfInBounds_toArray, List.set_cons_zero, List.set_cons_succ]
    refine wpAnyS_fork3 (i := 9) (j := 13) (k := 14) (by kernel_rfl) rfl (by rfl) rfl (by rfl) rfl (by rfl) (fun K hK => ?_) (fun K hK => ?_) (fun K hK => ?_)
    · go_simp
      (with_reducible refine (hup _ hS cur.fin cur.fit).mono ?_); rintro e w5 ⟨rfl, f5, g5, m5⟩
      replace cur := cur.call D f5 g5 m5
      have hb := cur.env
      clear f5 g5 m5
      refine hK.out _ _ hb ?_
      replace hS := hb
      clear hK K hb
      try simp only [Act.put, List.setIfInBounds_toArray, List.set_cons_zero, List.set_cons_succ]
      refine wpAnyS_take (i := 10) (v := ?_) hS (some 66) rfl rfl (by kernel_rfl) (by kernel_rfl) (by kernel_rfl) (fun _ _ _ h => h) ?_ ?_
      rotate_left 1
      · (refine Or.inl ⟨by rfl, ?_⟩; intro w' hw'; have hq1 := hw'.ub.cell.1; unfold gpv at hq1; (try go_simp); (try rfl); done)
      try simp only [Act.put, List.setIfInBounds_toArray, List.set_cons_zero, List.set_cons_succ]
      refine wpAnyS_take (i := 11) (v := ?_) hS (some 77) rfl rfl (by kernel_rfl) (by kernel_rfl) (by kernel_rfl) (fun _ _ _ h => h) ?_ ?_
      rotate_left 1
      · (refine Or.inl ⟨by rfl, ?_⟩; intro w' hw'; have hq1 := hw'.ub.cell.1; unfold gpv at hq1; (try go_simp); (try rfl); done)
      try simp only [Act.put, List.setIfInBounds_toArray, List.set_cons_zero, List.set_cons_succ]
      refine wpAnyS_take (i := 12) (v := ?_) hS (some 78) rfl rfl (by kernel_rfl) (by kernel_rfl) (by kernel_rfl) (fun _ _ _ h => h) ?_ ?_
      rotate_left 1
      · (refine Or.inl ⟨by rfl, ?_⟩; intro w' hw'; have hq1 := hw'.ub.cell.1; unfold gpv at hq1; (try go_simp); (try rfl); done)
      try simp only [Act.put, List.setIfInBounds_toArray, List.set_cons_zero, List.set_cons_succ]
      refine wpAnyS_fork2 (i := 13) (j := 14) (by kernel_rfl) rfl (by rfl) rfl (by rfl) (fun K hK => ?_) (fun K hK => ?_)
      · refine wp_alloc_at (some 17) 38 rfl rfl _ (zeroD _) ?_
        replace cur := cur.a1
        generalize World.alloc _ _ = Wn at *
        have hb := cur.env
        refine hK.out _ _ hb ?_
        replace hS := hb
        clear hK K hb
        try simp only [Act.put, List.setIfInBounds_toArray, List.set_cons_zero, List.set_cons_succ]
        refine wpAnyS_one (i := 14) rfl (by kernel_rfl) (by rfl) (fun K hK => ?_)
        refine wp_alloc_at (some 18) 38 rfl rfl _ (zeroD _) ?_
        replace cur := cur.a2
        generalize World.alloc _ _ = Wn at *
        have hb := cur.env
        refine hK.out _ _ hb ?_
        replace hS := hb
        clear hK K hb
        try simp only [Act.put, List.setIfInBounds_toArray, List.set_cons_zero, List.set_cons_succ]
        refine wpAnyS_one (i := 15) rfl (by kernel_rfl) (by rfl) (fun K hK => ?_)
        have hne := cur.ne _ rfl
        refine arr_dg.store (cur.ax _ rfl).2 zer_length hol _ _ rfl rfl rfl ?_
        have hb := env_row cur.env cur.pre (Nat.le_of_lt (Nat.lt_of_succ_lt (cur.ax _ rfl).1)) (bs wy.old).toArray
        refine hK.out _ _ hb ?_
        replace hS := hb
        clear hK K hb
        try simp only [Act.put, List.setIfInBounds_toArray, List.set_cons_zero, List.set_cons_succ]
        refine wpAnyS_one (i := 16) rfl (by kernel_rfl) (by rfl) (fun K hK => ?_)
        refine arr_dg.store ((cur.ay _ rfl).2.other (fun e => hne (by rw [e])) (bs wy.old).toArray) zer_length hnl _ _ rfl rfl rfl ?_
        have hb := env_row hS cur.pre (Nat.le_of_lt (Nat.lt_of_succ_lt (cur.ay _ rfl).1)) (bs wy.new).toArray
        refine hK.out _ _ hb ?_
        replace hS := hb
        clear hK K hb
        try simp only [Act.put, List.setIfInBounds_toArray, List.set_cons_zero, List.set_cons_succ]
        refine wpAnyS_done (by kernel_rfl) ?_ _
        go_wp2_with fail
        go_meet
        exact ⟨_, _, rfl, rfl, cur.cut wy.old wy.new⟩
      · refine wp_alloc_at (some 18) 38 rfl rfl _ (zeroD _) ?_
        replace cur := cur.a2
        generalize World.alloc _ _ = Wn at *
        have hb := cur.env
        refine hK.out _ _ hb ?_
        replace hS := hb
        clear hK K hb
        try simp only [Act.put, List.setIfInBounds_toArray, List.set_cons_zero, List.set_cons_succ]
        refine wpAnyS_one (i := 13) rfl (by kernel_rfl) (by rfl) (fun K hK => ?_)
        refine wp_alloc_at (some 17) 38 rfl rfl _ (zeroD _) ?_
        replace cur := cur.a1
        generalize World.alloc _ _ = Wn at *
        have hb := cur.env
        refine hK.out _ _ hb ?_
        replace hS := hb
        clear hK K hb
        try simp only [Act.put, List.setIfInBounds_toArray, List.set_cons_zero, List.set_cons_succ]
        refine wpAnyS_one (i := 15) rfl (by kernel_rfl) (by rfl) (fun K hK => ?_)
        have hne := cur.ne _ rfl
        refine arr_dg.store (cur.ax _ rfl).2 zer_length hol _ _ rfl rfl rfl ?_
        have hb := env_row cur.env cur.pre (Nat.le_of_lt (Nat.lt_of_succ_lt (cur.ax _ rfl).1)) (bs wy.old).toArray
        refine hK.out _ _ hb ?_
        replace hS := hb
        clear hK K hb
        try simp only [Act.put, List.setIfInBounds_toArray, List.set_cons_zero, List.set_cons_succ]
        refine wpAnyS_one (i := 16) rfl (by kernel_rfl) (by rfl) (fun K hK => ?_)
        refine arr_dg.store ((cur.ay _ rfl).2.other (fun e => hne (by rw [e])) (bs wy.old).toArray) zer_length hnl _ _ rfl rfl rfl ?_
        have hb := env_row hS cur.pre (Nat.le_of_lt (Nat.lt_of_succ_lt (cur.ay _ rfl).1)) (bs wy.new).toArray
        refine hK.out _ _ hb ?_
        replace hS := hb
        clear hK K hb
        try simp only [Act.put, List.setIfInBounds_toArray, List.set_cons_zero, List.set_cons_succ]
        refine wpAnyS_done (by kernel_rfl) ?_ _
        go_wp2_with fail
        go_meet
        exact ⟨_, _, rfl, rfl, cur.cut wy.old wy.new⟩
    · refine wp_alloc_at (some 17) 38 rfl rfl _ (zeroD _) ?_
      replace cur := cur.a1
      generalize World.alloc _ _ = Wn at *
      have hb := cur.env
      refine hK.out _ _ hb ?_
      replace hS := hb
      clear hK K hb
      try simp only [Act.put, List.setIfInBounds_toArray, List.set_cons_zero, List.set_cons_succ]
      refine wpAnyS_fork2 (i := 9) (j := 14) (by kernel_rfl) rfl (by rfl) rfl (by rfl) (fun K hK => ?_) (fun K hK => ?_)
      · go_simp
        (with_reducible refine (hup _ hS cur.fin cur.fit).mono ?_); rintro e w5 ⟨rfl, f5, g5, m5⟩
        replace cur := cur.call D f5 g5 m5
        have hb := cur.env
        clear f5 g5 m5
        refine hK.out _ _ hb ?_
        replace hS := hb
        clear hK K hb
        try simp only [Act.put, List.setIfInBounds_toArray, List.set_cons_zero, List.set_cons_succ]
        refine wpAnyS_take (i := 10) (v := ?_) hS (some 66) rfl rfl (by kernel_rfl) (by kernel_rfl) (by kernel_rfl) (fun _ _ _ h => h) ?_ ?_
        rotate_left 1
        · (refine Or.inl ⟨by rfl, ?_⟩; intro w' hw'; have hq1 := hw'.ub.cell.1; unfold gpv at hq1; (try go_simp); (try rfl); done)
        try simp only [Act.put, List.setIfInBounds_toArray, List.set_cons_zero, List.set_cons_succ]
        refine wpAnyS_take (i := 11) (v := ?_) hS (some 77) rfl rfl (by kernel_rfl) (by kernel_rfl) (by kernel_rfl) (fun _ _ _ h => h) ?_ ?_
        rotate_left 1
        · (refine Or.inl ⟨by rfl, ?_⟩; intro w' hw'; have hq1 := hw'.ub.cell.1; unfold gpv at hq1; (try go_simp); (try rfl); done)
        try simp only [Act.put, List.setIfInBounds_toArray, List.set_cons_zero, List.set_cons_succ]
        refine wpAnyS_take (i := 12) (v := ?_) hS (some 78) rfl rfl (by kernel_rfl) (by kernel_rfl) (by kernel_rfl) (fun _ _ _ h => h) ?_ ?_
        rotate_left 1
        · (refine Or.inl ⟨by rfl, ?_⟩; intro w' hw'; have hq1 := hw'.ub.cell.1; unfold gpv at hq1; (try go_simp); (try rfl); done)
        try simp only [Act.put, List.setIfInBounds_toArray, List.set_cons_zero, List.set_cons_succ]
        refine wpAnyS_one (i := 14) rfl (by kernel_rfl) (by rfl) (fun K hK => ?_)
        refine wp_alloc_at (some 18) 38 rfl rfl _ (zeroD _) ?_
        replace cur := cur.a2
        generalize World.alloc _ _ = Wn at *
        have hb := cur.env
        refine hK.out _ _ hb ?_
        replace hS := hb
        clear hK K hb
        try simp only [Act.put, List.setIfInBounds_toArray, List.set_cons_zero, List.set_cons_succ]
        refine wpAnyS_one (i := 15) rfl (by kernel_rfl) (by rfl) (fun K hK => ?_)
        have hne := cur.ne _ rfl
        refine arr_dg.store (cur.ax _ rfl).2 zer_length hol _ _ rfl rfl rfl ?_
        have hb := env_row cur.env cur.pre (Nat.le_of_lt (Nat.lt_of_succ_lt (cur.ax _ rfl).1)) (bs wy.old).toArray
        refine hK.out _ _ hb ?_
        replace hS := hb
        clear hK K hb
        try simp only [Act.put, List.setIfInBounds_toArray, List.set_cons_zero, List.set_cons_succ]
        refine wpAnyS_one (i := 16) rfl (by kernel_rfl) (by rfl) (fun K hK => ?_)
        refine arr_dg.store ((cur.ay _ rfl).2.other (fun e => hne (by rw [e])) (bs wy.old).toArray) zer_length hnl _ _ rfl rfl rfl ?_
        have hb := env_row hS cur.pre (Nat.le_of_lt (Nat.lt_of_succ_lt (cur.ay _ rfl).1)) (bs wy.new).toArray
        refine hK.out _ _ hb ?_
        replace hS := hb
        clear hK K hb
        try simp only [Act.put, List.setIfInBounds_toArray, List.set_cons_zero, List.set_cons_succ]
        refine wpAnyS_done (by kernel_rfl) ?_ _
        go_wp2_with fail
        go_meet
        exact ⟨_, _, rfl, rfl, cur.cut wy.old wy.new⟩
      · refine wp_alloc_at (some 18) 38 rfl rfl _ (zeroD _) ?_
        replace cur := cur.a2
        generalize World.alloc _ _ = Wn at *
        have hb := cur.env
        refine hK.out _ _ hb ?_
        replace hS := hb
        clear hK K hb
        try simp only [Act.put, List.setIfInBounds_toArray, List.set_cons_zero, List.set_cons_succ]
        refine wpAnyS_one (i := 9) rfl (by kernel_rfl) (by rfl) (fun K hK => ?_)
        go_simp
        (with_reducible refine (hup _ hS cur.fin cur.fit).mono ?_); rintro e w5 ⟨rfl, f5, g5, m5⟩
        replace cur := cur.call D f5 g5 m5
        have hb := cur.env
        clear f5 g5 m5
        refine hK.out _ _ hb ?_
        replace hS := hb
        clear hK K hb
        try simp only [Act.put, List.setIfInBounds_toArray, List.set_cons_zero, List.set_cons_succ]
        refine wpAnyS_take (i := 10) (v := ?_) hS (some 66) rfl rfl (by kernel_rfl) (by kernel_rfl) (by kernel_rfl) (fun _ _ _ h => h) ?_ ?_
        rotate_left 1
        · (refine Or.inl ⟨by rfl, ?_⟩; intro w' hw'; have hq1 := hw'.ub.cell.1; unfold gpv at hq1; (try go_simp); (try rfl); done)
        try simp only [Act.put, List.setIfInBounds_toArray, List.set_cons_zero, List.set_cons_succ]
        refine wpAnyS_take (i := 11) (v := ?_) hS (some 77) rfl rfl (by kernel_rfl) (by kernel_rfl) (by kernel_rfl) (fun _ _ _ h => h) ?_ ?_
        rotate_left 1
        · (refine Or.inl ⟨by rfl, ?_⟩; intro w' hw'; have hq1 := hw'.ub.cell.1; unfold gpv at hq1; (try go_simp); (try rfl); done)
        try simp only [Act.put, List.setIfInBounds_toArray, List.set_cons_zero, List.set_cons_succ]
        refine wpAnyS_take (i := 12) (v := ?_) hS (some 78) rfl rfl (by kernel_rfl) (by kernel_rfl) (by kernel_rfl) (fun _ _ _ h => h) ?_ ?_
        rotate_left 1
        · (refine Or.inl ⟨by rfl, ?_⟩; intro w' hw'; have hq1 := hw'.ub.cell.1; unfold gpv at hq1; (try go_simp); (try rfl); done)
        try simp only [Act.put, List.setIfInBounds_toArray, List.set_cons_zero, List.set_cons_succ]
        refine wpAnyS_one (i := 15) rfl (by kernel_rfl) (by rfl) (fun K hK => ?_)
        have hne := cur.ne _ rfl
        refine arr_dg.store (cur.ax _ rfl).2 zer_length hol _ _ rfl rfl rfl ?_
        have hb := env_row cur.env cur.pre (Nat.le_of_lt (Nat.lt_of_succ_lt (cur.ax _ rfl).1)) (bs wy.old).toArray
        refine hK.out _ _ hb ?_
        replace hS := hb
        clear hK K hb
        try simp only [Act.put, List.setIfInBounds_toArray, List.set_cons_zero, List.set_cons_succ]
        refine wpAnyS_one (i := 16) rfl (by kernel_rfl) (by rfl) (fun K hK => ?_)
        refine arr_dg.store ((cur.ay _ rfl).2.other (fun e => hne (by rw [e])) (bs wy.old).toArray) zer_length hnl _ _ rfl rfl rfl ?_
        have hb := env_row hS cur.pre (Nat.le_of_lt (Nat.lt_of_succ_lt (cur.ay _ rfl).1)) (bs wy.new).toArray
        refine hK.out _ _ hb ?_
        replace hS := hb
        clear hK K hb
        try simp only [Act.put, List.setIfInBounds_toArray, List.set_cons_zero, List.set_cons_succ]
        refine wpAnyS_done (by kernel_rfl) ?_ _
        go_wp2_with fail
        go_meet
        exact ⟨_, _, rfl, rfl, cur.cut wy.old wy.new⟩
    · refine wp_alloc_at (some 18) 38 rfl rfl _ (zeroD _) ?_
      replace cur := cur.a2
      generalize World.alloc _ _ = Wn at *
      have hb := cur.env
      refine hK.out _ _ hb ?_
      replace hS := hb
      clear hK K hb
      try simp only [Act.put, List.setIfInBounds_toArray, List.set_cons_zero, List.set_cons_succ]
      refine wpAnyS_fork2 (i := 9) (j := 13) (by kernel_rfl) rfl (by rfl) rfl (by rfl) (fun K hK => ?_) (fun K hK => ?_)
      · go_simp
        (with_reducible refine (hup _ hS cur.fin cur.fit).mono ?_); rintro e w5 ⟨rfl, f5, g5, m5⟩
        replace cur := cur.call D f5 g5 m5
        have hb := cur.env
        clear f5 g5 m5
        refine hK.out _ _ hb ?_
        replace hS := hb
        clear hK K hb
        try simp only [Act.put, List.setIfInBounds_toArray, List.set_cons_zero, List.set_cons_succ]
        refine wpAnyS_take (i := 10) (v := ?_) hS (some 66) rfl rfl (by kernel_rfl) (by kernel_rfl) (by kernel_rfl) (fun _ _ _ h => h) ?_ ?_
        rotate_left 1
        · (refine Or.inl ⟨by rfl, ?_⟩; intro w' hw'; have hq1 := hw'.ub.cell.1; unfold gpv at hq1; (try go_simp); (try rfl); done)
        try simp only [Act.put, List.setIfInBounds_toArray, List.set_cons_zero, List.set_cons_succ]
        refine wpAnyS_take (i := 11) (v := ?_) hS (some 77) rfl rfl (by kernel_rfl) (by kernel_rfl) (by kernel_rfl) (fun _ _ _ h => h) ?_ ?_
        rotate_left 1
        · (refine Or.inl ⟨by rfl, ?_⟩; intro w' hw'; have hq1 := hw'.ub.cell.1; unfold gpv at hq1; (try go_simp); (try rfl); done)
        try simp only [Act.put, List.setIfInBounds_toArray, List.set_cons_zero, List.set_cons_succ]
        refine wpAnyS_take (i := 12) (v := ?_) hS (some 78) rfl rfl (by kernel_rfl) (by kernel_rfl) (by kernel_rfl) (fun _ _ _ h => h) ?_ ?_
        rotate_left 1
        · (refine Or.inl ⟨by rfl, ?_⟩; intro w' hw'; have hq1 := hw'.ub.cell.1; unfold gpv at hq1; (try go_simp); (try rfl); done)
        try simp only [Act.put, List.setIfInBounds_toArray, List.set_cons_zero, List.set_cons_succ]
        refine wpAnyS_one (i := 13) rfl (by kernel_rfl) (by rfl) (fun K hK => ?_)
        refine wp_alloc_at (some 17) 38 rfl rfl _ (zeroD _) ?_
        replace cur := cur.a1
        generalize World.alloc _ _ = Wn at *
        have hb := cur.env
        refine hK.out _ _ hb ?_
        replace hS := hb
        clear hK K hb
        try simp only [Act.put, List.setIfInBounds_toArray, List.set_cons_zero, List.set_cons_succ]
        refine wpAnyS_one (i := 15) rfl (by kernel_rfl) (by rfl) (fun K hK => ?_)
        have hne := cur.ne _ rfl
        refine arr_dg.store (cur.ax _ rfl).2 zer_length hol _ _ rfl rfl rfl ?_
        have hb := env_row cur.env cur.pre (Nat.le_of_lt (Nat.lt_of_succ_lt (cur.ax _ rfl).1)) (bs wy.old).toArray
        refine hK.out _ _ hb ?_
        replace hS := hb
        clear hK K hb
        try simp only [Act.put, List.setIfInBounds_toArray, List.set_cons_zero, List.set_cons_succ]
        refine wpAnyS_one (i := 16) rfl (by kernel_rfl) (by rfl) (fun K hK => ?_)
        refine arr_dg.store ((cur.ay _ rfl).2.other (fun e => hne (by rw [e])) (bs wy.old).toArray) zer_length hnl _ _ rfl rfl rfl ?_
        have hb := env_row hS cur.pre (Nat.le_of_lt (Nat.lt_of_succ_lt (cur.ay _ rfl).1)) (bs wy.new).toArray
        refine hK.out _ _ hb ?_
        replace hS := hb
        clear hK K hb
        try simp only [Act.put, List.setIfInBounds_toArray, List.set_cons_zero, List.set_cons_succ]
        refine wpAnyS_done (by kernel_rfl) ?_ _
        go_wp2_with fail
        go_meet
        exact ⟨_, _, rfl, rfl, cur.cut wy.old wy.new⟩
      · refine wp_alloc_at (some 17) 38 rfl rfl _ (zeroD _) ?_
        replace cur := cur.a1
        generalize World.alloc _ _ = Wn at *
        have hb := cur.env
        refine hK.out _ _ hb ?_
        replace hS := hb
        clear hK K hb
        try simp only [Act.put, List.setIfInBounds_toArray, List.set_cons_zero, List.set_cons_succ]
        refine wpAnyS_one (i := 9) rfl (by kernel_rfl) (by rfl) (fun K hK => ?_)
        go_simp
        (with_reducible refine (hup _ hS cur.fin cur.fit).mono ?_); rintro e w5 ⟨rfl, f5, g5, m5⟩
        replace cur := cur.call D f5 g5 m5
        have hb := cur.env
        clear f5 g5 m5
        refine hK.out _ _ hb ?_
        replace hS := hb
        clear hK K hb
        try simp only [Act.put, List.setIfInBounds_toArray, List.set_cons_zero, List.set_cons_succ]
        refine wpAnyS_take (i := 10) (v := ?_) hS (some 66) rfl rfl (by kernel_rfl) (by kernel_rfl) (by kernel_rfl) (fun _ _ _ h => h) ?_ ?_
        rotate_left 1
        · (refine Or.inl ⟨by rfl, ?_⟩; intro w' hw'; have hq1 := hw'.ub.cell.1; unfold gpv at hq1; (try go_simp); (try rfl); done)
        try simp only [Act.put, List.setIfInBounds_toArray, List.set_cons_zero, List.set_cons_succ]
        refine wpAnyS_take (i := 11) (v := ?_) hS (some 77) rfl rfl (by kernel_rfl) (by kernel_rfl) (by kernel_rfl) (fun _ _ _ h => h) ?_ ?_
        rotate_left 1
        · (refine Or.inl ⟨by rfl, ?_⟩; intro w' hw'; have hq1 := hw'.ub.cell.1; unfold gpv at hq1; (try go_simp); (try rfl); done)
        try simp only [Act.put, List.setIfInBounds_toArray, List.set_cons_zero, List.set_cons_succ]
        refine wpAnyS_take (i := 12) (v := ?_) hS (some 78) rfl rfl (by kernel_rfl) (by kernel_rfl) (by kernel_rfl) (fun _ _ _ h => h) ?_ ?_
        rotate_left 1
        · (refine Or.inl ⟨by rfl, ?_⟩; intro w' hw'; have hq1 := hw'.ub.cell.1; unfold gpv at hq1; (try go_simp); (try rfl); done)
        try simp only [Act.put, List.setIfInBounds_toArray, List.set_cons_zero, List.set_cons_succ]
        refine wpAnyS_one (i := 15) rfl (by kernel_rfl) (by rfl) (fun K hK => ?_)
        have hne := cur.ne _ rfl
        refine arr_dg.store (cur.ax _ rfl).2 zer_length hol _ _ rfl rfl rfl ?_
        have hb := env_row cur.env cur.pre (Nat.le_of_lt (Nat.lt_of_succ_lt (cur.ax _ rfl).1)) (bs wy.old).toArray
        refine hK.out _ _ hb ?_
        replace hS := hb
        clear hK K hb
        try simp only [Act.put, List.setIfInBounds_toArray, List.set_cons_zero, List.set_cons_succ]
        refine wpAnyS_one (i := 16) rfl (by kernel_rfl) (by rfl) (fun K hK => ?_)
        refine arr_dg.store ((cur.ay _ rfl).2.other (fun e => hne (by rw [e])) (bs wy.old).toArray) zer_length hnl _ _ rfl rfl rfl ?_
        have hb := env_row hS cur.pre (Nat.le_of_lt (Nat.lt_of_succ_lt (cur.ay _ rfl).1)) (bs wy.new).toArray
        refine hK.out _ _ hb ?_
        replace hS := hb
        clear hK K hb
        try simp only [Act.put, List.setIfInBounds_toArray, List.set_cons_zero, List.set_cons_succ]
        refine wpAnyS_done (by kernel_rfl) ?_ _
        go_wp2_with fail
        go_meet
        exact ⟨_, _, rfl, rfl, cur.cut wy.old wy.new⟩
  case rest =>
    obtain ⟨A', B', rfl, rfl, hc⟩ := hcut
    clear hcur0 hup
    have hS : Env3 w0 w F G OB UB FB HB g old A' B' wy.old wy.new wc.drew := Env3.ext ⟨hc.env, hc.ra, hc.rb⟩ (ext_drew _)
    have f1 := hc.fin.below (ext_drew wc)
    have c1 := hc.fit.below (ext_drew wc)
    have ra1 := hc.r0.below (ext_drew wc)
    have rb1 := hc.r1.below (ext_drew wc)
    have but1 := hc.but.trans (But.of (ext_drew wc) hc.env.below.size)
    have pre := hc.pre
    have la := hc.la
    have lb := hc.lb
    clear hc
    replace la : Hid _ := la
    replace lb : Hid _ := lb
    go_wp2_with fail
    refine wp_region_S (fun w' => Env3 w0 w F G OB UB FB HB g old A' B' wy.old wy.new w') (by kernel_rfl) ?_
    refine wpAnyS_take (i := 0) (v := ?_) hS (some 79) rfl rfl (by kernel_rfl) (by kernel_rfl) (by kernel_rfl) (fun _ _ _ h => h) ?_ ?_
    rotate_left 1
    · (refine Or.inl ⟨by rfl, ?_⟩; intro w' hw'; have hq1 := hw'.env.fb.cell.1; (refine arr_dg.ex hw'.ra hol (.tmp 17) ?_ ?_ <;> rfl))
    try simp only [Act.put, List.setIfInBounds_toArray, List.set_cons_zero, List.set_cons_succ]
    refine wpAnyS_take (i := 1) (v := ?_) hS (some 80) rfl rfl (by kernel_rfl) (by kernel_rfl) (by kernel_rfl) (fun _ _ _ h => h) ?_ ?_
    rotate_left 1
    · (refine Or.inl ⟨by rfl, ?_⟩; intro w' hw'; have hq1 := hw'.env.fb.cell.1; (try go_simp); (try rfl); done)
    try simp only [Act.put, List.setIfInBounds_toArray, List.set_cons_zero, List.set_cons_succ]
    refine wpAnyS_take (i := 2) (v := ?_) hS (some 81) rfl rfl (by kernel_rfl) (by kernel_rfl) (by kernel_rfl) (fun _ _ _ h => h) ?_ ?_
    rotate_left 1
    · (refine Or.inl ⟨by rfl, ?_⟩; intro w' hw'; have hq1 := hw'.env.fb.cell.1; (refine arr_dg.ex hw'.rb hnl (.tmp 18) ?_ ?_ <;> rfl))
    try simp only [Act.put, List.setIfInBounds_toArray, List.set_cons_zero, List.set_cons_succ]
    refine wpAnyS_take (i := 3) (v := ?_) hS (some 82) rfl rfl (by kernel_rfl) (by kernel_rfl) (by kernel_rfl) (fun _ _ _ h => h) ?_ ?_
    rotate_left 1
    · (refine Or.inl ⟨by rfl, ?_⟩; intro w' hw'; have hq1 := hw'.env.fb.cell.1; (try go_simp); (try rfl); done)
    try simp only [Act.put, List.setIfInBounds_toArray, List.set_cons_zero, List.set_cons_succ]
    refine wpAnyS_take (i := 4) (v := ?_) hS (some 83) rfl rfl (by kernel_rfl) (by kernel_rfl) (by kernel_rfl) (fun _ _ _ h => h) ?_ ?_
    rotate_left 1
    · (refine Or.inl ⟨by rfl, ?_⟩; intro w' hw'; have hq1 := hw'.env.fb.cell.1; (try go_simp); (try rfl); done)
    try simp only [Act.put, List.setIfInBounds_toArray, List.set_cons_zero, List.set_cons_succ]
    refine wpAnyS_take (i := 5) (v := ?_) hS (some 84) rfl rfl (by kernel_rfl) (by kernel_rfl) (by kernel_rfl) (fun _ _ _ h => h) ?_ ?_
    rotate_left 1
    · (refine Or.inl ⟨by rfl, ?_⟩; intro w' hw'; have hq1 := hw'.env.fb.cell.1; (try go_simp); (try rfl); done)
    try simp only [Act.put, List.setIfInBounds_toArray, List.set_cons_zero, List.set_cons_succ]
    refine wpAnyS_take (i := 6) (v := ?_) hS (some 85) rfl rfl (by kernel_rfl) (by kernel_rfl) (by kernel_rfl) (fun _ _ _ h => h) ?_ ?_
    rotate_left 1
    · (refine Or.inl ⟨by rfl, ?_⟩; intro w' hw'; have hq1 := hw'.env.fb.cell.1; (refine arr_dg.exAt' (hrd.below' hw'.env.below) hd1 (.tmp 84) ?_ ?_ <;> rfl))
    try simp only [Act.put, List.setIfInBounds_toArray, List.set_cons_zero, List.set_cons_succ]
    refine wpAnyS_take (i := 8) (v := ?_) hS (some 87) rfl rfl (by kernel_rfl) (by kernel_rfl) (by kernel_rfl) (fun _ _ _ h => h) ?_ ?_
    rotate_left 1
    · (refine Or.inl ⟨by rfl, ?_⟩; intro w' hw'; have hq1 := hw'.env.fb.cell.1; (try go_simp); (try rfl); done)
    try simp only [Act.put, List.setIfInBounds_toArray, List.set_cons_zero, List.set_cons_succ]
    refine wpAnyS_one (i := 7) rfl (by kernel_rfl) (by rfl) (fun K hK => ?_)
    go_simp
    (with_reducible refine (hnd _).mono ?_); rintro e w6 ⟨v6, rfl, s6, b6⟩
    have f6 := f1.below b6
    have c6 := c1.below b6
    have ra6 := ra1.below b6
    have rb6 := rb1.below b6
    have but6 := but1.trans (But.of b6 hS.env.below.size)
    have hb := hS.ext b6
    refine hK.out _ _ hb ?_
    replace hS := hb
    clear hK K hb
    try simp only [Act.put, List.setIfInBounds_toArray, List.set_cons_zero, List.set_cons_succ]
    refine wpAnyS_one (i := 9) rfl (by kernel_rfl) (by rfl) (fun K hK => ?_)
    go_simp
    have hm := met_any F g k wy.p v6 (.slice A l.length c) t l w6 hk f6 (hg.below hS.env.below) s6 (by rw [htl]; decide) (hl.below hS.env.below) hll hz
    (with_reducible refine hm.mono ?_); rintro e w7 ⟨rfl, f7, m7⟩
    have but7 := but6.trans (m7.wide.narrow D.f0)
    have hb := hS.but D pre la.out lb.out (m7.wide.narrow D.f0)
    have ra7 := ra6.but (m7.wide (G := G)) (by have := pre.fl; omega) (by have := pre.gl; omega)
    have rb7 := rb6.but (m7.wide (G := G)) (by have := pre.fl; omega) (by have := pre.gl; omega)
    have c7 := c6.but (m7.wide (G := F)) (fun e => D.ne e.symm) (fun e => D.ne e.symm)
    obtain ⟨rb', l0, l1, fF, fG, fB⟩ := two_rows hol hdl ra7 rb7 f7 c7 but7 pre.l0 pre.gl
    refine hK.out _ _ hb ?_
    replace hS := hb
    clear hK K hb
    try simp only [Act.put, List.setIfInBounds_toArray, List.set_cons_zero, List.set_cons_succ]
    refine wpAnyS_one (i := 10) rfl (by kernel_rfl) (by rfl) (fun K hK => ?_)
    refine arr_dg.store ra7 zer_length hol _ _ rfl rfl rfl ?_
    have hb := hS.row pre la.out lb.out (Nat.le_refl _) (by omega) (bs wy.old).toArray
    refine hK.out _ _ hb ?_
    replace hS := hb
    clear hK K hb
    try simp only [Act.put, List.setIfInBounds_toArray, List.set_cons_zero, List.set_cons_succ]
    refine wpAnyS_one (i := 11) rfl (by kernel_rfl) (by rfl) (fun K hK => ?_)
    refine arr_dg.store rb' zer_length hdl _ _ rfl rfl rfl ?_
    have hb := hS.row pre la.out lb.out (by omega) (Nat.le_refl _) (bs (hashL k t)).toArray
    refine hK.out _ _ hb ?_
    replace hS := hb
    clear hK K hb
    try simp only [Act.put, List.setIfInBounds_toArray, List.set_cons_zero, List.set_cons_succ]
    refine wpAnyS_done (by kernel_rfl) ?_ _
    go_wp2_with fail
    exact ret_cells2 Try.results42 rfl rfl l0 l1 rfl ⟨rfl, fF, fG, fB⟩
set_option maxHeartbeats 16000000 in
theorem gp_right (w0 : World) (F G OB UB FB HB g k : Nat) (hk : k ≤ 256) (old : List UInt8) (D : Dis2 w0 F G OB UB FB HB) (A Ap : Option Addr) (c cp : Nat) (l : List (List UInt8)) (m j : Nat) (ps : List (List UInt8)) (mark : Bool) (wy : WayL) (w : World)
    (he : Env2 w0 F G OB UB FB HB g old w) (hF : FindAt w F g none) (hG : C1 4 w G (.bool true)) (hg : HvAt w0 g k) (hl : SlX w0 (.slice A l.length c) l) (h2 : 2 ≤ l.length) (hll : l.length ≤ 1048576) (hz : ∀ z ∈ l, z.length ≤ 1048576)
    (hp : SlD w0 (.slice Ap ps.length cp) ps) (h0 : 0 < ps.length) (hj : kOf l.length = j) (hml : m ≠ l.length) (hmj : j < m) (hm2 : m ≤ l.length) (hnl : wy.new.length = 32) (hol : wy.old.length = 32)
    (hup : ∀ w', Env2 w0 F G OB UB FB HB g old w' → FindAt w' F g none → C1 4 w' G (.bool true) →
      Calls Try.prog 42 #[.slice (slA A j c 1) (l.length - j) (c - j), .int .i64 ((m : Int) - j), .bool false, .slice Ap (ps.length - 1) cp, .pointer (some ⟨G, 0, none⟩), .pointer (some ⟨OB, 0, none⟩), .pointer (some ⟨UB, 0, none⟩), .pointer (some ⟨FB, 0, none⟩), .pointer (some ⟨HB, 0, none⟩)] w'
        fun e w'' => e = .returned (.tuple #[dg wy.old, dg wy.new]) ∧ FindAt w'' F g wy.p ∧ C1 4 w'' G (.bool wy.fits) ∧ But w0.heap.size F G w' w'') :
    Calls Try.prog 42 #[.slice A l.length c, .int .i64 m, .bool mark, .slice Ap ps.length cp, .pointer (some ⟨G, 0, none⟩), .pointer (some ⟨OB, 0, none⟩), .pointer (some ⟨UB, 0, none⟩), .pointer (some ⟨FB, 0, none⟩), .pointer (some ⟨HB, 0, none⟩)] w
      fun e w' => e = .returned (.tuple #[dg (hashL k (ndL (lastL ps) wy.old)), dg (stepL k wy (ndL (lastL ps) wy.new) l).new]) ∧ FindAt w' F g (stepL k wy (ndL (lastL ps) wy.new) l).p ∧ C1 4 w' G (.bool wy.fits) ∧ But w0.heap.size F G w w' := by
  have e1 : (stepL k wy (ndL (lastL ps) wy.new) l).new = hashL k (ndL (lastL ps) wy.new) := rfl
  have e2 : (stepL k wy (ndL (lastL ps) wy.new) l).p = metL k wy.p (ndL (lastL ps) wy.new) (textL k l) := rfl
  rw [e1, e2]
  clear e1 e2
  obtain ⟨ad, rfl, hrd⟩ := hp.get (i := ps.length - 1) (by omega)
  have hd1 := hp.len32 (i := ps.length - 1) (by omega)
  have hlast : lastL ps = ps.getD (ps.length - 1) [] := rfl
  rw [← hlast] at hrd hd1
  clear hlast
  have hkl := kOf_lt (n := l.length) h2 (by omega)
  rw [hj] at hkl
  have hcl : l.length ≤ c := by obtain ⟨_, _, e, h, _⟩ := hl.len; cases e; exact h
  have hcp : ps.length ≤ cp := by obtain ⟨_, _, e, h, _⟩ := hp.1; cases e; exact h
  have hcpm : cp ≤ 9223372036854775807 := by obtain ⟨_, _, e, _, h, _⟩ := hp.1; cases e; exact h
  have hh := fun w' => half_any l.length w' h2 hll
  rw [hj] at hh
  have hnd := fun w' => node_own (lastL ps) wy.new hd1 hnl w'
  have hnd2 := fun w' => node_own (lastL ps) wy.old hd1 hol w'
  have htl2 : (ndL (lastL ps) wy.old).length = 65 := ndL_length _ _ hd1 hol
  have htl : (ndL (lastL ps) wy.new).length = 65 := ndL_length _ _ hd1 hnl
  generalize lastL ps = lst at *
  generalize ndL lst wy.new = t at *
  generalize ndL lst wy.old = t2 at *
  have q1 : ((m : Int) == l.length) = false := by rw [beq_eq_false_iff_ne]; omega
  have hps : (ps.length : Int) ≤ 9223372036854775807 := by omega
  have j0 : (0 : Int) ≤ (ps.length : Int) - 1 := by omega
  have j1 : (ps.length : Int) - 1 < ps.length := by omega
  have j4 : (1 : Int) ≤ ps.length := by omega
  have j2 : ((ps.length : Int) - 1).toNat = ps.length - 1 := by omega
  have j3 : (ps.length : Int) - 1 ≤ cp := by omega
  have g1 : (j : Int) ≤ c := by omega
  have g2 : ¬ (m : Int) ≤ j := by omega
  have g3 : (j : Int) ≤ l.length := by omega
  have wij : IntKind.i64.wrap ((m : Int) - j) = (m : Int) - j := by rw [IntKind.wrap_i64]; omega
  obtain ⟨h1, h2, b2, z2⟩ := alloc2 (w := w) (o1 := .cells (bs zer).toArray 38 (0, 0)) (o2 := .cells (bs zer).toArray 38 (0, 0)) rfl
  have hcur0 : Cur2 w0 w F G OB UB FB HB g old none true none none ((w.alloc (.cells (bs zer).toArray 38 (0, 0))).alloc (.cells (bs zer).toArray 38 (0, 0))) :=
    have hlt := he.lt
    ⟨he.ext b2, hF.below b2, hG.below b2, But.of b2 he.below.size, h1, h2, ⟨hlt.1, hF.lt, hG.lt, hlt.2.1, hlt.2.2.1, hlt.2.2.2.1, hlt.2.2.2.2⟩, NewD.none _ _, NewD.none _ _, fun B e => by cases e⟩
  have hdl := hashL_length k t
  have hdl2 := hashL_length k t2
  replace hj : Hid _ := hj
  replace hmj : Hid _ := hmj
  clear hG hF he hkl hcl hcp hcpm h1 h2 b2 z2
  go_enter Try.func42, Try.ntmps42
  go_wp2_with fail
  (with_reducible refine (hh _).mono ?_); rintro e w' ⟨rfl, rfl⟩
  go_upto_region 15 with fail
  generalize hW : World.alloc (World.alloc w _) _ = W
  have hW2 : (w.alloc (.cells (bs zer).toArray 38 (0, 0))).alloc (.cells (bs zer).toArray 38 (0, 0)) = W := by rw [← hW]; rfl
  rw [hW2] at hcur0
  clear hW hW2 hh
  go_cut [19, 20] (fun s17 s18 wx => ∃ A' B', s17 = .pointer (some ⟨A', 0, none⟩) ∧ s18 = .pointer (some ⟨B', 0, none⟩) ∧ Cut2 w0 w F G OB UB FB HB g old wy.p wy.fits A' B' wy.old wy.new wx)
  case first =>
    have cur := Cur2.ext hcur0 (ext_drew _)
    have hS := cur.env
    clear hcur0 hnd hrd hd1
    refine wp_region_S (fun w' => Env2 w0 F G OB UB FB HB g old w') (by kernel_rfl) ?_
    refine wpAnyS_take (i := 0) (v := ?_) hS (some 90) rfl rfl (by kernel_rfl) (by kernel_rfl) (by kernel_rfl) (fun _ _ _ h => h) ?_ ?_
    rotate_left 1
    · (refine Or.inl ⟨by rfl, ?_⟩; intro w' hw'; have hq1 := hw'.ub.cell.1; unfold gpv at hq1; (try go_simp); (try rfl); done)
    try simp only [Act.put, List.setIfInBounds_toArray, List.set_cons_zero, List.set_cons_succ]
    refine wpAnyS_take (i := 1) (v := ?_) hS (some 91) rfl rfl (by kernel_rfl) (by kernel_rfl) (by kernel_rfl) (fun _ _ _ h => h) ?_ ?_
    rotate_left 1
    · (refine Or.inl ⟨by rfl, ?_⟩; intro w' hw'; have hq1 := hw'.ub.cell.1; unfold gpv at hq1; (try go_simp); (try rfl); done)
    try simp only [Act.put, List.setIfInBounds_toArray, List.set_cons_zero, List.set_cons_succ]
    refine wpAnyS_take (i := 2) (v := ?_) hS (some 92) rfl rfl (by kernel_rfl) (by kernel_rfl) (by kernel_rfl) (fun _ _ _ h => h) ?_ ?_
    rotate_left 1
    · (refine Or.inl ⟨by rfl, ?_⟩; intro w' hw'; have hq1 := hw'.ub.cell.1; unfold gpv at hq1; (try go_simp); (try rfl); done)
    try simp only [Act.put, List.setIfInBounds_toArray, List.set_cons_zero, List.set_cons_succ]
    refine wpAnyS_take (i := 3) (v := ?_) hS (some 93) rfl rfl (by kernel_rfl) (by kernel_rfl) (by kernel_rfl) (fun _ _ _ h => h) ?_ ?_
    rotate_left 1
    · (refine Or.inl ⟨by rfl, ?_⟩; intro w' hw'; have hq1 := hw'.ub.cell.1; unfold gpv at hq1; (try go_simp); (try rfl); done)
    try simp only [Act.put, List.setIfInBounds_toArray, List.set_cons_zero, List.set_cons_succ]
    refine wpAnyS_take (i := 4) (v := ?_) hS (some 94) rfl rfl (by kernel_rfl) (by kernel_rfl) (by kernel_rfl) (fun _ _ _ h => h) ?_ ?_
    rotate_left 1
    · (refine Or.inl ⟨by rfl, ?_⟩; intro w' hw'; have hq1 := hw'.ub.cell.1; unfold gpv at hq1; (try go_simp); (try rfl); done)
    try simp only [Act.put, List.setIfInBounds_toArray, List.set_cons_zero, List.set_cons_succ]
    refine wpAnyS_take (i := 5) (v := ?_) hS (some 95) rfl rfl (by kernel_rfl) (by kernel_rfl) (by kernel_rfl) (fun _ _ _ h => h) ?_ ?_
    rotate_left 1
    · (refine Or.inl ⟨by rfl, ?_⟩; intro w' hw'; have hq1 := hw'.ub.cell.1; unfold gpv at hq1; (try go_simp); (try rfl); done)
    try simp only [Act.put, List.setIfInBounds_toArray, List.set_cons_zero, List.set_cons_succ]
    refine wpAnyS_take (i := 6) (v := ?_) hS (some 96) rfl rfl (by kernel_rfl) (by kernel_rfl) (by kernel_rfl) (fun _ _ _ h => h) ?_ ?_
    rotate_left 1
    · (refine Or.inl ⟨by rfl, ?_⟩; intro w' hw'; have hq1 := hw'.ub.cell.1; unfold gpv at hq1; (try go_simp); (try rfl); done)
    try simp only [Act.put, List.setIfInBounds_toArray, List.set_cons_zero, List.set_cons_succ]
    refine wpAnyS_take (i := 7) (v := ?_) hS (some 97) rfl rfl (by kernel_rfl) (by kernel_rfl) (by kernel_rfl) (fun _ _ _ h => h) ?_ ?_
    rotate_left 1
    · (refine Or.inl ⟨by rfl, ?_⟩; intro w' hw'; have hq1 := hw'.ub.cell.1; unfold gpv at hq1; (try go_simp); (try rfl); done)
    try simp only [Act.put, List.setIfInBounds_toArray, List.set_cons_zero, List.set_cons_succ]
    refine wpAnyS_take (i := 8) (v := ?_) hS (some 98) rfl rfl (by kernel_rfl) (by kernel_rfl) (by kernel_rfl) (fun _ _ _ h => h) ?_ ?_
    rotate_left 1
    · (refine Or.inl ⟨by rfl, ?_⟩; intro w' hw'; have hq1 := hw'.ub.cell.1; unfold gpv at hq1; (try go_simp); (try rfl); done)
    try simp only [Act.put, List.setIfInBounds_toArray, List.set_cons_zero, List.set_cons_succ]
    refine wpAnyS_take (i := 9) (v := ?_) hS (some 99) rfl rfl (by kernel_rfl) (by kernel_rfl) (by kernel_rfl) (fun _ _ _ h => h) ?_ ?_
    rotate_left 1
    · (refine Or.inl ⟨by rfl, ?_⟩; intro w' hw'; have hq1 := hw'.ub.cell.1; unfold gpv at hq1; (try go_simp); (try rfl); done)
    try simp only [Act.put, List.setIfInBounds_toArray, List.set_cons_zero, List.set_cons_succ]
    refine wpAnyS_fork3 (i := 10) (j := 14) (k := 15) (by kernel_rfl) rfl (by rfl) rfl (by rfl) rfl (by rfl) (fun K hK => ?_) (fun K hK => ?_) (fun K hK => ?_)
    · go_simp
      (with_reducible refine (hup _ hS cur.fin cur.fit).mono ?_); rintro e w5 ⟨rfl, f5, g5, m5⟩
      replace cur := cur.call D f5 g5 m5
      have hb := cur.env
      clear f5 g5 m5
      refine hK.out _ _ hb ?_
      replace hS := hb
      clear hK K hb
      try simp only [Act.put, List.setIfInBounds_toArray, List.set_cons_zero, List.set_cons_succ]
      refine wpAnyS_take (i := 11) (v := ?_) hS (some 89) rfl rfl (by kernel_rfl) (by kernel_rfl) (by kernel_rfl) (fun _ _ _ h => h) ?_ ?_
      rotate_left 1
      · (refine Or.inl ⟨by rfl, ?_⟩; intro w' hw'; have hq1 := hw'.ub.cell.1; unfold gpv at hq1; (try go_simp); (try rfl); done)
      try simp only [Act.put, List.setIfInBounds_toArray, List.set_cons_zero, List.set_cons_succ]
      refine wpAnyS_take (i := 12) (v := ?_) hS (some 101) rfl rfl (by kernel_rfl) (by kernel_rfl) (by kernel_rfl) (fun _ _ _ h => h) ?_ ?_
      rotate_left 1
      · (refine Or.inl ⟨by rfl, ?_⟩; intro w' hw'; have hq1 := hw'.ub.cell.1; unfold gpv at hq1; (try go_simp); (try rfl); done)
      try simp only [Act.put, List.setIfInBounds_toArray, List.set_cons_zero, List.set_cons_succ]
      refine wpAnyS_take (i := 13) (v := ?_) hS (some 102) rfl rfl (by kernel_rfl) (by kernel_rfl) (by kernel_rfl) (fun _ _ _ h => h) ?_ ?_
      rotate_left 1
      · (refine Or.inl ⟨by rfl, ?_⟩; intro w' hw'; have hq1 := hw'.ub.cell.1; unfold gpv at hq1; (try go_simp); (try rfl); done)
      try simp only [Act.put, List.setIfInBounds_toArray, List.set_cons_zero, List.set_cons_succ]
      refine wpAnyS_fork2 (i := 14) (j := 15) (by kernel_rfl) rfl (by rfl) rfl (by rfl) (fun K hK => ?_) (fun K hK => ?_)
      · refine wp_alloc_at (some 19) 38 rfl rfl _ (zeroD _) ?_
        replace cur := cur.a1
        generalize World.alloc _ _ = Wn at *
        have hb := cur.env
        refine hK.out _ _ hb ?_
        replace hS := hb
        clear hK K hb
        try simp only [Act.put, List.setIfInBounds_toArray, List.set_cons_zero, List.set_cons_succ]
        refine wpAnyS_one (i := 15) rfl (by kernel_rfl) (by rfl) (fun K hK => ?_)
        refine wp_alloc_at (some 20) 38 rfl rfl _ (zeroD _) ?_
        replace cur := cur.a2
        generalize World.alloc _ _ = Wn at *
        have hb := cur.env
        refine hK.out _ _ hb ?_
        replace hS := hb
        clear hK K hb
        try simp only [Act.put, List.setIfInBounds_toArray, List.set_cons_zero, List.set_cons_succ]
        refine wpAnyS_one (i := 16) rfl (by kernel_rfl) (by rfl) (fun K hK => ?_)
        have hne := cur.ne _ rfl
        refine arr_dg.store (cur.ax _ rfl).2 zer_length hol _ _ rfl rfl rfl ?_
        have hb := env_row cur.env cur.pre (Nat.le_of_lt (Nat.lt_of_succ_lt (cur.ax _ rfl).1)) (bs wy.old).toArray
        refine hK.out _ _ hb ?_
        replace hS := hb
        clear hK K hb
        try simp only [Act.put, List.setIfInBounds_toArray, List.set_cons_zero, List.set_cons_succ]
        refine wpAnyS_one (i := 17) rfl (by kernel_rfl) (by rfl) (fun K hK => ?_)
        refine arr_dg.store ((cur.ay _ rfl).2.other (fun e => hne (by rw [e])) (bs wy.old).toArray) zer_length hnl _ _ rfl rfl rfl ?_
        have hb := env_row hS cur.pre (Nat.le_of_lt (Nat.lt_of_succ_lt (cur.ay _ rfl).1)) (bs wy.new).toArray
        refine hK.out _ _ hb ?_
        replace hS := hb
        clear hK K hb
        try simp only [Act.put, List.setIfInBounds_toArray, List.set_cons_zero, List.set_cons_succ]
        refine wpAnyS_done (by kernel_rfl) ?_ _
        go_wp2_with fail
        go_meet
        exact ⟨_, _, rfl, rfl, cur.cut wy.old wy.new⟩
      · refine wp_alloc_at (some 20) 38 rfl rfl _ (zeroD _) ?_
        replace cur := cur.a2
        generalize World.alloc _ _ = Wn at *
        have hb := cur.env
        refine hK.out _ _ hb ?_
        replace hS := hb
        clear hK K hb
        try simp only [Act.put, List.setIfInBounds_toArray, List.set_cons_zero, List.set_cons_succ]
        refine wpAnyS_one (i := 14) rfl (by kernel_rfl) (by rfl) (fun K hK => ?_)
        refine wp_alloc_at (some 19) 38 rfl rfl _ (zeroD _) ?_
        replace cur := cur.a1
        generalize World.alloc _ _ = Wn at *
        have hb := cur.env
        refine hK.out _ _ hb ?_
        replace hS := hb
        clear hK K hb
        try simp only [Act.put, List.setIfInBounds_toArray, List.set_cons_zero, List.set_cons_succ]
        refine wpAnyS_one (i := 16) rfl (by kernel_rfl) (by rfl) (fun K hK => ?_)
        have hne := cur.ne _ rfl
        refine arr_dg.store (cur.ax _ rfl).2 zer_length hol _ _ rfl rfl rfl ?_
        have hb := env_row cur.env cur.pre (Nat.le_of_lt (Nat.lt_of_succ_lt (cur.ax _ rfl).1)) (bs wy.old).toArray
        refine hK.out _ _ hb ?_
        replace hS := hb
        clear hK K hb
        try simp only [Act.put, List.setIfInBounds_toArray, List.set_cons_zero, List.set_cons_succ]
        refine wpAnyS_one (i := 17) rfl (by kernel_rfl) (by rfl) (fun K hK => ?_)
        refine arr_dg.store ((cur.ay _ rfl).2.other (fun e => hne (by rw [e])) (bs wy.old).toArray) zer_length hnl _ _ rfl rfl rfl ?_
        have hb := env_row hS cur.pre (Nat.le_of_lt (Nat.lt_of_succ_lt (cur.ay _ rfl).1)) (bs wy.new).toArray
        refine hK.out _ _ hb ?_
        replace hS := hb
        clear hK K hb
        try simp only [Act.put, List.setIfInBounds_toArray, List.set_cons_zero, List.set_cons_succ]
        refine wpAnyS_done (by kernel_rfl) ?_ _
        go_wp2_with fail
        go_meet
        exact ⟨_, _, rfl, rfl, cur.cut wy.old wy.new⟩
    · refine wp_alloc_at (some 19) 38 rfl rfl _ (zeroD _) ?_
      replace cur := cur.a1
      generalize World.alloc _ _ = Wn at *
      have hb := cur.env
      refine hK.out _ _ hb ?_
      replace hS := hb
      clear hK K hb
      try simp only [Act.put, List.setIfInBounds_toArray, List.set_cons_zero, List.set_cons_succ]
      refine wpAnyS_fork2 (i := 10) (j := 15) (by kernel_rfl) rfl (by rfl) rfl (by rfl) (fun K hK => ?_) (fun K hK => ?_)
      · go_simp
        (with_reducible refine (hup _ hS cur.fin cur.fit).mono ?_); rintro e w5 ⟨rfl, f5, g5, m5⟩
        replace cur := cur.call D f5 g5 m5
        have hb := cur.env
        clear f5 g5 m5
        refine hK.out _ _ hb ?_
        replace hS := hb
        clear hK K hb
        try simp only [Act.put, List.setIfInBounds_toArray, List.set_cons_zero, List.set_cons_succ]
        refine wpAnyS_take (i := 11) (v := ?_) hS (some 89) rfl rfl (by kernel_rfl) (by kernel_rfl) (by kernel_rfl) (fun _ _ _ h => h) ?_ ?_
        rotate_left 1
        · (refine Or.inl ⟨by rfl, ?_⟩; intro w' hw'; have hq1 := hw'.ub.cell.1; unfold gpv at hq1; (try go_simp); (try rfl); done)
        try simp only [Act.put, List.setIfInBounds_toArray, List.set_cons_zero, List.set_cons_succ]
        refine wpAnyS_take (i := 12) (v := ?_) hS (some 101) rfl rfl (by kernel_rfl) (by kernel_rfl) (by kernel_rfl) (fun _ _ _ h => h) ?_ ?_
        rotate_left 1
        · (refine Or.inl ⟨by rfl, ?_⟩; intro w' hw'; have hq1 := hw'.ub.cell.1; unfold gpv at hq1; (try go_simp); (try rfl); done)
        try simp only [Act.put, List.setIfInBounds_toArray, List.set_cons_zero, List.set_cons_succ]
        refine wpAnyS_take (i := 13) (v := ?_) hS (some 102) rfl rfl (by kernel_rfl) (by kernel_rfl) (by kernel_rfl) (fun _ _ _ h => h) ?_ ?_
        rotate_left 1
        · (refine Or.inl ⟨by rfl, ?_⟩; intro w' hw'; have hq1 := hw'.ub.cell.1; unfold gpv at hq1; (try go_simp); (try rfl); done)
        try simp only [Act.put, List.setIfInBounds_toArray, List.set_cons_zero, List.set_cons_succ]
        refine wpAnyS_one (i := 15) rfl (by kernel_rfl) (by rfl) (fun K hK => ?_)
        refine wp_alloc_at (some 20) 38 rfl rfl _ (zeroD _) ?_
        replace cur := cur.a2
        generalize World.alloc _ _ = Wn at *
        have hb := cur.env
        refine hK.out _ _ hb ?_
        replace hS := hb
        clear hK K hb
        try simp only [Act.put, List.setIfInBounds_toArray, List.set_cons_zero, List.set_cons_succ]
        refine wpAnyS_one (i := 16) rfl (by kernel_rfl) (by rfl) (fun K hK => ?_)
        have hne := cur.ne _ rfl
        refine arr_dg.store (cur.ax _ rfl).2 zer_length hol _ _ rfl rfl rfl ?_
        have hb := env_row cur.env cur.pre (Nat.le_of_lt (Nat.lt_of_succ_lt (cur.ax _ rfl).1)) (bs wy.old).toArray
        refine hK.out _ _ hb ?_
        replace hS := hb
        clear hK K hb
        try simp only [Act.put, List.setIfInBounds_toArray, List.set_cons_zero, List.set_cons_succ]
        refine wpAnyS_one (i := 17) rfl (by kernel_rfl) (by rfl) (fun K hK => ?_)
        refine arr_dg.store ((cur.ay _ rfl).2.other (fun e => hne (by rw [e])) (bs wy.old).toArray) zer_length hnl _ _ rfl rfl rfl ?_
        have hb := env_row hS cur.pre (Nat.le_of_lt (Nat.lt_of_succ_lt (cur.ay _ rfl).1)) (bs wy.new).toArray
        refine hK.out _ _ hb ?_
        replace hS := hb
        clear hK K hb
        try simp only [Act.put, List.setIfInBounds_toArray, List.set_cons_zero, List.set_cons_succ]
        refine wpAnyS_done (by kernel_rfl) ?_ _
        go_wp2_with fail
        go_meet
        exact ⟨_, _, rfl, rfl, cur.cut wy.old wy.new⟩
      · refine wp_alloc_at (some 20) 38 rfl rfl _ (zeroD _) ?_
        replace cur := cur.a2
        generalize World.alloc _ _ = Wn at *
        have hb := cur.env
        refine hK.out _ _ hb ?_
        replace hS := hb
        clear hK K hb
        try simp only [Act.put, List.setIfInBounds_toArray, List.set_cons_zero, List.set_cons_succ]
        refine wpAnyS_one (i := 10) rfl (by kernel_rfl) (by rfl) (fun K hK => ?_)
        go_simp
        (with_reducible refine (hup _ hS cur.fin cur.fit).mono ?_); rintro e w5 ⟨rfl, f5, g5, m5⟩
        replace cur := cur.call D f5 g5 m5
        have hb := cur.env
        clear f5 g5 m5
        refine hK.out _ _ hb ?_
        replace hS := hb
        clear hK K hb
        try simp only [Act.put, List.setIfInBounds_toArray, List.set_cons_zero, List.set_cons_succ]
        refine wpAnyS_take (i := 11) (v := ?_) hS (some 89) rfl rfl (by kernel_rfl) (by kernel_rfl) (by kernel_rfl) (fun _ _ _ h => h) ?_ ?_
        rotate_left 1
        · (refine Or.inl ⟨by rfl, ?_⟩; intro w' hw'; have hq1 := hw'.ub.cell.1; unfold gpv at hq1; (try go_simp); (try rfl); done)
        try simp only [Act.put, List.setIfInBounds_toArray, List.set_cons_zero, List.set_cons_succ]
        refine wpAnyS_take (i := 12) (v := ?_) hS (some 101) rfl rfl (by kernel_rfl) (by kernel_rfl) (by kernel_rfl) (fun _ _ _ h => h) ?_ ?_
        rotate_left 1
        · (refine Or.inl ⟨by rfl, ?_⟩; intro w' hw'; have hq1 := hw'.ub.cell.1; unfold gpv at hq1; (try go_simp); (try rfl); done)
        try simp only [Act.put, List.setIfInBounds_toArray, List.set_cons_zero, List.set_cons_succ]
        refine wpAnyS_take (i := 13) (v := ?_) hS (some 102) rfl rfl (by kernel_rfl) (by kernel_rfl) (by kernel_rfl) (fun _ _ _ h => h) ?_ ?_
        rotate_left 1
        · (refine Or.inl ⟨by rfl, ?_⟩; intro w' hw'; have hq1 := hw'.ub.cell.1; unfold gpv at hq1; (try go_simp); (try rfl); done)
        try simp only [Act.put, List.setIfInBounds_toArray, List.set_cons_zero, List.set_cons_succ]
        refine wpAnyS_one (i := 16) rfl (by kernel_rfl) (by rfl) (fun K hK => ?_)
        have hne := cur.ne _ rfl
        refine arr_dg.store (cur.ax _ rfl).2 zer_length hol _ _ rfl rfl rfl ?_
        have hb := env_row cur.env cur.pre (Nat.le_of_lt (Nat.lt_of_succ_lt (cur.ax _ rfl).1)) (bs wy.old).toArray
        refine hK.out _ _ hb ?_
        replace hS := hb
        clear hK K hb
        try simp only [Act.put, List.setIfInBounds_toArray, List.set_cons_zero, List.set_cons_succ]
        refine wpAnyS_one (i := 17) rfl (by kernel_rfl) (by rfl) (fun K hK => ?_)
        refine arr_dg.store ((cur.ay _ rfl).2.other (fun e => hne (by rw [e])) (bs wy.old).toArray) zer_length hnl _ _ rfl rfl rfl ?_
        have hb := env_row hS cur.pre (Nat.le_of_lt (Nat.lt_of_succ_lt (cur.ay _ rfl).1)) (bs wy.new).toArray
        refine hK.out _ _ hb ?_
        replace hS := hb
        clear hK K hb
        try simp only [Act.put, List.setIfInBounds_toArray, List.set_cons_zero, List.set_cons_succ]
        refine wpAnyS_done (by kernel_rfl) ?_ _
        go_wp2_with fail
        go_meet
        exact ⟨_, _, rfl, rfl, cur.cut wy.old wy.new⟩
    · refine wp_alloc_at (some 20) 38 rfl rfl _ (zeroD _) ?_
      replace cur := cur.a2
      generalize World.alloc _ _ = Wn at *
      have hb := cur.env
      refine hK.out _ _ hb ?_
      replace hS := hb
      clear hK K hb
      try simp only [Act.put, List.setIfInBounds_toArray, List.set_cons_zero, List.set_cons_succ]
      refine wpAnyS_fork2 (i := 10) (j := 14) (by kernel_rfl) rfl (by rfl) rfl (by rfl) (fun K hK => ?_) (fun K hK => ?_)
      · go_simp
        (with_reducible refine (hup _ hS cur.fin cur.fit).mono ?_); rintro e w5 ⟨rfl, f5, g5, m5⟩
        replace cur := cur.call D f5 g5 m5
        have hb := cur.env
        clear f5 g5 m5
        refine hK.out _ _ hb ?_
        replace hS := hb
        clear hK K hb
        try simp only [Act.put, List.setIfInBounds_toArray, List.set_cons_zero, List.set_cons_succ]
        refine wpAnyS_take (i := 11) (v := ?_) hS (some 89) rfl rfl (by kernel_rfl) (by kernel_rfl) (by kernel_rfl) (fun _ _ _ h => h) ?_ ?_
        rotate_left 1
        · (refine Or.inl ⟨by rfl, ?_⟩; intro w' hw'; have hq1 := hw'.ub.cell.1; unfold gpv at hq1; (try go_simp); (try rfl); done)
        try simp only [Act.put, List.setIfInBounds_toArray, List.set_cons_zero, List.set_cons_succ]
        refine wpAnyS_take (i := 12) (v := ?_) hS (some 101) rfl rfl (by kernel_rfl) (by kernel_rfl) (by kernel_rfl) (fun _ _ _ h => h) ?_ ?_
        rotate_left 1
        · (refine Or.inl ⟨by rfl, ?_⟩; intro w' hw'; have hq1 := hw'.ub.cell.1; unfold gpv at hq1; (try go_simp); (try rfl); done)
        try simp only [Act.put, List.setIfInBounds_toArray, List.set_cons_zero, List.set_cons_succ]
        refine wpAnyS_take (i := 13) (v := ?_) hS (some 102) rfl rfl (by kernel_rfl) (by kernel_rfl) (by kernel_rfl) (fun _ _ _ h => h) ?_ ?_
        rotate_left 1
        · (refine Or.inl ⟨by rfl, ?_⟩; intro w' hw'; have hq1 := hw'.ub.cell.1; unfold gpv at hq1; (try go_simp); (try rfl); done)
        try simp only [Act.put, List.setIfInBounds_toArray, List.set_cons_zero, List.set_cons_succ]
        refine wpAnyS_one (i := 14) rfl (by kernel_rfl) (by rfl) (fun K hK => ?_)
        refine wp_alloc_at (some 19) 38 rfl rfl _ (zeroD _) ?_
        replace cur := cur.a1
        generalize World.alloc _ _ = Wn at *
        have hb := cur.env
        refine hK.out _ _ hb ?_
        replace hS := hb
        clear hK K hb
        try simp only [Act.put, List.setIfInBounds_toArray, List.set_cons_zero, List.set_cons_succ]
        refine wpAnyS_one (i := 16) rfl (by kernel_rfl) (by rfl) (fun K hK => ?_)
        have hne := cur.ne _ rfl
        refine arr_dg.store (cur.ax _ rfl).2 zer_length hol _ _ rfl rfl rfl ?_
        have hb := env_row cur.env cur.pre (Nat.le_of_lt (Nat.lt_of_succ_lt (cur.ax _ rfl).1)) (bs wy.old).toArray
        refine hK.out _ _ hb ?_
        replace hS := hb
        clear hK K hb
        try simp only [Act.put, List.setIfInBounds_toArray, List.set_cons_zero, List.set_cons_succ]
        refine wpAnyS_one (i := 17) rfl (by kernel_rfl) (by rfl) (fun K hK => ?_)
        refine arr_dg.store ((cur.ay _ rfl).2.other (fun e => hne (by rw [e])) (bs wy.old).toArray) zer_length hnl _ _ rfl rfl rfl ?_
        have hb := env_row hS cur.pre (Nat.le_of_lt (Nat.lt_of_succ_lt (cur.ay _ rfl).1)) (bs wy.new).toArray
        refine hK.out _ _ hb ?_
        replace hS := hb
        clear hK K hb
        try simp only [Act.put, List.setIfInBounds_toArray, List.set_cons_zero, List.set_cons_succ]
        refine wpAnyS_done (by kernel_rfl) ?_ _
        go_wp2_with fail
        go_meet
        exact ⟨_, _, rfl, rfl, cur.cut wy.old wy.new⟩
      · refine wp_alloc_at (some 19) 38 rfl rfl _ (zeroD _) ?_
        replace cur := cur.a1
        generalize World.alloc _ _ = Wn at *
        have hb := cur.env
        refine hK.out _ _ hb ?_
        replace hS := hb
        clear hK K hb
        try simp only [Act.put, List.setIfInBounds_toArray, List.set_cons_zero, List.set_cons_succ]
        refine wpAnyS_one (i := 10) rfl (by kernel_rfl) (by rfl) (fun K hK => ?_)
        go_simp
        (with_reducible refine (hup _ hS cur.fin cur.fit).mono ?_); rintro e w5 ⟨rfl, f5, g5, m5⟩
        replace cur := cur.call D f5 g5 m5
        have hb := cur.env
        clear f5 g5 m5
        refine hK.out _ _ hb ?_
        replace hS := hb
        clear hK K hb
        try simp only [Act.put, List.setIfInBounds_toArray, List.set_cons_zero, List.set_cons_succ]
        refine wpAnyS_take (i := 11) (v := ?_) hS (some 89) rfl rfl (by kernel_rfl) (by kernel_rfl) (by kernel_rfl) (fun _ _ _ h => h) ?_ ?_
        rotate_left 1
        · (refine Or.inl ⟨by rfl, ?_⟩; intro w' hw'; have hq1 := hw'.ub.cell.1; unfold gpv at hq1; (try go_simp); (try rfl); done)
        try simp only [Act.put, List.setIfInBounds_toArray, List.set_cons_zero, List.set_cons_succ]
        refine wpAnyS_take (i := 12) (v := ?_) hS (some 101) rfl rfl (by kernel_rfl) (by kernel_rfl) (by kernel_rfl) (fun _ _ _ h => h) ?_ ?_
        rotate_left 1
        · (refine Or.inl ⟨by rfl, ?_⟩; intro w' hw'; have hq1 := hw'.ub.cell.1; unfold gpv at hq1; (try go_simp); (try rfl); done)
        try simp only [Act.put, List.setIfInBounds_toArray, List.set_cons_zero, List.set_cons_succ]
        refine wpAnyS_take (i := 13) (v := ?_) hS (some 102) rfl rfl (by kernel_rfl) (by kernel_rfl) (by kernel_rfl) (fun _ _ _ h => h) ?_ ?_
        rotate_left 1
        · (refine Or.inl ⟨by rfl, ?_⟩; intro w' hw'; have hq1 := hw'.ub.cell.1; unfold gpv at hq1; (try go_simp); (try rfl); done)
        try simp only [Act.put, List.setIfInBounds_toArray, List.set_cons_zero, List.set_cons_succ]
        refine wpAnyS_one (i := 16) rfl (by kernel_rfl) (by rfl) (fun K hK => ?_)
        have hne := cur.ne _ rfl
        refine arr_dg.store (cur.ax _ rfl).2 zer_length hol _ _ rfl rfl rfl ?_
        have hb := env_row cur.env cur.pre (Nat.le_of_lt (Nat.lt_of_succ_lt (cur.ax _ rfl).1)) (bs wy.old).toArray
        refine hK.out _ _ hb ?_
        replace hS := hb
        clear hK K hb
        try simp only [Act.put, List.setIfInBounds_toArray, List.set_cons_zero, List.set_cons_succ]
        refine wpAnyS_one (i := 17) rfl (by kernel_rfl) (by rfl) (fun K hK => ?_)
        refine arr_dg.store ((cur.ay _ rfl).2.other (fun e => hne (by rw [e])) (bs wy.old).toArray) zer_length hnl _ _ rfl rfl rfl ?_
        have hb := env_row hS cur.pre (Nat.le_of_lt (Nat.lt_of_succ_lt (cur.ay _ rfl).1)) (bs wy.new).toArray
        refine hK.out _ _ hb ?_
        replace hS := hb
        clear hK K hb
        try simp only [Act.put, List.setIfInBounds_toArray, List.set_cons_zero, List.set_cons_succ]
        refine wpAnyS_done (by kernel_rfl) ?_ _
        go_wp2_with fail
        go_meet
        exact ⟨_, _, rfl, rfl, cur.cut wy.old wy.new⟩
  case rest =>
    obtain ⟨A', B', rfl, rfl, hc⟩ := hcut
    clear hcur0 hup
    have hS : Env3 w0 w F G OB UB FB HB g old A' B' wy.old wy.new wc.drew := Env3.ext ⟨hc.env, hc.ra, hc.rb⟩ (ext_drew _)
    have f1 := hc.fin.below (ext_drew wc)
    have c1 := hc.fit.below (ext_drew wc)
    have ra1 := hc.r0.below (ext_drew wc)
    have rb1 := hc.r1.below (ext_drew wc)
    have but1 := hc.but.trans (But.of (ext_drew wc) hc.env.below.size)
    have pre := hc.pre
    have la := hc.la
    have lb := hc.lb
    clear hc
    replace la : Hid _ := la
    replace lb : Hid _ := lb
    go_wp2_with fail
    refine wp_region_S (fun w' => Env3 w0 w F G OB UB FB HB g old A' B' wy.old wy.new w') (by kernel_rfl) ?_
    refine wpAnyS_take (i := 0) (v := ?_) hS (some 103) rfl rfl (by kernel_rfl) (by kernel_rfl) (by kernel_rfl) (fun _ _ _ h => h) ?_ ?_
    rotate_left 1
    · (refine Or.inl ⟨by rfl, ?_⟩; intro w' hw'; have hq1 := hw'.env.fb.cell.1; have hq2 := hw'.env.hb.cell.1; unfold hv at hq2; (try go_simp); (try rfl); done)
    try simp only [Act.put, List.setIfInBounds_toArray, List.set_cons_zero, List.set_cons_succ]
    refine wpAnyS_take (i := 1) (v := ?_) hS (some 104) rfl rfl (by kernel_rfl) (by kernel_rfl) (by kernel_rfl) (fun _ _ _ h => h) ?_ ?_
    rotate_left 1
    · (refine Or.inl ⟨by rfl, ?_⟩; intro w' hw'; have hq1 := hw'.env.fb.cell.1; have hq2 := hw'.env.hb.cell.1; unfold hv at hq2; (try go_simp); (try rfl); done)
    try simp only [Act.put, List.setIfInBounds_toArray, List.set_cons_zero, List.set_cons_succ]
    refine wpAnyS_take (i := 2) (v := ?_) hS (some 105) rfl rfl (by kernel_rfl) (by kernel_rfl) (by kernel_rfl) (fun _ _ _ h => h) ?_ ?_
    rotate_left 1
    · (refine Or.inl ⟨by rfl, ?_⟩; intro w' hw'; have hq1 := hw'.env.fb.cell.1; have hq2 := hw'.env.hb.cell.1; unfold hv at hq2; (try go_simp); (try rfl); done)
    try simp only [Act.put, List.setIfInBounds_toArray, List.set_cons_zero, List.set_cons_succ]
    refine wpAnyS_take (i := 3) (v := ?_) hS (some 106) rfl rfl (by kernel_rfl) (by kernel_rfl) (by kernel_rfl) (fun _ _ _ h => h) ?_ ?_
    rotate_left 1
    · (refine Or.inl ⟨by rfl, ?_⟩; intro w' hw'; have hq1 := hw'.env.fb.cell.1; have hq2 := hw'.env.hb.cell.1; unfold hv at hq2; (try go_simp); (try rfl); done)
    try simp only [Act.put, List.setIfInBounds_toArray, List.set_cons_zero, List.set_cons_succ]
    refine wpAnyS_take (i := 4) (v := ?_) hS (some 107) rfl rfl (by kernel_rfl) (by kernel_rfl) (by kernel_rfl) (fun _ _ _ h => h) ?_ ?_
    rotate_left 1
    · (refine Or.inl ⟨by rfl, ?_⟩; intro w' hw'; have hq1 := hw'.env.fb.cell.1; have hq2 := hw'.env.hb.cell.1; unfold hv at hq2; (refine arr_dg.exAt' (hrd.below' hw'.env.below) hd1 (.tmp 106) ?_ ?_ <;> rfl))
    try simp only [Act.put, List.setIfInBounds_toArray, List.set_cons_zero, List.set_cons_succ]
    refine wpAnyS_take (i := 5) (v := ?_) hS (some 108) rfl rfl (by kernel_rfl) (by kernel_rfl) (by kernel_rfl) (fun _ _ _ h => h) ?_ ?_
    rotate_left 1
    · (refine Or.inl ⟨by rfl, ?_⟩; intro w' hw'; have hq1 := hw'.env.fb.cell.1; have hq2 := hw'.env.hb.cell.1; unfold hv at hq2; (refine arr_dg.ex hw'.ra hol (.tmp 19) ?_ ?_ <;> rfl))
    try simp only [Act.put, List.setIfInBounds_toArray, List.set_cons_zero, List.set_cons_succ]
    refine wpAnyS_take (i := 8) (v := ?_) hS (some 111) rfl rfl (by kernel_rfl) (by kernel_rfl) (by kernel_rfl) (fun _ _ _ h => h) ?_ ?_
    rotate_left 1
    · (refine Or.inl ⟨by rfl, ?_⟩; intro w' hw'; have hq1 := hw'.env.fb.cell.1; have hq2 := hw'.env.hb.cell.1; unfold hv at hq2; (try go_simp); (try rfl); done)
    try simp only [Act.put, List.setIfInBounds_toArray, List.set_cons_zero, List.set_cons_succ]
    refine wpAnyS_take (i := 9) (v := ?_) hS (some 112) rfl rfl (by kernel_rfl) (by kernel_rfl) (by kernel_rfl) (fun _ _ _ h => h) ?_ ?_
    rotate_left 1
    · (refine Or.inl ⟨by rfl, ?_⟩; intro w' hw'; have hq1 := hw'.env.fb.cell.1; have hq2 := hw'.env.hb.cell.1; unfold hv at hq2; (try go_simp); (try rfl); done)
    try simp only [Act.put, List.setIfInBounds_toArray, List.set_cons_zero, List.set_cons_succ]
    refine wpAnyS_take (i := 10) (v := ?_) hS (some 113) rfl rfl (by kernel_rfl) (by kernel_rfl) (by kernel_rfl) (fun _ _ _ h => h) ?_ ?_
    rotate_left 1
    · (refine Or.inl ⟨by rfl, ?_⟩; intro w' hw'; have hq1 := hw'.env.fb.cell.1; have hq2 := hw'.env.hb.cell.1; unfold hv at hq2; (try go_simp); (try rfl); done)
    try simp only [Act.put, List.setIfInBounds_toArray, List.set_cons_zero, List.set_cons_succ]
    refine wpAnyS_take (i := 11) (v := ?_) hS (some 114) rfl rfl (by kernel_rfl) (by kernel_rfl) (by kernel_rfl) (fun _ _ _ h => h) ?_ ?_
    rotate_left 1
    · (refine Or.inl ⟨by rfl, ?_⟩; intro w' hw'; have hq1 := hw'.env.fb.cell.1; have hq2 := hw'.env.hb.cell.1; unfold hv at hq2; (try go_simp); (try rfl); done)
    try simp only [Act.put, List.setIfInBounds_toArray, List.set_cons_zero, List.set_cons_succ]
    refine wpAnyS_take (i := 12) (v := ?_) hS (some 115) rfl rfl (by kernel_rfl) (by kernel_rfl) (by kernel_rfl) (fun _ _ _ h => h) ?_ ?_
    rotate_left 1
    · (refine Or.inl ⟨by rfl, ?_⟩; intro w' hw'; have hq1 := hw'.env.fb.cell.1; have hq2 := hw'.env.hb.cell.1; unfold hv at hq2; (refine arr_dg.exAt' (hrd.below' hw'.env.below) hd1 (.tmp 114) ?_ ?_ <;> rfl))
    try simp only [Act.put, List.setIfInBounds_toArray, List.set_cons_zero, List.set_cons_succ]
    refine wpAnyS_take (i := 13) (v := ?_) hS (some 116) rfl rfl (by kernel_rfl) (by kernel_rfl) (by kernel_rfl) (fun _ _ _ h => h) ?_ ?_
    rotate_left 1
    · (refine Or.inl ⟨by rfl, ?_⟩; intro w' hw'; have hq1 := hw'.env.fb.cell.1; have hq2 := hw'.env.hb.cell.1; unfold hv at hq2; (refine arr_dg.ex hw'.rb hnl (.tmp 20) ?_ ?_ <;> rfl))
    try simp only [Act.put, List.setIfInBounds_toArray, List.set_cons_zero, List.set_cons_succ]
    refine wpAnyS_take (i := 15) (v := ?_) hS (some 118) rfl rfl (by kernel_rfl) (by kernel_rfl) (by kernel_rfl) (fun _ _ _ h => h) ?_ ?_
    rotate_left 1
    · (refine Or.inl ⟨by rfl, ?_⟩; intro w' hw'; have hq1 := hw'.env.fb.cell.1; have hq2 := hw'.env.hb.cell.1; unfold hv at hq2; (try go_simp); (try rfl); done)
    try simp only [Act.put, List.setIfInBounds_toArray, List.set_cons_zero, List.set_cons_succ]
    refine wpAnyS_one (i := 6) rfl (by kernel_rfl) (by rfl) (fun K hK => ?_)
    go_simp
    (with_reducible refine (hnd2 _).mono ?_); rintro e w4 ⟨v4, rfl, s4, b4⟩
    have x4 : Ext wc.drew w4 := b4
    have hb := hS.ext b4
    refine hK.out _ _ hb ?_
    replace hS := hb
    clear hK K hb
    try simp only [Act.put, List.setIfInBounds_toArray, List.set_cons_zero, List.set_cons_succ]
    refine wpAnyS_one (i := 7) rfl (by kernel_rfl) (by rfl) (fun K hK => ?_)
    go_simp
    (with_reducible refine (hash1_any g k v4 t2 w4 s4.sl (by rw [htl2]; decide) hk (hg.below hS.env.below)).mono ?_); rintro e w5 ⟨rfl, b5⟩
    have x5 := Ext.trans x4 b5
    have hb := hS.ext b5
    refine hK.out _ _ hb ?_
    replace hS := hb
    clear hK K hb
    try simp only [Act.put, List.setIfInBounds_toArray, List.set_cons_zero, List.set_cons_succ]
    refine wpAnyS_one (i := 14) rfl (by kernel_rfl) (by rfl) (fun K hK => ?_)
    go_simp
    (with_reducible refine (hnd _).mono ?_); rintro e w6 ⟨v6, rfl, s6, b6⟩
    have x6 := Ext.trans x5 b6
    have f6 := f1.below x6
    have c6 := c1.below x6
    have ra6 := ra1.below x6
    have rb6 := rb1.below x6
    have hb := hS.ext b6
    have but6 := but1.trans (But.of x6 (Nat.le_trans (Nat.le_refl _) (Nat.le_trans pre.l0 (Nat.le_trans (Nat.le_of_lt ra1.lt) (Nat.le_refl _)))))
    refine hK.out _ _ hb ?_
    replace hS := hb
    clear hK K hb
    try simp only [Act.put, List.setIfInBounds_toArray, List.set_cons_zero, List.set_cons_succ]
    refine wpAnyS_one (i := 16) rfl (by kernel_rfl) (by rfl) (fun K hK => ?_)
    go_simp
    have hm := met_any F g k wy.p v6 (.slice A l.length c) t l w6 hk f6 (hg.below hS.env.below) s6 (by rw [htl]; decide) (hl.below hS.env.below) hll hz
    (with_reducible refine hm.mono ?_); rintro e w7 ⟨rfl, f7, m7⟩
    have but7 := but6.trans (m7.wide.narrow D.f0)
    have hb := hS.but D pre la.out lb.out (m7.wide.narrow D.f0)
    have ra7 := ra6.but (m7.wide (G := G)) (by have := pre.fl; omega) (by have := pre.gl; omega)
    have rb7 := rb6.but (m7.wide (G := G)) (by have := pre.fl; omega) (by have := pre.gl; omega)
    have c7 := c6.but (m7.wide (G := F)) (fun e => D.ne e.symm) (fun e => D.ne e.symm)
    obtain ⟨rb', l0, l1, fF, fG, fB⟩ := two_rows hdl2 hdl ra7 rb7 f7 c7 but7 pre.l0 pre.gl
    refine hK.out _ _ hb ?_
    replace hS := hb
    clear hK K hb
    try simp only [Act.put, List.setIfInBounds_toArray, List.set_cons_zero, List.set_cons_succ]
    refine wpAnyS_one (i := 17) rfl (by kernel_rfl) (by rfl) (fun K hK => ?_)
    refine arr_dg.store ra7 zer_length hdl2 _ _ rfl rfl rfl ?_
    have hb := hS.row pre la.out lb.out (Nat.le_refl _) (by omega) (bs (hashL k t2)).toArray
    refine hK.out _ _ hb ?_
    replace hS := hb
    clear hK K hb
    try simp only [Act.put, List.setIfInBounds_toArray, List.set_cons_zero, List.set_cons_succ]
    refine wpAnyS_one (i := 18) rfl (by kernel_rfl) (by rfl) (fun K hK => ?_)
    refine arr_dg.store rb' zer_length hdl _ _ rfl rfl rfl ?_
    have hb := hS.row pre la.out lb.out (by omega) (Nat.le_refl _) (bs (hashL k t)).toArray
    refine hK.out _ _ hb ?_
    replace hS := hb
    clear hK K hb
    try simp only [Act.put, List.setIfInBounds_toArray, List.set_cons_zero, List.set_cons_succ]
    refine wpAnyS_done (by kernel_rfl) ?_ _
    go_wp2_with fail
    exact ret_cells2 Try.results42 rfl rfl l0 l1 rfl ⟨rfl, fF, fG, fB⟩
end Go.Proofs.Ytnpbapefjbfndaa
