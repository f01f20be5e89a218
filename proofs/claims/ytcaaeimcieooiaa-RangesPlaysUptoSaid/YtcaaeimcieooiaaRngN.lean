/- Parts of the reference's ranges: values, in memory, in slices (no walk). -/
import Derived.Test.YtcaaeimcieooiaaRngL
set_option linter.unusedVariables false
set_option linter.unusedSimpArgs false
set_option maxRecDepth 10000
namespace Go.Proofs.Ytcaaeimcieooiaa
open Go.RowKit

/-- The cells of a part. -/
def ptC (n : Nat) (d : List UInt8) : List Value := .int .u64 (n : Int) :: bs d
def pt (n : Nat) (d : List UInt8) : Value := .agg (ptC n d).toArray
theorem pt_cells (n : Nat) (d : List UInt8) : (pt n d).cells = (ptC n d).toArray := rfl
theorem ptC_length {n : Nat} {d : List UInt8} (hd : d.length = 32) : (ptC n d).length = 33 := by simp [ptC, bs_length, hd]
theorem ptC_one (n : Nat) (d : List UInt8) : ∀ v ∈ ptC n d, v.oneCell' = true := fun v hv => by
  rcases List.mem_cons.1 hv with rfl | hv
  · rfl
  · exact bs_one _ v hv
/-- The cells of some parts. -/
def psC (ps : List PartL) : List Value := (ps.map fun p => ptC p.1 p.2).flatten
def All2 (ps : List PartL) : Prop := ∀ p ∈ ps, p.2.length = 32
theorem All2.take {ps : List PartL} (h : All2 ps) (k : Nat) : All2 (ps.take k) := fun d hd => h d (List.mem_of_mem_take hd)
theorem All2.append {ps qs : List PartL} (h : All2 ps) (k : All2 qs) : All2 (ps ++ qs) := fun d hd => (List.mem_append.1 hd).elim (h d) (k d)
theorem All2.one {n : Nat} {d : List UInt8} (hd : d.length = 32) : All2 [(n, d)] := fun p hp => by rw [List.mem_singleton.1 hp]; exact hd
theorem psC_append (ps qs : List PartL) : psC (ps ++ qs) = psC ps ++ psC qs := by simp [psC]
theorem psC_one (ps : List PartL) : ∀ v ∈ psC ps, v.oneCell' = true := fun v hv => by
  obtain ⟨l, hl, hv⟩ := List.mem_flatten.1 hv
  obtain ⟨p, _, rfl⟩ := List.mem_map.1 hl
  exact ptC_one _ _ v hv
theorem psC_length {ps : List PartL} (h : All2 ps) : (psC ps).length = ps.length * 33 := by
  induction ps with
  | nil => rfl
  | cons p r ih =>
    show (ptC p.1 p.2 ++ psC r).length = _
    rw [List.length_append, ih (fun x hx => h x (by simp [hx])), ptC_length (h p (by simp)), List.length_cons]; omega
theorem psC_drop : ∀ (l : Nat) (ps : List PartL), All2 ps → (psC ps).drop (l * 33) = psC (ps.drop l)
  | 0, ps, _ => by simp
  | l + 1, [], _ => by simp [psC]
  | l + 1, p :: r, h => by
    have hd := ptC_length (n := p.1) (h p (by simp))
    show (ptC p.1 p.2 ++ psC r).drop _ = _
    rw [List.drop_succ_cons, ← psC_drop l r (fun x hx => h x (by simp [hx])), List.drop_append, List.drop_eq_nil_of_le (by omega), List.nil_append, hd]
    congr 1; omega
theorem psC_take : ∀ (l : Nat) (ps : List PartL), All2 ps → (psC ps).take (l * 33) = psC (ps.take l)
  | 0, ps, _ => by simp [psC]
  | l + 1, [], _ => by simp [psC]
  | l + 1, p :: r, h => by
    have hd := ptC_length (n := p.1) (h p (by simp))
    show (ptC p.1 p.2 ++ psC r).take _ = ptC p.1 p.2 ++ psC (r.take l)
    rw [← psC_take l r (fun x hx => h x (by simp [hx])), List.take_append, List.take_of_length_le (by omega), hd]
    congr 2; omega
/-- The slice reads as these parts. -/
def SlP (w : World) (v : Value) (ps : List PartL) : Prop := Sl w v ps.length (psC ps) ∧ All2 ps
theorem SlP.below {w w' : World} {v : Value} {ps : List PartL} (h : SlP w v ps) (hb : Below w.heap.size w w') : SlP w' v ps := ⟨h.1.below hb, h.2⟩
abbrev noP : PartL := (0, [])
theorem SlP.len2 {w : World} {v : Value} {ps : List PartL} (h : SlP w v ps) {i : Nat} (hi : i < ps.length) : (ps.getD i noP).2.length = 32 := by apply h.2; simp [hi]
theorem SlP.get {w : World} {A : Option Addr} {n c i : Nat} {ps : List PartL} (h : SlP w (.slice A n c) ps) (hi : i < ps.length) : ∃ ad, A = some ad ∧ Rc w (some (ad.add (i * 33))) (ptC (ps.getD i noP).1 (ps.getD i noP).2) := by
  obtain ⟨h1, h2⟩ := h
  obtain ⟨A', c', e, _, _, hA, hr⟩ := h1
  injection e with e1 e2 e3
  subst e1
  have hf := psC_length h2
  cases A with
  | none =>
    have := hr.none_
    have hl : (psC ps).length = 0 := by rw [this]; rfl
    rw [hf] at hl; omega
  | some ad =>
    refine ⟨ad, rfl, ?_⟩
    have ht := (hr.drop (i * 33)).take 33
    have e : ((psC ps).drop (i * 33)).take 33 = ptC (ps.getD i noP).1 (ps.getD i noP).2 := by
      rw [psC_drop _ _ h2]
      have : ps.drop i = ps.getD i noP :: ps.drop (i + 1) := by rw [List.drop_eq_getElem_cons hi]; simp [hi]
      rw [this]
      show (ptC (ps.getD i noP).1 (ps.getD i noP).2 ++ psC (ps.drop (i + 1))).take 33 = _
      have hl : (ptC (ps.getD i noP).1 (ps.getD i noP).2).length = 33 := ptC_length (by apply h2; simp [hi])
      rw [List.take_append_of_le_length (by omega), List.take_of_length_le (by omega)]
    rw [e] at ht; exact ht
/-- The number in a part, and its head. -/
theorem ptC_num {w : World} {ad : Addr} {n : Nat} {d : List UInt8} (h : Rc w (some ad) (ptC n d)) : w.cell? ad = some (.int .u64 (n : Int)) := by
  have := h.some_ 0 (.int .u64 (n : Int)) rfl
  rwa [show ad.add 0 = ad from by cases ad; rfl] at this
theorem ptC_head {w : World} {ad : Addr} {n : Nat} {d : List UInt8} (h : Rc w (some ad) (ptC n d)) : RdB w (some (ad.add 1)) d := by
  have := h.drop 1
  exact this
/-- A part in a variable. -/
def RowP (w : World) (D : Nat) (n : Nat) (d : List UInt8) : Prop := w.heap[D]? = some (.cells (ptC n d).toArray 60 (0, 0))
theorem RowP.lt {w : World} {D n : Nat} {d : List UInt8} (h : RowP w D n d) : D < w.heap.size := (Array.getElem?_eq_some_iff.1 h).1
theorem RowP.below {w w' : World} {D n : Nat} {d : List UInt8} (h : RowP w D n d) (hb : Below w.heap.size w w') : RowP w' D n d := (hb.block D h.lt).trans h
theorem RowP.but {S : Nat → Prop} {w w' : World} {D n : Nat} {d : List UInt8} (h : RowP w D n d) (b : But S w w') (hp : ¬ S D) : RowP w' D n d := (b.block D h.lt hp).trans h
theorem RowP.rc {w : World} {D n : Nat} {d : List UInt8} (h : RowP w D n d) : Rc w (some ⟨D, 0, none⟩) (ptC n d) := Rc.of_some fun j u hj => by
  rw [Addr.add_lit, Nat.zero_add, cell_of_row _ _ _ _ _ _ h]; simpa using hj
theorem RowP.num {w : World} {D n : Nat} {d : List UInt8} (h : RowP w D n d) : w.cell? ⟨D, 0, none⟩ = some (.int .u64 (n : Int)) := ptC_num h.rc
theorem RowP.head {w : World} {D n : Nat} {d : List UInt8} (h : RowP w D n d) : RdB w (some ⟨D, 1, none⟩) d := by
  have := ptC_head h.rc
  rwa [Addr.add_lit] at this
theorem infoP1 : (Try.prog.info? 60).map (·.size) = some 33 := by kernel_rfl
theorem infoP : (Try.prog.info? 60).map (fun i => (i.zero, i.size, i.bytes)) = some (some (pt 0 zer), 33, 40) := by kernel_rfl
theorem underP : ∃ fs, Try.prog.underlying 60 = some (.struct fs) := ⟨_, by rw [Try.underlying60]⟩
theorem zeroP (w : World) : (zeroValue 60).run Try.prog w = .ok (pt 0 zer) w :=
  (zero_of_info (P := Try.prog) (t := 60) (v := pt 0 zer) (n := 33) (by kernel_rfl)).1 w
/-- A part is read whole. -/
theorem load_pt {w : World} {ad : Addr} {n : Nat} {d : List UInt8} (h : Rc w (some ad) (ptC n d)) (hd : d.length = 32) : (Go.loadVar 60 ad).run Try.prog w = .ok (pt n d) w := by
  have hlc : (loadCells ad (ptC n d).length).run Try.prog w = .ok (ptC n d).toArray w := run_loadCells_list (P := Try.prog) w ad (ptC n d) h.some_
  obtain ⟨fs, hu⟩ := underP
  have hi := infoP1
  cases hq : Try.prog.info? 60 with
  | none => simp [hq] at hi
  | some i =>
    have hs : i.size = (ptC n d).length := by rw [ptC_length hd]; simpa [hq] using hi
    have hagg : (isAgg 60).run Try.prog w = .ok true w := by
      unfold isAgg
      rw [Sem.run_bind, run_underlying hu w]
      rfl
    simp [Go.loadVar, Sem.run_bind, hagg, sizeOf, typeInfo, hq, hs, hlc, pt]
theorem ex_loadP {o : Oper} {a : Act} {w : World} {ad : Addr} {n : Nat} {d : List UInt8} (h : Rc w (some ad) (ptC n d)) (hd : d.length = 32) (p : Operand) (ho : o.op = .load 60 p) (hp : a.eval p = .pointer (some ad)) :
    (execOp a.eval o).run Try.prog w = .ok (.value (pt n d)) w := by
  unfold execOp
  simp only [ho, hp, Instr.loadAt, Instr.sureAddr, Sem.run_bind, Sem.run_pure, Result.andThen_ok, load_pt h hd]
/-- A part is laid into a variable. -/
theorem wp_storeP {o : Oper} {a : Act} {w : World} {K : Act → World → Prop} {Q : Exit → Act → World → Prop} {D n m : Nat} {c d : List UInt8} (h : RowP w D m c) (hc : c.length = 32) (hd : d.length = 32) (p y : Operand) (ho : o.op = .store 60 p y) (hp : a.eval p = .pointer (some ⟨D, 0, none⟩)) (hy : a.eval y = pt n d)
    (hK : K (a.put o.dst undef) (w.setRow D (ptC n d).toArray)) : o.wp Try.prog a w K Q :=
  wp_store_row 60 p y ho D (ptC n d).toArray hp hy 60 _ h (by rw [infoP1, List.size_toArray, ptC_length hd]) (by rw [List.size_toArray, List.size_toArray, ptC_length hc, ptC_length hd]) (all_oneCell_toArray (ptC_one n d)) hK
theorem RowP.setRow {w : World} {D n m : Nat} {c : List UInt8} (h : RowP w D m c) (d : List UInt8) : RowP (w.setRow D (ptC n d).toArray) D n d := setRow_heap w D _ _ _ _ h
theorem RowP.other {w : World} {D E n : Nat} {d : List UInt8} (h : RowP w D n d) (hne : D ≠ E) (cs : Array Value) : RowP (w.setRow E cs) D n d := (heap_setRow_other w E D cs hne).trans h
theorem cons_of {α : Type} {l : List α} {n : Nat} (h : l.length = n + 1) : ∃ x t, l = x :: t ∧ t.length = n := by
  cases l with
  | nil => simp at h
  | cons x t => exact ⟨x, t, rfl, by simpa using h⟩
set_option maxHeartbeats 4000000 in
theorem built_pt (n : Nat) {d : List UInt8} (h : d.length = 32) : Try.prog.built 60 [(0, .int .u64 (n : Int)), (1, dg d)] = some (ptC n d).toArray := by
  obtain ⟨x0, a0, rfl, h0⟩ := cons_of (n := 31) h
  obtain ⟨x1, a1, rfl, h1⟩ := cons_of (n := 30) h0
  obtain ⟨x2, a2, rfl, h2⟩ := cons_of (n := 29) h1
  obtain ⟨x3, a3, rfl, h3⟩ := cons_of (n := 28) h2
  obtain ⟨x4, a4, rfl, h4⟩ := cons_of (n := 27) h3
  obtain ⟨x5, a5, rfl, h5⟩ := cons_of (n := 26) h4
  obtain ⟨x6, a6, rfl, h6⟩ := cons_of (n := 25) h5
  obtain ⟨x7, a7, rfl, h7⟩ := cons_of (n := 24) h6
  obtain ⟨x8, a8, rfl, h8⟩ := cons_of (n := 23) h7
  obtain ⟨x9, a9, rfl, h9⟩ := cons_of (n := 22) h8
  obtain ⟨x10, a10, rfl, h10⟩ := cons_of (n := 21) h9
  obtain ⟨x11, a11, rfl, h11⟩ := cons_of (n := 20) h10
  obtain ⟨x12, a12, rfl, h12⟩ := cons_of (n := 19) h11
  obtain ⟨x13, a13, rfl, h13⟩ := cons_of (n := 18) h12
  obtain ⟨x14, a14, rfl, h14⟩ := cons_of (n := 17) h13
  obtain ⟨x15, a15, rfl, h15⟩ := cons_of (n := 16) h14
  obtain ⟨x16, a16, rfl, h16⟩ := cons_of (n := 15) h15
  obtain ⟨x17, a17, rfl, h17⟩ := cons_of (n := 14) h16
  obtain ⟨x18, a18, rfl, h18⟩ := cons_of (n := 13) h17
  obtain ⟨x19, a19, rfl, h19⟩ := cons_of (n := 12) h18
  obtain ⟨x20, a20, rfl, h20⟩ := cons_of (n := 11) h19
  obtain ⟨x21, a21, rfl, h21⟩ := cons_of (n := 10) h20
  obtain ⟨x22, a22, rfl, h22⟩ := cons_of (n := 9) h21
  obtain ⟨x23, a23, rfl, h23⟩ := cons_of (n := 8) h22
  obtain ⟨x24, a24, rfl, h24⟩ := cons_of (n := 7) h23
  obtain ⟨x25, a25, rfl, h25⟩ := cons_of (n := 6) h24
  obtain ⟨x26, a26, rfl, h26⟩ := cons_of (n := 5) h25
  obtain ⟨x27, a27, rfl, h27⟩ := cons_of (n := 4) h26
  obtain ⟨x28, a28, rfl, h28⟩ := cons_of (n := 3) h27
  obtain ⟨x29, a29, rfl, h29⟩ := cons_of (n := 2) h28
  obtain ⟨x30, a30, rfl, h30⟩ := cons_of (n := 1) h29
  obtain ⟨x31, a31, rfl, h31⟩ := cons_of (n := 0) h30
  obtain rfl := List.eq_nil_of_length_eq_zero h31
  kernel_rfl
theorem ex_pt {o : Oper} {a : Act} {w : World} {n : Nat} {d : List UInt8} (hd : d.length = 32) (x y : Operand) (ho : o.op = .build 60 #[(0, x), (1, y)]) (hx : a.eval x = .int .u64 (n : Int)) (hy : a.eval y = dg d) :
    (execOp a.eval o).run Try.prog w = .ok (.value (pt n d)) w := by
  have hb : Try.prog.built 60 ((#[(0, x), (1, y)] : Array (Nat × Operand)).map fun (i, x) => (i, a.eval x)).toList = some (ptC n d).toArray := by
    have e : ((#[(0, x), (1, y)] : Array (Nat × Operand)).map fun (i, x) => (i, a.eval x)).toList = [(0, .int .u64 (n : Int)), (1, dg d)] := by simp [hx, hy]
    rw [e]; exact built_pt n hd
  unfold execOp
  simp only [ho, Sem.run_bind, run_build w _ _ _ hb, Result.andThen_ok]
  rfl
/-! ### Own slices of parts -/
def OwP (B : Nat) (w : World) (v : Value) (ps : List PartL) : Prop := w.ownsRow B 60 33 v ps.length (psC ps) ∧ All2 ps
theorem OwP.sl {B : Nat} {w : World} {v : Value} {ps : List PartL} (h : OwP B w v ps) : SlP w v ps := ⟨sl_of_own h.1, h.2⟩
theorem OwP.below {B : Nat} {w w' : World} {v : Value} {ps : List PartL} (h : OwP B w v ps) (hb : Below w.heap.size w w') : OwP B w' v ps := ⟨own_below h.1 hb, h.2⟩
theorem OwP.nil (B : Nat) (w : World) : OwP B w (.slice none 0 0) [] := ⟨World.ownsRow_nil _ _ _ _, fun d hd => by cases hd⟩
theorem OwP.mono {B B' : Nat} {w : World} {v : Value} {ps : List PartL} (h : OwP B w v ps) (hb : B' ≤ B) : OwP B' w v ps := ⟨own_weaken h.1 hb, h.2⟩
theorem OwP.lt {B : Nat} {w : World} {v : Value} {ps : List PartL} (h : OwP B w v ps) : ∀ k, v.ownBlock = some k → B ≤ k ∧ k < w.heap.size := World.ownsRow.lt h.1
theorem OwP.apart {B : Nat} {w w' : World} {v : Value} {ps : List PartL} (h : OwP B w v ps) (hk : ∀ k, v.ownBlock = some k → w'.heap[k]? = w.heap[k]?) : OwP B w' v ps := by
  obtain ⟨⟨h1, h2⟩, h32⟩ := h
  refine ⟨⟨h1, ?_⟩, h32⟩
  rcases h2 with ⟨e, h0⟩ | ⟨g, cap, cur, e, hB, hg, hc, hm, hz, ht⟩
  · exact .inl ⟨e, h0⟩
  · exact .inr ⟨g, cap, cur, e, hB, (hk g (by rw [e]; rfl)).trans hg, hc, hm, hz, ht⟩
theorem OwP.but {S : Nat → Prop} {B : Nat} {w w' : World} {v : Value} {ps : List PartL} (h : OwP B w v ps) (b : But S w w') (hv : ∀ k, v.ownBlock = some k → ¬ S k) : OwP B w' v ps :=
  h.apart fun k hk => b.block k (h.lt k hk).2 (hv k hk)
/-- 'append' of parts onto an own slice, and where the new slice lies. -/
theorem wp_apP_at {w : World} {o : Oper} {a : Act} {K : Act → World → Prop} {Q : Exit → Act → World → Prop}
    (s x : Operand) (hop : o.op = Op.call { callee := Callee.builtin Builtin.append, args := #[s, x], argTypes := #[52, 52] })
    {B : Nat} {v vx : Value} {xs ys : List PartL} (hs : a.eval s = v) (hown : OwP B w v xs) (hx : a.eval x = vx) (hsrc : SlP w vx ys) (hne : ys ≠ [])
    (hlen : xs.length + ys.length ≤ 1099511627776) (hB : B ≤ w.heap.size)
    (hK : ∀ g c w', OwP B w' (.slice (some ⟨g, 0, none⟩) (xs.length + ys.length) c) (xs ++ ys) → w.grownBy w' v.ownBlock → (v.ownBlock = some g ∨ g = w.heap.size) → g < w'.heap.size → K (a.put o.dst (.slice (some ⟨g, 0, none⟩) (xs.length + ys.length) c)) w') : o.wp Try.prog a w K Q := by
  obtain ⟨⟨A, c, rfl, hc, hcm, hA, hr⟩, h32⟩ := hsrc
  obtain ⟨i, hi, hz0, hz1, hz2⟩ := info_parts infoP
  have hn : 0 < ys.length := List.length_pos_iff.2 hne
  cases A with
  | none =>
    have := hr.none_
    have hl : (psC ys).length = 0 := by rw [this]; rfl
    rw [psC_length h32] at hl
    omega
  | some ad =>
    refine wp_append_lies w s x 52 hop B 60 i _ 33 40 Try.underlying52 hi hz0 hz1 hz2 (by simp [pt, ptC, Value.cells, bs_length, zer_length]) (by decide) v xs.length (psC xs) hs hown.1 ad ys.length c (psC ys) hx (by rw [psC_length h32]) hr.some_ (psC_one _) hn (by unfold maxLen; omega) (by omega) hB _ rfl ?_
    intro g cap w' ho hgr hat hlt
    refine hK g cap w' ⟨?_, hown.2.append h32⟩ hgr hat hlt
    rw [List.length_append, psC_append]; exact ho
/-- One part in new memory, as a slice. -/
theorem slP_one (w : World) (n : Nat) (d : List UInt8) (t : TypeId) (hd : d.length = 32) : SlP (w.alloc (.cells (ptC n d).toArray t (0, 0))) (.slice (some ⟨w.heap.size, 0, none⟩) 1 1) [(n, d)] := by
  refine ⟨⟨_, _, rfl, Nat.le_refl _, by omega, by simp, ?_⟩, All2.one hd⟩
  have e : psC [(n, d)] = ptC n d := by simp [psC]
  rw [e]
  refine Rc.of_some fun j u hj => ?_
  rw [Addr.add_lit, Nat.zero_add, cell_of_row _ _ _ _ _ _ (heap_alloc_new w _)]
  simpa using hj
theorem run_bP (n : Nat) (d : List UInt8) (hd : d.length = 32) (w : World) :
    (Instr.buildSlice 52 1 #[(0, pt n d)]).run Try.prog w = .ok (.slice (some ⟨w.heap.size, 0, none⟩) 1 1) (w.alloc (.cells (ptC n d).toArray 60 (0, 0))) := by
  obtain ⟨i, hi, hz0, hz1, hz2⟩ := info_parts infoP
  refine run_buildSlice w 52 60 1 _ _ i (pt 0 zer) Try.underlying52 hi hz0 (by rw [hz1]; omega) (by rw [hz1]; omega) ?_
  rw [hz1]
  rw [show (#[(0, pt n d)] : Array (Nat × Value)).toList = (([pt n d]).zipIdx 0).map fun x => (x.2, x.1) from rfl]
  rw [Great.fill_whole (s := 33) (by decide) [pt n d] _ (fun v hv => ?_) (by simp)]
  · simp [pt_cells]
  · rw [List.mem_singleton.1 hv]
    show (ptC n d).toArray.size = 33
    rw [List.size_toArray, ptC_length hd]
theorem wp_bP {o : Oper} {a : Act} {w : World} {K : Act → World → Prop} {Q : Exit → Act → World → Prop} {n : Nat} {d : List UInt8} (hd : d.length = 32) (y : Operand) (ho : o.op = .buildSlice 52 1 #[(0, y)]) (hy : a.eval y = pt n d)
    (h : K (a.put o.dst (.slice (some ⟨w.heap.size, 0, none⟩) 1 1)) (w.alloc (.cells (ptC n d).toArray 60 (0, 0)))) : o.wp Try.prog a w K Q := by
  have hr := run_bP n d hd w
  unfold Oper.wp execOp
  simp only [ho, List.map_toArray, List.map_cons, List.map_nil, hy, Sem.run_bind, hr, Result.andThen_ok]
  exact h
/-! ### The reference's range in memory -/
def RrAt (w : World) (p : Nat) (n : Nat) (v : Value) : Prop := w.heap[p]? = some (.cells #[.int .u64 (n : Int), v] 54 (0, 0))
theorem RrAt.lt {w : World} {p n : Nat} {v : Value} (h : RrAt w p n v) : p < w.heap.size := (Array.getElem?_eq_some_iff.1 h).1
theorem RrAt.below {w w' : World} {p n : Nat} {v : Value} (h : RrAt w p n v) (hb : Below w.heap.size w w') : RrAt w' p n v := (hb.block p h.lt).trans h
theorem RrAt.c0 {w : World} {p n : Nat} {v : Value} (h : RrAt w p n v) : w.cell? ⟨p, 0, none⟩ = some (.int .u64 (n : Int)) ∧ w.frozen? ⟨p, 0, none⟩ = false := ⟨cell_of_row _ _ _ _ _ _ h, frozen_of_row _ _ _ _ _ h⟩
theorem RrAt.c1 {w : World} {p n : Nat} {v : Value} (h : RrAt w p n v) : w.cell? ⟨p, 1, none⟩ = some v ∧ w.frozen? ⟨p, 1, none⟩ = false := ⟨cell_of_row _ _ _ _ _ _ h, frozen_of_row _ _ _ _ _ h⟩
theorem RrAt.set1 {w : World} {p n : Nat} {v : Value} (h : RrAt w p n v) (u : Value) : RrAt (w.setCell ⟨p, 1, none⟩ u) p n u := by
  unfold RrAt at h ⊢
  rw [heap_setCell_same w p 1 _ _ _ h]; rfl
theorem RrAt.set0 {w : World} {p n : Nat} {v : Value} (h : RrAt w p n v) (k : Nat) : RrAt (w.setCell ⟨p, 0, none⟩ (.int .u64 (k : Int))) p k v := by
  unfold RrAt at h ⊢
  rw [heap_setCell_same w p 0 _ _ _ h]; rfl
theorem RrAt.ne_own {w : World} {p n : Nat} {v : Value} (h : RrAt w p n v) {B : Nat} {u : Value} {ps : List PartL} (ho : OwP B w u ps) : u.ownBlock ≠ some p := by
  rcases ho.1.2 with ⟨e, _⟩ | ⟨g, cap, cur, e, _, hg, _⟩
  · rw [e]; simp [Value.ownBlock]
  · rw [e]
    simp only [Value.ownBlock, ne_eq, Option.some.injEq]
    rintro rfl
    rw [show w.heap[g]? = _ from h] at hg
    simp at hg
end Go.Proofs.Ytcaaeimcieooiaa
