/- What paths and proofs tell: plain Lean. -/
import Derived.Test.YtnpbapefjbfndaaZExtF
set_option linter.unusedVariables false
set_option linter.unusedSimpArgs false
set_option maxRecDepth 10000
namespace Go.Proofs.Ytnpbapefjbfndaa

/-- What is told of a part: the heads, the first pair; whether the path has as many hashes as it must. -/
structure WayL where
  old : List UInt8
  new : List UInt8
  p : Option (List UInt8 × List UInt8)
  fits : Bool
def metL (k : Nat) (o : Option (List UInt8 × List UInt8)) (told txt : List UInt8) : Option (List UInt8 × List UInt8) :=
  match o with
  | some q => some q
  | none => if mayL k told txt then some (told, txt) else none
def stepL (k : Nat) (w : WayL) (told : List UInt8) (l : List (List UInt8)) : WayL := ⟨w.old, hashL k told, metL k w.p told (textL k l), w.fits⟩
def lastL (ps : List (List UInt8)) : List UInt8 := ps.getD (ps.length - 1) []
def initL (ps : List (List UInt8)) : List (List UInt8) := ps.take (ps.length - 1)
theorem lastL_mem {ps : List (List UInt8)} (h : 0 < ps.length) : lastL ps ∈ ps := by
  unfold lastL
  have : ps.length - 1 < ps.length := by omega
  simp [this]
theorem initL_mem {ps : List (List UInt8)} {d : List UInt8} (h : d ∈ initL ps) : d ∈ ps := List.mem_of_mem_take h
theorem lastL_snoc (ps : List (List UInt8)) (d : List UInt8) : lastL (ps ++ [d]) = d := by unfold lastL; simp
theorem initL_snoc (ps : List (List UInt8)) (d : List UInt8) : initL (ps ++ [d]) = ps := by unfold initL; simp
/-- The way from a leaf, by fuel. -/
def upN (k : Nat) (b : List UInt8) : Nat → List (List UInt8) → Nat → List (List UInt8) → WayL
  | 0, _, _, _ => ⟨zer, zer, none, false⟩
  | f + 1, l, i, ps =>
    if l.length = 1 then stepL k ⟨zer, zer, none, decide (ps.length = 0)⟩ (0 :: b) l
    else if ps.length = 0 then ⟨zer, zer, none, false⟩
    else if i < kOf l.length then stepL k (upN k b f (l.take (kOf l.length)) i (initL ps)) (ndL (upN k b f (l.take (kOf l.length)) i (initL ps)).new (lastL ps)) l
    else stepL k (upN k b f (l.drop (kOf l.length)) (i - kOf l.length) (initL ps)) (ndL (lastL ps) (upN k b f (l.drop (kOf l.length)) (i - kOf l.length) (initL ps)).new) l
def includedL (k : Nat) (l : List (List UInt8)) (i : Int) (b : List UInt8) (ps : List (List UInt8)) : Option (List UInt8 × List UInt8) :=
  if i < 0 ∨ (l.length : Int) ≤ i ∨ b = l.getD i.toNat [] then none
  else if (upN k b l.length l i.toNat ps).fits = true ∧ (upN k b l.length l i.toNat ps).new = rootX k l then (upN k b l.length l i.toNat ps).p else none
/-- The way of a proof, by fuel. -/
def growN (k : Nat) (old dflt : List UInt8) (pick : List (List UInt8) → List UInt8) : Nat → List (List UInt8) → Nat → Bool → List (List UInt8) → WayL
  | 0, _, _, _, _ => ⟨dflt, dflt, none, false⟩
  | f + 1, l, m, mark, ps =>
    if m = l.length ∧ mark = true then ⟨old, old, none, decide (ps.length = 0)⟩
    else if ps.length = 0 then ⟨dflt, dflt, none, false⟩
    else if m = l.length then ⟨pick ps, pick ps, none, decide (ps.length = 1)⟩
    else if m ≤ kOf l.length then stepL k (growN k old dflt pick f (l.take (kOf l.length)) m mark (initL ps)) (ndL (growN k old dflt pick f (l.take (kOf l.length)) m mark (initL ps)).new (lastL ps)) l
    else
      { stepL k (growN k old dflt pick f (l.drop (kOf l.length)) (m - kOf l.length) false (initL ps)) (ndL (lastL ps) (growN k old dflt pick f (l.drop (kOf l.length)) (m - kOf l.length) false (initL ps)).new) l with
        old := hashL k (ndL (lastL ps) (growN k old dflt pick f (l.drop (kOf l.length)) (m - kOf l.length) false (initL ps)).old) }
def consistentL (k : Nat) (old dflt : List UInt8) (pick : List (List UInt8) → List UInt8) (l : List (List UInt8)) (m : Int) (ps : List (List UInt8)) : Option (List UInt8 × List UInt8) :=
  if m < 1 ∨ (l.length : Int) < m ∨ old = rootX k (l.take m.toNat) then none
  else if (growN k old dflt pick l.length l m.toNat true ps).fits = true ∧ (growN k old dflt pick l.length l m.toNat true ps).old = old ∧ (growN k old dflt pick l.length l m.toNat true ps).new = rootX k l then
    (growN k old dflt pick l.length l m.toNat true ps).p else none

/-- A pair that is told is one, and not too long. -/
def OkP (k m : Nat) (o : Option (List UInt8 × List UInt8)) : Prop := ∀ x y, o = some (x, y) → mayL k x y = true ∧ x.length ≤ m ∧ y.length ≤ m
theorem okP_none (k m : Nat) : OkP k m none := fun _ _ h => by cases h
theorem stepL_ok {k m : Nat} {w : WayL} {told : List UInt8} {l : List (List UInt8)} (h : OkP k m w.p) (ht : told.length ≤ m) (hl : (textL k l).length ≤ m) : OkP k m (stepL k w told l).p := by
  intro x y e
  unfold stepL metL at e
  simp only at e
  cases hp : w.p with
  | some q => rw [hp] at e; exact h x y (hp.trans e)
  | none =>
    rw [hp] at e
    simp only at e
    split at e
    · cases e; exact ⟨by assumption, ht, hl⟩
    · cases e
theorem ndL_length (a b : List UInt8) (ha : a.length = 32) (hb : b.length = 32) : (ndL a b).length = 65 := by simp [ndL, ha, hb]
theorem stepL_new (k : Nat) (w : WayL) (told : List UInt8) (l : List (List UInt8)) : (stepL k w told l).new.length = 32 := hashL_length _ _
theorem upN_ok {k m : Nat} {b : List UInt8} (hb : b.length ≤ m) : ∀ (n : Nat) (l : List (List UInt8)) (i : Nat) (ps : List (List UInt8)), l.length < 2 ^ 63 → (∀ z ∈ l, z.length ≤ m) → (∀ d ∈ ps, d.length = 32) →
    OkP k (m + 65) (upN k b n l i ps).p ∧ (upN k b n l i ps).new.length = 32
  | 0, l, i, ps, _, _, _ => ⟨okP_none _ _, rfl⟩
  | n + 1, l, i, ps, hl, hz, hp => by
    have htl := textL_length (k := k) (m := m) l hl hz
    unfold upN
    split
    · exact ⟨stepL_ok (okP_none _ _) (by simp; omega) htl, stepL_new _ _ _ _⟩
    · split
      · exact ⟨okP_none _ _, rfl⟩
      · have hlast := hp _ (lastL_mem (ps := ps) (by omega))
        have hinit : ∀ d ∈ initL ps, d.length = 32 := fun d hd => hp d (initL_mem hd)
        split
        · have ih := upN_ok (k := k) hb n (l.take (kOf l.length)) i (initL ps) (by rw [List.length_take]; omega) (fun z h => hz z (List.mem_of_mem_take h)) hinit
          exact ⟨stepL_ok ih.1 (by rw [ndL_length _ _ ih.2 hlast]; omega) htl, stepL_new _ _ _ _⟩
        · have ih := upN_ok (k := k) hb n (l.drop (kOf l.length)) (i - kOf l.length) (initL ps) (by rw [List.length_drop]; omega) (fun z h => hz z (List.mem_of_mem_drop h)) hinit
          exact ⟨stepL_ok ih.1 (by rw [ndL_length _ _ hlast ih.2]; omega) htl, stepL_new _ _ _ _⟩
theorem includedL_ok {k m : Nat} {l : List (List UInt8)} {i : Int} {b : List UInt8} {ps : List (List UInt8)} (hb : b.length ≤ m) (hl : l.length < 2 ^ 63) (hz : ∀ z ∈ l, z.length ≤ m) (hp : ∀ d ∈ ps, d.length = 32) : OkP k (m + 65) (includedL k l i b ps) := by
  unfold includedL
  split
  · exact okP_none _ _
  · split
    · exact (upN_ok hb _ l _ ps hl hz hp).1
    · exact okP_none _ _
structure OkW (k m : Nat) (w : WayL) : Prop where
  ok : OkP k m w.p
  new : w.new.length = 32
  old : w.old.length = 32
theorem growN_ok {k m : Nat} {old dflt : List UInt8} {pick : List (List UInt8) → List UInt8} (ho : old.length = 32) (hd : dflt.length = 32) (hpk : ∀ ps : List (List UInt8), 0 < ps.length → pick ps ∈ ps) :
    ∀ (n : Nat) (l : List (List UInt8)) (j : Nat) (mark : Bool) (ps : List (List UInt8)), l.length < 2 ^ 63 → (∀ z ∈ l, z.length ≤ m) → (∀ d ∈ ps, d.length = 32) → OkW k (m + 65) (growN k old dflt pick n l j mark ps)
  | 0, l, i, mark, ps, _, _, _ => ⟨okP_none _ _, hd, hd⟩
  | n + 1, l, i, mark, ps, hl, hz, hp => by
    have htl := textL_length (k := k) (m := m) l hl hz
    unfold growN
    split
    · exact ⟨okP_none _ _, ho, ho⟩
    · split
      · exact ⟨okP_none _ _, hd, hd⟩
      · have hlast := hp _ (lastL_mem (ps := ps) (by omega))
        have hinit : ∀ d ∈ initL ps, d.length = 32 := fun d hd => hp d (initL_mem hd)
        split
        · have := hp _ (hpk ps (by omega))
          exact ⟨okP_none _ _, this, this⟩
        · split
          · have ih := growN_ok (k := k) ho hd hpk n (l.take (kOf l.length)) i mark (initL ps) (by rw [List.length_take]; omega) (fun z h => hz z (List.mem_of_mem_take h)) hinit
            exact ⟨stepL_ok ih.ok (by rw [ndL_length _ _ ih.new hlast]; omega) htl, stepL_new _ _ _ _, ih.old⟩
          · have ih := growN_ok (k := k) ho hd hpk n (l.drop (kOf l.length)) (i - kOf l.length) false (initL ps) (by rw [List.length_drop]; omega) (fun z h => hz z (List.mem_of_mem_drop h)) hinit
            exact ⟨stepL_ok ih.ok (by rw [ndL_length _ _ hlast ih.new]; omega) htl, hashL_length _ _, hashL_length _ _⟩
theorem consistentL_ok {k m : Nat} {old dflt : List UInt8} {pick : List (List UInt8) → List UInt8} {l : List (List UInt8)} {j : Int} {ps : List (List UInt8)} (ho : old.length = 32) (hd : dflt.length = 32) (hpk : ∀ ps : List (List UInt8), 0 < ps.length → pick ps ∈ ps)
    (hl : l.length < 2 ^ 63) (hz : ∀ z ∈ l, z.length ≤ m) (hp : ∀ d ∈ ps, d.length = 32) : OkP k (m + 65) (consistentL k old dflt pick l j ps) := by
  unfold consistentL
  split
  · exact okP_none _ _
  · split
    · exact (growN_ok ho hd hpk _ l _ true ps hl hz hp).ok
    · exact okP_none _ _
/-- Where a proof does not fit, it does not matter what is told. -/
theorem growN_fits {k : Nat} {old d1 d2 : List UInt8} {p1 p2 : List (List UInt8) → List UInt8} (hpk : ∀ ps : List (List UInt8), ps.length = 1 → p1 ps = p2 ps) :
    ∀ (n : Nat) (l : List (List UInt8)) (j : Nat) (mark : Bool) (ps : List (List UInt8)),
      (growN k old d1 p1 n l j mark ps).fits = (growN k old d2 p2 n l j mark ps).fits ∧ ((growN k old d1 p1 n l j mark ps).fits = true → growN k old d1 p1 n l j mark ps = growN k old d2 p2 n l j mark ps)
  | 0, l, j, mark, ps => ⟨rfl, fun h => by cases h⟩
  | n + 1, l, j, mark, ps => by
    unfold growN
    by_cases h1 : j = l.length ∧ mark = true
    · rw [if_pos h1, if_pos h1]; exact ⟨rfl, fun _ => rfl⟩
    · rw [if_neg h1, if_neg h1]
      by_cases h2 : ps.length = 0
      · rw [if_pos h2, if_pos h2]; exact ⟨rfl, fun h => by cases h⟩
      · rw [if_neg h2, if_neg h2]
        by_cases h3 : j = l.length
        · rw [if_pos h3, if_pos h3]
          refine ⟨rfl, fun h => ?_⟩
          rw [hpk ps (of_decide_eq_true h)]
        · rw [if_neg h3, if_neg h3]
          by_cases h4 : j ≤ kOf l.length
          · rw [if_pos h4, if_pos h4]
            have ih := growN_fits (k := k) (old := old) (d1 := d1) (d2 := d2) hpk n (l.take (kOf l.length)) j mark (initL ps)
            exact ⟨ih.1, fun h => by rw [ih.2 h]⟩
          · rw [if_neg h4, if_neg h4]
            have ih := growN_fits (k := k) (old := old) (d1 := d1) (d2 := d2) hpk n (l.drop (kOf l.length)) (j - kOf l.length) false (initL ps)
            exact ⟨ih.1, fun h => by rw [ih.2 h]⟩
theorem consistentL_same {k : Nat} {old d1 d2 : List UInt8} {p1 p2 : List (List UInt8) → List UInt8} (hpk : ∀ ps : List (List UInt8), ps.length = 1 → p1 ps = p2 ps) (l : List (List UInt8)) (m : Int) (ps : List (List UInt8)) :
    consistentL k old d1 p1 l m ps = consistentL k old d2 p2 l m ps := by
  unfold consistentL
  have h := growN_fits (k := k) (old := old) (d1 := d1) (d2 := d2) hpk l.length l m.toNat true ps
  split
  · rfl
  · cases hf : (growN k old d1 p1 l.length l m.toNat true ps).fits with
    | false =>
      rw [← h.1, hf]; simp
    | true => rw [← h.2 hf, hf]

/-- The path of a leaf, by fuel. -/
def pathN (k : Nat) : Nat → List (List UInt8) → Nat → List (List UInt8)
  | 0, _, _ => []
  | f + 1, l, i =>
    if l.length < 2 then []
    else if i < kOf l.length then pathN k f (l.take (kOf l.length)) i ++ [rootX k (l.drop (kOf l.length))]
    else pathN k f (l.drop (kOf l.length)) (i - kOf l.length) ++ [rootX k (l.take (kOf l.length))]
def proofN (k : Nat) : Nat → List (List UInt8) → Nat → Bool → List (List UInt8)
  | 0, _, _, _ => []
  | f + 1, l, m, mark =>
    if m = l.length ∧ mark = true then []
    else if m = l.length then [rootX k l]
    else if m ≤ kOf l.length then proofN k f (l.take (kOf l.length)) m mark ++ [rootX k (l.drop (kOf l.length))]
    else proofN k f (l.drop (kOf l.length)) (m - kOf l.length) false ++ [rootX k (l.take (kOf l.length))]
theorem pathN_each (k : Nat) : ∀ (n : Nat) (l : List (List UInt8)) (i : Nat), ∀ d ∈ pathN k n l i, d.length = 32
  | 0, _, _, d, h => by cases h
  | n + 1, l, i, d, h => by
    unfold pathN at h
    split at h
    · cases h
    · split at h
      · rcases List.mem_append.1 h with h | h
        · exact pathN_each k n _ _ d h
        · rw [List.mem_singleton.1 h]; exact rootX_length _ _
      · rcases List.mem_append.1 h with h | h
        · exact pathN_each k n _ _ d h
        · rw [List.mem_singleton.1 h]; exact rootX_length _ _
theorem proofN_each (k : Nat) : ∀ (n : Nat) (l : List (List UInt8)) (i : Nat) (mark : Bool), ∀ d ∈ proofN k n l i mark, d.length = 32
  | 0, _, _, _, d, h => by cases h
  | n + 1, l, i, mark, d, h => by
    unfold proofN at h
    split at h
    · cases h
    · split at h
      · rw [List.mem_singleton.1 h]; exact rootX_length _ _
      · split at h
        · rcases List.mem_append.1 h with h | h
          · exact proofN_each k n _ _ _ d h
          · rw [List.mem_singleton.1 h]; exact rootX_length _ _
        · rcases List.mem_append.1 h with h | h
          · exact proofN_each k n _ _ _ d h
          · rw [List.mem_singleton.1 h]; exact rootX_length _ _
theorem pathN_length (k : Nat) : ∀ (n : Nat) (l : List (List UInt8)) (i : Nat), (pathN k n l i).length ≤ n
  | 0, _, _ => Nat.le_refl _
  | n + 1, l, i => by
    unfold pathN
    split
    · simp
    · split
      · have := pathN_length k n (l.take (kOf l.length)) i; simp; omega
      · have := pathN_length k n (l.drop (kOf l.length)) (i - kOf l.length); simp; omega
theorem proofN_length (k : Nat) : ∀ (n : Nat) (l : List (List UInt8)) (i : Nat) (mark : Bool), (proofN k n l i mark).length ≤ n
  | 0, _, _, _ => Nat.le_refl _
  | n + 1, l, i, mark => by
    unfold proofN
    split
    · simp
    · split
      · simp
      · split
        · have := proofN_length k n (l.take (kOf l.length)) i mark; simp; omega
        · have := proofN_length k n (l.drop (kOf l.length)) (i - kOf l.length) false; simp; omega
/-- Along a leaf's own path, a leaf of the same hash leads to the head, and an unlike one is told. -/
theorem upN_path {k : Nat} {b : List UInt8} : ∀ (n : Nat) (l : List (List UInt8)) (i : Nat), l.length ≤ n → n < 2 ^ 63 → i < l.length → hashL k (0 :: b) = hashL k (0 :: l.getD i []) →
    (upN k b n l i (pathN k n l i)).fits = true ∧ (upN k b n l i (pathN k n l i)).new = rootX k l ∧ (b ≠ l.getD i [] → (upN k b n l i (pathN k n l i)).p.isSome = true)
  | 0, l, i, hl, _, hi, _ => by omega
  | n + 1, l, i, hl, hn, hi, hh => by
    unfold upN pathN
    by_cases h1 : l.length = 1
    · rw [if_pos h1, if_pos (by omega)]
      obtain ⟨x, rfl⟩ : ∃ x, l = [x] := by
        match l, h1 with
        | [x], _ => exact ⟨x, rfl⟩
      have : i = 0 := by simp at hi; omega
      subst this
      simp only [List.getD_cons_zero] at hh ⊢
      refine ⟨rfl, hh, fun hne => ?_⟩
      show (metL k none (0 :: b) (textL k [x])).isSome = true
      rw [textL_one]
      have : mayL k (0 :: b) (0 :: x) = true := by unfold mayL; rw [hh]; simp [hne]
      unfold metL; simp [this]
    · have hk := kOf_lt (n := l.length) (by omega) (by omega)
      have hr : rootX k l = hashL k (ndL (rootX k (l.take (kOf l.length))) (rootX k (l.drop (kOf l.length)))) := by
        conv => lhs; unfold rootX
        rw [textL_two (by omega) (by omega)]
      rw [if_neg h1, if_neg (show ¬ l.length < 2 by omega)]
      by_cases h2 : i < kOf l.length
      · rw [if_pos h2, if_pos h2, if_neg (by simp), lastL_snoc, initL_snoc]
        have e : (l.take (kOf l.length)).getD i [] = l.getD i [] := by
          rw [List.getD_eq_getElem?_getD, List.getD_eq_getElem?_getD, List.getElem?_take, if_pos h2]
        obtain ⟨ih1, ih2, ih3⟩ := upN_path n (l.take (kOf l.length)) i (by rw [List.length_take]; omega) (by omega) (by rw [List.length_take]; omega) (e.symm ▸ hh)
        refine ⟨ih1, ?_, fun hne => ?_⟩
        · show hashL k (ndL _ _) = _
          rw [ih2, hr]
        · have := ih3 (e.symm ▸ hne)
          obtain ⟨q, hq⟩ := Option.isSome_iff_exists.1 this
          show (metL k _ _ _).isSome = true
          rw [hq]; rfl
      · rw [if_neg h2, if_neg h2, if_neg (by simp), lastL_snoc, initL_snoc]
        have e : (l.drop (kOf l.length)).getD (i - kOf l.length) [] = l.getD i [] := by
          rw [List.getD_eq_getElem?_getD, List.getD_eq_getElem?_getD, List.getElem?_drop, show kOf l.length + (i - kOf l.length) = i by omega]
        obtain ⟨ih1, ih2, ih3⟩ := upN_path n (l.drop (kOf l.length)) (i - kOf l.length) (by rw [List.length_drop]; omega) (by omega) (by rw [List.length_drop]; omega) (e.symm ▸ hh)
        refine ⟨ih1, ?_, fun hne => ?_⟩
        · show hashL k (ndL _ _) = _
          rw [ih2, hr]
        · have := ih3 (e.symm ▸ hne)
          obtain ⟨q, hq⟩ := Option.isSome_iff_exists.1 this
          show (metL k _ _ _).isSome = true
          rw [hq]; rfl
end Go.Proofs.Ytnpbapefjbfndaa
