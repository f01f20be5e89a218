/- Hashes of which the first bits are kept, trees over them: plain Lean. What two lists with one head tell: plain Lean. -/
import Derived.Test.YtnpbapefjbfndaaZXb
set_option linter.unusedVariables false
set_option linter.unusedSimpArgs false
namespace Go.Proofs.Ytnpbapefjbfndaa

/-- The bits from lo on (below i) are struck. -/
def mkN (d : List UInt8) (lo : Nat) : Nat → List UInt8
  | 0 => d
  | i + 1 => if i < lo then mkN d lo i else (mkN d lo i).set (i / 8) ((mkN d lo i).getD (i / 8) 0 &&& ~~~(128 >>> UInt8.ofNat (i % 8)))
theorem mkN_length (d : List UInt8) (lo : Nat) : ∀ i, (mkN d lo i).length = d.length
  | 0 => rfl
  | i + 1 => by unfold mkN; split <;> simp [mkN_length d lo i]
theorem mkN_lo (d : List UInt8) (lo : Nat) : ∀ i, i ≤ lo → mkN d lo i = d
  | 0, _ => rfl
  | i + 1, h => by unfold mkN; rw [if_pos (by omega), mkN_lo d lo i (by omega)]
def hashL (k : Nat) (b : List UInt8) : List UInt8 := mkN (sha b) k 256
theorem hashL_length (k : Nat) (b : List UInt8) : (hashL k b).length = 32 := by unfold hashL; rw [mkN_length]; exact sha_length _
def ndL (a b : List UInt8) : List UInt8 := 1 :: (a ++ b)
/-- The text of a list, by fuel. -/
def textN (k : Nat) : Nat → List (List UInt8) → List UInt8
  | 0, _ => []
  | f + 1, l => if l.length = 0 then [] else if l.length = 1 then 0 :: l.headD [] else ndL (hashL k (textN k f (l.take (kOf l.length)))) (hashL k (textN k f (l.drop (kOf l.length))))
def textL (k : Nat) (l : List (List UInt8)) : List UInt8 := textN k l.length l
def rootX (k : Nat) (l : List (List UInt8)) : List UInt8 := hashL k (textL k l)
theorem textN_eq (k : Nat) : ∀ (n f g : Nat) (l : List (List UInt8)), l.length ≤ n → n < 2 ^ 63 → n ≤ f → n ≤ g → textN k f l = textN k g l
  | 0, f, g, l, hl, _, _, _ => by
    have : l = [] := List.eq_nil_of_length_eq_zero (by omega)
    subst this
    cases f <;> cases g <;> simp [textN]
  | n + 1, f, g, l, hl, hn, hf, hg => by
    obtain ⟨f', rfl⟩ : ∃ f', f = f' + 1 := ⟨f - 1, by omega⟩
    obtain ⟨g', rfl⟩ : ∃ g', g = g' + 1 := ⟨g - 1, by omega⟩
    unfold textN
    split
    · rfl
    · split
      · rfl
      · have hk := kOf_lt (n := l.length) (by omega) (by omega)
        rw [textN_eq k n f' g' (l.take _) (by rw [List.length_take]; omega) (by omega) (by omega) (by omega), textN_eq k n f' g' (l.drop _) (by rw [List.length_drop]; omega) (by omega) (by omega) (by omega)]
theorem textL_nil (k : Nat) : textL k [] = [] := rfl
theorem textL_one (k : Nat) (x : List UInt8) : textL k [x] = 0 :: x := rfl
theorem textL_two {k : Nat} {l : List (List UInt8)} (h : 2 ≤ l.length) (hn : l.length < 2 ^ 63) : textL k l = ndL (rootX k (l.take (kOf l.length))) (rootX k (l.drop (kOf l.length))) := by
  have hk := kOf_lt h hn
  unfold rootX textL
  obtain ⟨n, hl⟩ : ∃ n, l.length = n + 1 := ⟨l.length - 1, by omega⟩
  rw [show textN k l.length l = textN k (n + 1) l by rw [hl]]
  conv => lhs; unfold textN
  rw [if_neg (by omega), if_neg (by omega)]
  rw [textN_eq k n n _ (l.take _) (by rw [List.length_take]; omega) (by omega) (Nat.le_refl _) (show n ≤ n from Nat.le_refl _), textN_eq k n n _ (l.drop _) (by rw [List.length_drop]; omega) (by omega) (Nat.le_refl _) (show n ≤ n from Nat.le_refl _)]
  rw [textN_eq k _ (l.take (kOf l.length)).length n (l.take _) (Nat.le_refl _) (by rw [List.length_take]; omega) (Nat.le_refl _) (by rw [List.length_take]; omega), textN_eq k _ (l.drop (kOf l.length)).length n (l.drop _) (Nat.le_refl _) (by rw [List.length_drop]; omega) (Nat.le_refl _) (by rw [List.length_drop]; omega)]
theorem rootX_length (k : Nat) (l : List (List UInt8)) : (rootX k l).length = 32 := hashL_length _ _
/-- How long the text of a list may be. -/
theorem textL_length {k m : Nat} : ∀ (l : List (List UInt8)), l.length < 2 ^ 63 → (∀ x ∈ l, x.length ≤ m) → (textL k l).length ≤ m + 65
  | [], _, _ => by rw [textL_nil]; simp
  | [x], _, h => by rw [textL_one]; have := h x (by simp); simp; omega
  | x :: y :: r, hn, _ => by
    rw [textL_two (by simp) hn]
    unfold ndL
    simp [rootX_length]
end Go.Proofs.Ytnpbapefjbfndaa
set_option linter.unusedVariables false
set_option linter.unusedSimpArgs false
namespace Go.Proofs.Ytnpbapefjbfndaa

/-- Two unlike lists with one text: both have two leaves or more, and their halves have the same heads. -/
theorem text_both {k : Nat} {a b : List (List UInt8)} (h : a ≠ b) (ha : a.length < 2 ^ 63) (hb : b.length < 2 ^ 63) (e : textL k a = textL k b) :
    2 ≤ a.length ∧ 2 ≤ b.length ∧ rootX k (a.take (kOf a.length)) = rootX k (b.take (kOf b.length)) ∧ rootX k (a.drop (kOf a.length)) = rootX k (b.drop (kOf b.length)) := by
  by_cases h1 : 2 ≤ a.length
  · by_cases h2 : 2 ≤ b.length
    · rw [textL_two h1 ha, textL_two h2 hb] at e
      unfold ndL at e
      have e2 := (List.cons.inj e).2
      have e3 := List.append_inj e2 (by rw [rootX_length, rootX_length])
      exact ⟨h1, h2, e3.1, e3.2⟩
    · exfalso
      rw [textL_two h1 ha] at e
      match b, h2 with
      | [], _ => rw [textL_nil] at e; exact absurd e (by unfold ndL; simp)
      | [y], _ => rw [textL_one] at e; unfold ndL at e; exact absurd (List.cons.inj e).1 (by decide)
      | _ :: _ :: _, h2 => exact h2 (by simp)
  · exfalso
    match a, h1 with
    | [], _ =>
      rw [textL_nil] at e
      match b, h with
      | [], h => exact h rfl
      | [y], _ => rw [textL_one] at e; exact absurd e (by simp)
      | x :: y :: r, _ => rw [textL_two (by simp) hb] at e; exact absurd e (by unfold ndL; simp)
    | [x], _ =>
      rw [textL_one] at e
      match b, h with
      | [], h => rw [textL_nil] at e; exact absurd e (by simp)
      | [y], h => rw [textL_one] at e; exact h (by rw [(List.cons.inj e).2])
      | u :: v :: r, _ => rw [textL_two (by simp) hb] at e; unfold ndL at e; exact absurd (List.cons.inj e).1 (by decide)
    | _ :: _ :: _, h1 => exact h1 (by simp)
/-- What two lists tell, by fuel. -/
def listsN (k : Nat) : Nat → List (List UInt8) → List (List UInt8) → Option (List UInt8 × List UInt8)
  | 0, _, _ => none
  | f + 1, a, b =>
    if a = b ∨ rootX k a ≠ rootX k b then none
    else if textL k a ≠ textL k b then some (textL k a, textL k b)
    else if a.take (kOf a.length) ≠ b.take (kOf b.length) then listsN k f (a.take (kOf a.length)) (b.take (kOf b.length))
    else listsN k f (a.drop (kOf a.length)) (b.drop (kOf b.length))
def listsL (k : Nat) (a b : List (List UInt8)) : Option (List UInt8 × List UInt8) := listsN k (a.length + 1) a b
theorem listsN_eq (k : Nat) : ∀ (n f g : Nat) (a b : List (List UInt8)), a.length ≤ n → a.length < 2 ^ 63 → b.length < 2 ^ 63 → n < f → n < g → listsN k f a b = listsN k g a b
  | n, f, g, a, b, hl, ha, hb, hf, hg => by
    obtain ⟨f', rfl⟩ : ∃ f', f = f' + 1 := ⟨f - 1, by omega⟩
    obtain ⟨g', rfl⟩ : ∃ g', g = g' + 1 := ⟨g - 1, by omega⟩
    unfold listsN
    split
    · rfl
    · split
      · rfl
      · rename_i h1 h2
        have h1' : a ≠ b := fun e => h1 (Or.inl e)
        have h2' : textL k a = textL k b := Decidable.not_not.1 h2
        obtain ⟨ka, kb, _, _⟩ := text_both h1' ha hb h2'
        have la := kOf_lt ka ha
        match n, hl, hf, hg with
        | 0, hl, _, _ => omega
        | n + 1, hl, hf, hg =>
          rw [listsN_eq k n f' g' (a.take _) (b.take _) (by rw [List.length_take]; omega) (by rw [List.length_take]; omega) (by rw [List.length_take]; omega) (by omega) (by omega),
            listsN_eq k n f' g' (a.drop _) (b.drop _) (by rw [List.length_drop]; omega) (by rw [List.length_drop]; omega) (by rw [List.length_drop]; omega) (by omega) (by omega)]
theorem listsL_none {k : Nat} {a b : List (List UInt8)} (h : a = b ∨ rootX k a ≠ rootX k b) : listsL k a b = none := by
  unfold listsL listsN; rw [if_pos h]
theorem listsL_some {k : Nat} {a b : List (List UInt8)} (h : ¬ (a = b ∨ rootX k a ≠ rootX k b)) (e : textL k a ≠ textL k b) : listsL k a b = some (textL k a, textL k b) := by
  unfold listsL listsN; rw [if_neg h, if_pos e]
theorem listsL_left {k : Nat} {a b : List (List UInt8)} (h : ¬ (a = b ∨ rootX k a ≠ rootX k b)) (e : textL k a = textL k b) (ha : a.length < 2 ^ 63) (hb : b.length < 2 ^ 63) (hd : a.take (kOf a.length) ≠ b.take (kOf b.length)) :
    listsL k a b = listsL k (a.take (kOf a.length)) (b.take (kOf b.length)) := by
  have la := kOf_lt (text_both (fun e => h (Or.inl e)) ha hb e).1 ha
  conv => lhs; unfold listsL listsN
  rw [if_neg h, if_neg (by simp [e]), if_pos hd]
  exact listsN_eq k _ _ _ _ _ (Nat.le_refl _) (by rw [List.length_take]; omega) (by rw [List.length_take]; omega) (by rw [List.length_take]; omega) (by omega)
theorem listsL_right {k : Nat} {a b : List (List UInt8)} (h : ¬ (a = b ∨ rootX k a ≠ rootX k b)) (e : textL k a = textL k b) (ha : a.length < 2 ^ 63) (hb : b.length < 2 ^ 63) (hd : a.take (kOf a.length) = b.take (kOf b.length)) :
    listsL k a b = listsL k (a.drop (kOf a.length)) (b.drop (kOf b.length)) := by
  have la := kOf_lt (text_both (fun e => h (Or.inl e)) ha hb e).1 ha
  conv => lhs; unfold listsL listsN
  rw [if_neg h, if_neg (by simp [e]), if_neg (by simp [hd])]
  exact listsN_eq k _ _ _ _ _ (Nat.le_refl _) (by rw [List.length_drop]; omega) (by rw [List.length_drop]; omega) (by rw [List.length_drop]; omega) (by omega)
/-- The same stands of the halves that are looked at next. -/
theorem next_left {k : Nat} {a b : List (List UInt8)} (h : ¬ (a = b ∨ rootX k a ≠ rootX k b)) (e : textL k a = textL k b) (ha : a.length < 2 ^ 63) (hb : b.length < 2 ^ 63) (hd : a.take (kOf a.length) ≠ b.take (kOf b.length)) :
    ¬ (a.take (kOf a.length) = b.take (kOf b.length) ∨ rootX k (a.take (kOf a.length)) ≠ rootX k (b.take (kOf b.length))) := by
  obtain ⟨_, _, r1, _⟩ := text_both (fun e => h (Or.inl e)) ha hb e
  simp [r1, hd]
theorem next_right {k : Nat} {a b : List (List UInt8)} (h : ¬ (a = b ∨ rootX k a ≠ rootX k b)) (e : textL k a = textL k b) (ha : a.length < 2 ^ 63) (hb : b.length < 2 ^ 63) (hd : a.take (kOf a.length) = b.take (kOf b.length)) :
    ¬ (a.drop (kOf a.length) = b.drop (kOf b.length) ∨ rootX k (a.drop (kOf a.length)) ≠ rootX k (b.drop (kOf b.length))) := by
  obtain ⟨_, _, _, r2⟩ := text_both (fun e => h (Or.inl e)) ha hb e
  intro hc
  rcases hc with hc | hc
  · exact h (Or.inl (by rw [← List.take_append_drop (kOf a.length) a, ← List.take_append_drop (kOf b.length) b, hd, hc]))
  · exact hc r2
end Go.Proofs.Ytnpbapefjbfndaa
