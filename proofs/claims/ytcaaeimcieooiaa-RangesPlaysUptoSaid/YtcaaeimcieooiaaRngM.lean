/- Ranges: plain Lean. -/
import Derived.Test.YtcaaeimcieooiaaMerM
set_option linter.unusedVariables false
set_option linter.unusedSimpArgs false
namespace Go.Proofs.Ytcaaeimcieooiaa

/-- How many bits are set, by fuel. -/
def popN : Nat → Nat → Nat
  | 0, _ => 0
  | f + 1, n => n % 2 + popN f (n / 2)
/-- The sizes of the whole parts, the greatest first: s is the scale of the lowest bit. -/
def lowN : Nat → Nat → Nat → List Nat
  | 0, _, _ => []
  | f + 1, s, n => lowN f (2 * s) (n / 2) ++ (if n % 2 = 1 then [s] else [])
theorem lowN_length : ∀ (f s n : Nat), (lowN f s n).length = popN f n
  | 0, _, _ => rfl
  | f + 1, s, n => by
    unfold lowN popN
    rw [List.length_append, lowN_length f]
    split <;> simp <;> omega
theorem lowN_ge : ∀ (f s n : Nat), ∀ y ∈ lowN f s n, s ≤ y
  | 0, _, _, y, h => by cases h
  | f + 1, s, n, y, h => by
    unfold lowN at h
    rcases List.mem_append.1 h with h | h
    · have := lowN_ge f (2 * s) (n / 2) y h; omega
    · split at h
      · rw [List.mem_singleton.1 h]; exact Nat.le_refl _
      · cases h
theorem lowN_zero : ∀ (f s : Nat), lowN f s 0 = []
  | 0, _ => rfl
  | f + 1, s => by unfold lowN; rw [Nat.zero_div, lowN_zero f]; rfl
theorem lowN_fuel : ∀ (f s n : Nat), n < 2 ^ f → lowN (f + 1) s n = lowN f s n
  | 0, s, n, h => by
    obtain rfl : n = 0 := by simpa using h
    rw [lowN_zero, lowN_zero]
  | f + 1, s, n, h => by
    have h2 : n / 2 < 2 ^ f := by rw [Nat.pow_succ] at h; omega
    conv => lhs; unfold lowN
    conv => rhs; unfold lowN
    rw [lowN_fuel f (2 * s) (n / 2) h2]
/-- The way of Add: n's low bits that are set are taken away, each with the last peak. -/
def addN : Nat → Nat → List (List UInt8) → List UInt8 → List (List UInt8) → List (List UInt8) × List UInt8 × List (List UInt8)
  | 0, _, ds, x, made => (ds, x, made)
  | f + 1, n, ds, x, made => if n % 2 = 1 then addN f (n / 2) (ds.take (ds.length - 1)) (nodeL (ds.getD (ds.length - 1) []) x) (made ++ [nodeL (ds.getD (ds.length - 1) []) x]) else (ds, x, made)
abbrev PartL := Nat × List UInt8
/-- The reference's way: as long as the last two parts are of one size they are put together. -/
def mergeN : Nat → List PartL → List (List UInt8) → List PartL × List (List UInt8)
  | 0, ps, told => (ps, told)
  | f + 1, ps, told =>
    if 2 ≤ ps.length ∧ (ps.getD (ps.length - 1) (0, [])).1 = (ps.getD (ps.length - 2) (0, [])).1 then
      mergeN f (ps.take (ps.length - 2) ++ [((ps.getD (ps.length - 2) (0, [])).1 + (ps.getD (ps.length - 1) (0, [])).1, nodeL (ps.getD (ps.length - 2) (0, [])).2 (ps.getD (ps.length - 1) (0, [])).2)])
        (told ++ [nodeL (ps.getD (ps.length - 2) (0, [])).2 (ps.getD (ps.length - 1) (0, [])).2])
    else (ps, told)
theorem mergeN_two (f : Nat) (ps : List PartL) (s : Nat) (d x : List UInt8) (told : List (List UInt8)) :
    mergeN (f + 1) (ps ++ [(s, d)] ++ [(s, x)]) told = mergeN f (ps ++ [(s + s, nodeL d x)]) (told ++ [nodeL d x]) := by
  have hl : (ps ++ [(s, d)] ++ [(s, x)]).length = ps.length + 2 := by simp
  have h1 : (ps ++ [(s, d)] ++ [(s, x)]).getD (ps.length + 2 - 1) (0, []) = (s, x) := by simp [List.getD]
  have h2 : (ps ++ [(s, d)] ++ [(s, x)]).getD (ps.length + 2 - 2) (0, []) = (s, d) := by simp [List.getD, List.getElem?_append]
  have h3 : (ps ++ [(s, d)] ++ [(s, x)]).take (ps.length + 2 - 2) = ps := by simp [List.take_append]
  conv => lhs; unfold mergeN
  rw [hl, h1, h2, h3, if_pos ⟨by omega, rfl⟩]
theorem mergeN_stop (f : Nat) (ps : List PartL) (s : Nat) (x : List UInt8) (told : List (List UInt8)) (h : ∀ p ∈ ps, s < p.1) : mergeN f (ps ++ [(s, x)]) told = (ps ++ [(s, x)], told) := by
  cases f with
  | zero => rfl
  | succ f =>
    unfold mergeN
    rw [if_neg]
    rintro ⟨h1, h2⟩
    have hl : (ps ++ [(s, x)]).length = ps.length + 1 := by simp
    rw [hl] at h1 h2
    have h3 : (ps ++ [(s, x)]).getD (ps.length + 1 - 1) (0, []) = (s, x) := by simp [List.getD]
    rw [h3] at h2
    rw [show ps.length + 1 - 2 = ps.length - 1 by omega] at h2
    have hp : ps.length - 1 < ps.length := by omega
    have h4 : (ps ++ [(s, x)]).getD (ps.length - 1) (0, []) = ps[ps.length - 1] := by simp [List.getD, List.getElem?_append, hp]
    rw [h4] at h2
    have := h _ (List.getElem_mem hp)
    simp only at h2
    omega
/-- THE TWO WAYS ARE ONE. -/
theorem merge_add : ∀ (f g s n : Nat) (ds : List (List UInt8)) (x : List UInt8) (told : List (List UInt8)), 0 < s → n < 2 ^ f → f < g → ds.length = popN f n →
    mergeN g ((lowN f s n).zip ds ++ [(s, x)]) told = ((lowN (f + 1) s (n + 1)).zip ((addN f n ds x told).1 ++ [(addN f n ds x told).2.1]), (addN f n ds x told).2.2)
  | 0, g, s, n, ds, x, told, hs, hn, hg, hd => by
    obtain rfl : n = 0 := by simpa using hn
    obtain rfl : ds = [] := List.eq_nil_of_length_eq_zero hd
    rw [mergeN_stop _ _ _ _ _ (by simp [lowN])]
    simp [lowN, addN]
  | f + 1, g, s, n, ds, x, told, hs, hn, hg, hd => by
    have h2 : n / 2 < 2 ^ f := by rw [Nat.pow_succ] at hn; omega
    by_cases ho : n % 2 = 1
    · obtain ⟨g', rfl⟩ : ∃ g', g = g' + 1 := ⟨g - 1, by omega⟩
      have hpop : popN (f + 1) n = 1 + popN f (n / 2) := by
        conv => lhs; unfold popN
        rw [ho]
      rw [hpop] at hd
      obtain ⟨d0, d, rfl⟩ : ∃ d0 d, ds = d0 ++ [d] := ⟨ds.dropLast, ds.getLast (by intro h; rw [h] at hd; simp at hd; omega), (List.dropLast_concat_getLast _).symm⟩
      have hd0 : d0.length = popN f (n / 2) := by simp at hd; omega
      have hz : (lowN (f + 1) s n).zip (d0 ++ [d]) = (lowN f (2 * s) (n / 2)).zip d0 ++ [(s, d)] := by
        conv => lhs; unfold lowN
        rw [if_pos ho, List.zip_append (by rw [lowN_length, hd0])]; rfl
      rw [hz, mergeN_two, show s + s = 2 * s by omega, merge_add f g' (2 * s) (n / 2) d0 (nodeL d x) (told ++ [nodeL d x]) (by omega) h2 (by omega) hd0]
      have ha : addN (f + 1) n (d0 ++ [d]) x told = addN f (n / 2) d0 (nodeL d x) (told ++ [nodeL d x]) := by
        conv => lhs; unfold addN
        rw [if_pos ho]; simp [List.getD]
      have hl : lowN (f + 1 + 1) s (n + 1) = lowN (f + 1) (2 * s) (n / 2 + 1) := by
        conv => lhs; unfold lowN
        rw [if_neg (by omega), show (n + 1) / 2 = n / 2 + 1 by omega, List.append_nil]
      rw [ha, hl]
    · have he : n % 2 = 0 := by omega
      have hz : lowN (f + 1) s n = lowN f (2 * s) (n / 2) := by
        conv => lhs; unfold lowN
        rw [if_neg ho, List.append_nil]
      have ha : addN (f + 1) n ds x told = (ds, x, told) := by unfold addN; rw [if_neg ho]
      have hd0 : ds.length = popN f (n / 2) := by rw [hd]; conv => lhs; unfold popN
                                                  rw [he, Nat.zero_add]
      rw [mergeN_stop _ _ _ _ _ fun p hp => by
        have := lowN_ge _ _ _ _ (List.of_mem_zip hp).1
        rw [hz] at hp
        have := lowN_ge _ _ _ _ (List.of_mem_zip hp).1
        omega]
      rw [ha, hz]
      have hl : lowN (f + 1 + 1) s (n + 1) = lowN f (2 * s) (n / 2) ++ [s] := by
        conv => lhs; unfold lowN
        rw [if_pos (by omega), show (n + 1) / 2 = n / 2 by omega, lowN_fuel f (2 * s) (n / 2) h2]
      rw [hl, List.zip_append (by rw [lowN_length, hd0])]; rfl
/-- As many peaks as bits are set, behind an Add as ahead of it. -/
theorem add_pop : ∀ (f n : Nat) (ds : List (List UInt8)) (x : List UInt8) (told : List (List UInt8)), n < 2 ^ f → ds.length = popN f n → (addN f n ds x told).1.length + 1 = popN (f + 1) (n + 1)
  | 0, n, ds, x, told, hn, hd => by
    obtain rfl : n = 0 := by simpa using hn
    obtain rfl : ds = [] := List.eq_nil_of_length_eq_zero hd
    simp [addN, popN]
  | f + 1, n, ds, x, told, hn, hd => by
    have h2 : n / 2 < 2 ^ f := by rw [Nat.pow_succ] at hn; omega
    by_cases ho : n % 2 = 1
    · have hpop : popN (f + 1) n = 1 + popN f (n / 2) := by
        conv => lhs; unfold popN
        rw [ho]
      rw [hpop] at hd
      have ih := add_pop f (n / 2) (ds.take (ds.length - 1)) (nodeL (ds.getD (ds.length - 1) []) x) (told ++ [nodeL (ds.getD (ds.length - 1) []) x]) h2 (by rw [List.length_take]; omega)
      have hp2 : popN (f + 1 + 1) (n + 1) = popN (f + 1) (n / 2 + 1) := by
        conv => lhs; unfold popN
        rw [show (n + 1) % 2 = 0 by omega, show (n + 1) / 2 = n / 2 + 1 by omega, Nat.zero_add]
      rw [hp2, ← ih]
      conv => lhs; unfold addN
      rw [if_pos ho]
    · have hp2 : popN (f + 1 + 1) (n + 1) = 1 + popN (f + 1) (n / 2) := by
        conv => lhs; unfold popN
        rw [show (n + 1) % 2 = 1 by omega, show (n + 1) / 2 = n / 2 by omega]
      have hp3 : popN (f + 1) (n / 2) = popN f (n / 2) := by rw [← lowN_length (f + 1) 1, ← lowN_length f 1, lowN_fuel f 1 (n / 2) h2]
      have hp4 : popN (f + 1) n = popN f (n / 2) := by
        conv => lhs; unfold popN
        rw [show n % 2 = 0 by omega, Nat.zero_add]
      rw [hp2, hp3, ← hp4, ← hd]
      unfold addN
      rw [if_neg ho]; simp; omega
/-- The head over the peaks: from behind. -/
def headL (ds : List (List UInt8)) : List UInt8 := if ds.length = 0 then sha [] else (ds.take (ds.length - 1)).foldr nodeL (ds.getD (ds.length - 1) [])
theorem addN_all : ∀ (f n : Nat) (ds : List (List UInt8)) (x : List UInt8) (told : List (List UInt8)), (∀ d ∈ ds, d.length = 32) → x.length = 32 → (∀ d ∈ told, d.length = 32) →
    (∀ d ∈ (addN f n ds x told).1, d.length = 32) ∧ (addN f n ds x told).2.1.length = 32 ∧ ∀ d ∈ (addN f n ds x told).2.2, d.length = 32
  | 0, n, ds, x, told, h1, h2, h3 => ⟨h1, h2, h3⟩
  | f + 1, n, ds, x, told, h1, h2, h3 => by
    unfold addN
    split
    · refine addN_all f (n / 2) _ _ _ (fun d hd => h1 d (List.mem_of_mem_take hd)) (nodeL_length _ _) (fun d hd => ?_)
      rcases List.mem_append.1 hd with hd | hd
      · exact h3 d hd
      · rw [List.mem_singleton.1 hd]; exact nodeL_length _ _
    · exact ⟨h1, h2, h3⟩
end Go.Proofs.Ytcaaeimcieooiaa
