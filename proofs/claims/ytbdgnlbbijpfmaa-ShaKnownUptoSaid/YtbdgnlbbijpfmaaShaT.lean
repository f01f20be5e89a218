/- Digits of a hash, in plain Lean, and small laws of tables. -/
import Derived.Test.YtbdgnlbbijpfmaaShaM
set_option linter.unusedVariables false
set_option linter.unusedSimpArgs false
namespace Go.Proofs.Ytbdgnlbbijpfmaa

/-- A table. -/
def tab (n : Nat) (f : Nat → UInt8) : List UInt8 := (List.range n).map f
theorem tab_length (n : Nat) (f : Nat → UInt8) : (tab n f).length = n := by simp [tab]
theorem tab_get (n : Nat) (f : Nat → UInt8) {k : Nat} (h : k < n) : (tab n f).getD k 0 = f k := by simp [tab, h]
theorem tab_set (n : Nat) (f g : Nat → UInt8) (k : Nat) (h : ∀ j, j < n → g j = if j = k then g k else f j) (hk : k < n) : (tab n f).set k (g k) = tab n g := by
  apply List.ext_getElem
  · simp [tab]
  · intro i h1 h2
    have hi : i < n := by simpa [tab] using h2
    rw [List.getElem_set]
    simp only [tab, List.getElem_map, List.getElem_range]
    rw [h i hi]
    by_cases e : k = i
    · simp [e]
    · rw [if_neg e, if_neg (fun e' => e e'.symm)]
theorem tab_congr (n : Nat) (f g : Nat → UInt8) (h : ∀ j, j < n → f j = g j) : tab n f = tab n g := by
  apply List.map_congr_left
  intro j hj; exact h j (by simpa using hj)
theorem tab_const (n : Nat) : tab n (fun _ => 0) = List.replicate n 0 := by unfold tab; rw [List.map_const', List.length_range]
theorem tab_self (xs : List UInt8) : tab xs.length (fun i => xs.getD i 0) = xs := by
  apply List.ext_getElem
  · simp [tab]
  · intro i h1 h2; simp [tab, h2]
theorem tab_take (n k : Nat) (f : Nat → UInt8) (h : k ≤ n) : (tab n f).take k = tab k f := by
  simp [tab, ← List.map_take, List.take_range, Nat.min_eq_left h]
theorem tab_succ (n : Nat) (f : Nat → UInt8) : tab (n + 1) f = tab n f ++ [f n] := by simp [tab, List.range_succ]

/-- The digit of a number below 16. -/
def digN (k : Nat) : UInt8 := UInt8.ofNat (if k < 10 then 48 + k else 87 + k)
/-- A digit's number; 16: none. -/
def hexVal (c : UInt8) : Nat := if 48 ≤ c.toNat ∧ c.toNat ≤ 57 then c.toNat - 48 else if 97 ≤ c.toNat ∧ c.toNat ≤ 102 then c.toNat - 87 else 16
theorem hexVal_le (c : UInt8) : hexVal c ≤ 16 := by unfold hexVal; split <;> (try split) <;> omega
theorem digN_toNat (k : Nat) (h : k < 16) : (digN k).toNat = if k < 10 then 48 + k else 87 + k := by
  unfold digN; rw [UInt8.toNat_ofNat']; split <;> omega
theorem digN_iff (c : UInt8) (k : Nat) (h : k < 16) : c = digN k ↔ hexVal c = k := by
  have hc := c.toNat_lt
  rw [← UInt8.toNat_inj, digN_toNat k h]
  unfold hexVal
  split <;> split <;> (try split) <;> omega
theorem hexVal_dig (k : Nat) (h : k < 16) : hexVal (digN k) = k := (digN_iff _ k h).1 rfl
theorem digN_ascii (k : Nat) (h : k < 16) : (digN k).toNat < 128 := by rw [digN_toNat k h]; split <;> omega
theorem hexVal_ascii (c : UInt8) (h : hexVal c < 16) : c.toNat < 128 := by
  unfold hexVal at h; split at h <;> (try split at h) <;> omega

/-- The two numbers of a byte. -/
def nibN (d : List UInt8) (j : Nat) : Nat := if j % 2 = 0 then (d.getD (j / 2) 0).toNat / 16 else (d.getD (j / 2) 0).toNat % 16
theorem nibN_lt (d : List UInt8) (j : Nat) : nibN d j < 16 := by
  have := (d.getD (j / 2) 0).toNat_lt
  unfold nibN; split <;> omega
def hexAt (d : List UInt8) (n j : Nat) : UInt8 := if j < n then digN (nibN d j) else 0
/-- A hash's digits. -/
def hexL (d : List UInt8) : List UInt8 := tab 64 (hexAt d 64)
theorem hexL_length (d : List UInt8) : (hexL d).length = 64 := tab_length _ _

/-- Byte k behind n digits. -/
def uN (s : List UInt8) (n k : Nat) : Nat := if 2 * k + 1 < n then 16 * hexVal (s.getD (2 * k) 0) + hexVal (s.getD (2 * k + 1) 0) else if 2 * k < n then hexVal (s.getD (2 * k) 0) else 0
def unRow (s : List UInt8) (n : Nat) : List UInt8 := tab 32 fun k => UInt8.ofNat (uN s n k)
/-- Is it a hash? -/
def isHash (s : List UInt8) : Bool := decide (s.length = 64) && s.all fun c => decide (hexVal c < 16)
def unhexL (s : List UInt8) : List UInt8 := unRow s 64
theorem unRow_length (s : List UInt8) (n : Nat) : (unRow s n).length = 32 := tab_length _ _
theorem unhexL_length (s : List UInt8) : (unhexL s).length = 32 := tab_length _ _
theorem unRow_zero (s : List UInt8) : unRow s 0 = List.replicate 32 0 := by
  unfold unRow; rw [← tab_const]; apply tab_congr; intro j hj; simp [uN]
theorem uN_old (s : List UInt8) (i : Nat) : uN s i (i / 2) = if i % 2 = 1 then hexVal (s.getD (i - 1) 0) else 0 := by
  unfold uN
  by_cases h : i % 2 = 1
  · rw [if_pos h, if_neg (by omega), if_pos (by omega), show 2 * (i / 2) = i - 1 by omega]
  · rw [if_neg h, if_neg (by omega), if_neg (by omega)]
theorem uN_new (s : List UInt8) (i : Nat) : uN s (i + 1) (i / 2) = 16 * uN s i (i / 2) + hexVal (s.getD i 0) := by
  rw [uN_old]
  unfold uN
  by_cases h : i % 2 = 1
  · rw [if_pos h, if_pos (by omega), show 2 * (i / 2) = i - 1 by omega, show i - 1 + 1 = i by omega]
  · rw [if_neg h, if_neg (by omega), if_pos (by omega), show 2 * (i / 2) = i by omega]; omega
theorem unRow_set (s : List UInt8) (i : Nat) (h : i < 64) : (unRow s i).set (i / 2) (UInt8.ofNat (16 * uN s i (i / 2) + hexVal (s.getD i 0))) = unRow s (i + 1) := by
  rw [← uN_new]
  refine tab_set 32 _ (fun k => UInt8.ofNat (uN s (i + 1) k)) (i / 2) ?_ (by omega)
  intro j hj
  by_cases e : j = i / 2
  · rw [if_pos e, e]
  · rw [if_neg e]; congr 1
    unfold uN
    by_cases h1 : 2 * j + 1 < i
    · rw [if_pos h1, if_pos (by omega)]
    · rw [if_neg h1, if_neg (by omega), if_neg (by omega), if_neg (by omega)]

theorem isHash_hexL (d : List UInt8) : isHash (hexL d) = true := by
  unfold isHash
  rw [hexL_length]
  simp only [decide_true, Bool.true_and, List.all_eq_true, decide_eq_true_eq]
  intro c hc
  obtain ⟨j, hj, rfl⟩ := List.mem_map.1 hc
  have hj' : j < 64 := by simpa using hj
  unfold hexAt; rw [if_pos hj', hexVal_dig _ (nibN_lt d j)]; exact nibN_lt d j
theorem unhexL_hexL (d : List UInt8) (h : d.length = 32) : unhexL (hexL d) = d := by
  conv => rhs; rw [← tab_self d, h]
  unfold unhexL unRow
  apply tab_congr
  intro k hk
  have g : ∀ j, j < 64 → (hexL d).getD j 0 = digN (nibN d j) := fun j hj => by unfold hexL; rw [tab_get _ _ hj]; unfold hexAt; rw [if_pos hj]
  unfold uN
  rw [if_pos (by omega), g _ (by omega), g _ (by omega), hexVal_dig _ (nibN_lt d _), hexVal_dig _ (nibN_lt d _)]
  have e1 : nibN d (2 * k) = (d.getD k 0).toNat / 16 := by unfold nibN; rw [if_pos (by omega), show 2 * k / 2 = k by omega]
  have e2 : nibN d (2 * k + 1) = (d.getD k 0).toNat % 16 := by unfold nibN; rw [if_neg (by omega), show (2 * k + 1) / 2 = k by omega]
  rw [e1, e2, show 16 * ((d.getD k 0).toNat / 16) + (d.getD k 0).toNat % 16 = (d.getD k 0).toNat by omega]
  simp
theorem isHash_iff (s : List UInt8) : isHash s = true ↔ s.length = 64 ∧ ∀ j, j < 64 → hexVal (s.getD j 0) < 16 := by
  unfold isHash
  simp only [Bool.and_eq_true, decide_eq_true_eq, List.all_eq_true]
  constructor
  · rintro ⟨h1, h2⟩
    refine ⟨h1, fun j hj => h2 _ ?_⟩
    rw [List.getD_eq_getElem?_getD, List.getElem?_eq_getElem (by omega)]
    exact List.getElem_mem _
  · rintro ⟨h1, h2⟩
    refine ⟨h1, fun c hc => ?_⟩
    obtain ⟨j, hj, rfl⟩ := List.getElem_of_mem hc
    have := h2 j (by omega)
    rwa [List.getD_eq_getElem?_getD, List.getElem?_eq_getElem hj] at this
theorem hexL_unhexL (s : List UInt8) (h : isHash s = true) : hexL (unhexL s) = s := by
  obtain ⟨hl, hv⟩ := (isHash_iff s).1 h
  conv => rhs; rw [← tab_self s, hl]
  unfold hexL
  apply tab_congr
  intro j hj
  have hu : (unhexL s).getD (j / 2) 0 = UInt8.ofNat (16 * hexVal (s.getD (2 * (j / 2)) 0) + hexVal (s.getD (2 * (j / 2) + 1) 0)) := by
    unfold unhexL unRow; rw [tab_get _ _ (by omega)]; unfold uN; rw [if_pos (by omega)]
  have h1 := hv (2 * (j / 2)) (by omega)
  have h2 := hv (2 * (j / 2) + 1) (by omega)
  unfold hexAt; rw [if_pos hj]
  symm
  rw [digN_iff _ _ (nibN_lt _ _)]
  unfold nibN
  rw [hu, UInt8.toNat_ofNat']
  by_cases e : j % 2 = 0
  · rw [if_pos e]
    have : 2 * (j / 2) = j := by omega
    rw [this] at h1 h2 ⊢; omega
  · rw [if_neg e]
    have : 2 * (j / 2) + 1 = j := by omega
    rw [this] at h2 ⊢; omega
/-- Which digit was met, behind k digits. -/
def metN (c : UInt8) (k : Nat) : Int := if hexVal c < k then hexVal c else -1
theorem metN_zero (c : UInt8) : metN c 0 = -1 := by simp [metN]
theorem metN_eq (c : UInt8) (k : Nat) (h : k < 16) (e : c = digN k) : metN c (k + 1) = k := by
  have := (digN_iff c k h).1 e
  unfold metN; rw [if_pos (by omega)]; omega
theorem metN_ne (c : UInt8) (k : Nat) (h : k < 16) (e : c ≠ digN k) : metN c (k + 1) = metN c k := by
  have : hexVal c ≠ k := fun h' => e ((digN_iff c k h).2 h')
  unfold metN; split <;> split <;> omega
theorem sha_hex_nil : hexL (sha []) = [0x65, 0x33, 0x62, 0x30, 0x63, 0x34, 0x34, 0x32, 0x39, 0x38, 0x66, 0x63, 0x31, 0x63, 0x31, 0x34, 0x39, 0x61, 0x66, 0x62, 0x66, 0x34, 0x63, 0x38, 0x39, 0x39, 0x36, 0x66, 0x62, 0x39, 0x32, 0x34, 0x32, 0x37, 0x61, 0x65, 0x34, 0x31, 0x65, 0x34, 0x36, 0x34, 0x39, 0x62, 0x39, 0x33, 0x34, 0x63, 0x61, 0x34, 0x39, 0x35, 0x39, 0x39, 0x31, 0x62, 0x37, 0x38, 0x35, 0x32, 0x62, 0x38, 0x35, 0x35] := by decide +kernel
theorem sha_hex_abc : hexL (sha [97, 98, 99]) = [0x62, 0x61, 0x37, 0x38, 0x31, 0x36, 0x62, 0x66, 0x38, 0x66, 0x30, 0x31, 0x63, 0x66, 0x65, 0x61, 0x34, 0x31, 0x34, 0x31, 0x34, 0x30, 0x64, 0x65, 0x35, 0x64, 0x61, 0x65, 0x32, 0x32, 0x32, 0x33, 0x62, 0x30, 0x30, 0x33, 0x36, 0x31, 0x61, 0x33, 0x39, 0x36, 0x31, 0x37, 0x37, 0x61, 0x39, 0x63, 0x62, 0x34, 0x31, 0x30, 0x66, 0x66, 0x36, 0x31, 0x66, 0x32, 0x30, 0x30, 0x31, 0x35, 0x61, 0x64] := by decide +kernel
end Go.Proofs.Ytbdgnlbbijpfmaa
