import Derived.Test.YtjnijjpihfgimaaDoorPl
namespace Go.Proofs.YtjnijjpihfgimaaDoor.Pl
set_option linter.unusedVariables false
/-! How many numbers a set has: bytes. -/
def val : List Nat → Nat
  | [] => 0
  | b :: l => b + 256 * val l
def bytes : Nat → Nat → List Nat
  | 0, _ => []
  | n + 1, x => x % 256 :: bytes n (x / 256)
theorem val_bytes : ∀ (n x : Nat), x < 256 ^ n → val (bytes n x) = x
  | 0, x, h => by simp at h; simp [bytes, val, h]
  | n + 1, x, h => by
    have h1 : x / 256 < 256 ^ n := by rw [Nat.pow_succ] at h; omega
    simp only [bytes, val, val_bytes n _ h1]
    omega
theorem bytes_lt : ∀ (n x : Nat), ∀ b ∈ bytes n x, b < 256
  | 0, _, b, h => by simp [bytes] at h
  | n + 1, x, b, h => by
    simp only [bytes, List.mem_cons] at h
    rcases h with rfl | h
    · omega
    · exact bytes_lt n _ b h
theorem bytes_len : ∀ (n x : Nat), (bytes n x).length = n
  | 0, _ => rfl
  | n + 1, x => by simp [bytes, bytes_len n]
theorem val_lt : ∀ (l : List Nat), (∀ b ∈ l, b < 256) → val l < 256 ^ l.length
  | [], _ => by simp [val]
  | b :: l, h => by
    have h1 := val_lt l (fun c hc => h c (by simp [hc]))
    have h2 := h b (by simp)
    simp only [val, List.length_cons, Nat.pow_succ]
    omega
theorem and_split (a b c d : Nat) (ha : a < 256) (hc : c < 256) : (a + 256 * b) &&& (c + 256 * d) = (a &&& c) + 256 * (b &&& d) := by
  have hac : a &&& c < 2 ^ 8 := Nat.and_lt_two_pow _ (by omega)
  apply Nat.eq_of_testBit_eq
  intro i
  rw [Nat.testBit_and, Nat.add_comm a, Nat.add_comm c, Nat.add_comm (a &&& c), show 256 = 2 ^ 8 from rfl, Nat.testBit_two_pow_mul_add _ (by omega), Nat.testBit_two_pow_mul_add _ (by omega), Nat.testBit_two_pow_mul_add _ hac]
  by_cases h : i < 8
  · simp [h, Nat.testBit_and]
  · simp [h, Nat.testBit_and]
def mask (c : Nat) : Nat → Nat
  | 0 => 0
  | n + 1 => c + 256 * mask c n
def p1 (b : Nat) : Nat := (b / 2 &&& 85) + (b &&& 85)
def p2 (b : Nat) : Nat := (b / 4 &&& 51) + (b &&& 51)
def p3 (b : Nat) : Nat := (b / 16 + b) &&& 15
theorem d1 : ∀ b, b < 256 → ∀ c, c < 2 → (b / 2 + 128 * c) &&& 85 = b / 2 &&& 85 ∧ p1 b < 256 := by decide +kernel
theorem d2 : ∀ b, b < 256 → ∀ c, c < 4 → (b / 4 + 64 * c) &&& 51 = b / 4 &&& 51 ∧ p2 b < 256 := by decide +kernel
theorem d3 : ∀ b, b < 256 → p2 (p1 b) / 16 ≤ 4 ∧ p2 (p1 b) % 16 ≤ 4 ∧ p1 b < 256 := by decide +kernel
theorem d4 : ∀ b, b < 80 → ∀ c, c < 5 → (b / 16 + b + 16 * c) &&& 15 = p3 b ∧ p3 b < 16 := by decide +kernel
def pc8 (b : Nat) : Nat := ((List.range 8).filter b.testBit).length
theorem d5 : ∀ b, b < 256 → p3 (p2 (p1 b)) = pc8 b ∧ pc8 b ≤ 8 := by decide +kernel
theorem map1 : ∀ (l : List Nat), (∀ b ∈ l, b < 256) → (val l / 2 &&& mask 85 l.length) + (val l &&& mask 85 l.length) = val (l.map p1)
  | [], _ => rfl
  | b :: l, h => by
    have ih := map1 l (fun c hc => h c (by simp [hc]))
    have hb := h b (by simp)
    have e1 : (b + 256 * val l) / 2 = (b / 2 + 128 * (val l % 2)) + 256 * (val l / 2) := by omega
    simp only [val, List.length_cons, mask, List.map_cons]
    rw [e1, and_split _ _ _ _ (by omega) (by decide), and_split _ _ _ _ hb (by decide), (d1 b hb _ (Nat.mod_lt _ (by decide))).1, ← ih]
    unfold p1
    omega
theorem map2 : ∀ (l : List Nat), (∀ b ∈ l, b < 256) → (val l / 4 &&& mask 51 l.length) + (val l &&& mask 51 l.length) = val (l.map p2)
  | [], _ => rfl
  | b :: l, h => by
    have ih := map2 l (fun c hc => h c (by simp [hc]))
    have hb := h b (by simp)
    have e1 : (b + 256 * val l) / 4 = (b / 4 + 64 * (val l % 4)) + 256 * (val l / 4) := by omega
    simp only [val, List.length_cons, mask, List.map_cons]
    rw [e1, and_split _ _ _ _ (by omega) (by decide), and_split _ _ _ _ hb (by decide), (d2 b hb _ (Nat.mod_lt _ (by decide))).1, ← ih]
    unfold p2
    omega
theorem map3 : ∀ (l : List Nat), (∀ b ∈ l, b / 16 ≤ 4 ∧ b % 16 ≤ 4) → (val l / 16 + val l) &&& mask 15 l.length = val (l.map p3)
  | [], _ => rfl
  | b :: l, h => by
    have ih := map3 l (fun c hc => h c (by simp [hc]))
    have hb := h b (by simp)
    have hc : val l % 16 < 5 := by
      cases l with
      | nil => simp [val]
      | cons c l => have := (h c (by simp)).2; simp only [val]; omega
    have e1 : (b + 256 * val l) / 16 + (b + 256 * val l) = (b / 16 + b + 16 * (val l % 16)) + 256 * (val l / 16 + val l) := by omega
    simp only [val, List.length_cons, mask, List.map_cons]
    rw [e1, and_split _ _ _ _ (by omega) (by decide), (d4 b (by omega) _ hc).1, ← ih]
theorem val_le (m : Nat) : ∀ (l : List Nat), (∀ b ∈ l, b ≤ m) → val l ≤ m * mask 1 l.length
  | [], _ => by simp [val]
  | b :: l, h => by
    have h1 := val_le m l (fun c hc => h c (by simp [hc]))
    have h2 := h b (by simp)
    simp only [val, List.length_cons, mask, Nat.mul_add, Nat.mul_one]
    have e : m * (256 * mask 1 l.length) = 256 * (m * mask 1 l.length) := by rw [← Nat.mul_assoc, Nat.mul_comm m, Nat.mul_assoc]
    omega
/-- How many numbers below 8 n are in x. -/
def cnt (n x : Nat) : Nat := ((List.range (8 * n)).filter x.testBit).length
theorem cnt_step (n b y : Nat) (hb : b < 256) : cnt (n + 1) (b + 256 * y) = pc8 b + cnt n y := by
  unfold cnt pc8
  have e1 : List.range (8 * (n + 1)) = List.range 8 ++ (List.range (8 * n)).map (fun i => 8 + i) := by
    rw [show 8 * (n + 1) = 8 + 8 * n by omega, List.range_add]
  have ht : ∀ i, (b + 256 * y).testBit i = if i < 8 then b.testBit i else y.testBit (i - 8) := fun i => by
    rw [Nat.add_comm, show 256 = 2 ^ 8 from rfl, Nat.testBit_two_pow_mul_add _ (by omega)]
  rw [e1, List.filter_append, List.length_append]
  congr 1
  · congr 1
    apply List.filter_congr
    intro i hi
    rw [ht, if_pos (List.mem_range.1 hi)]
  · rw [List.filter_map, List.length_map]
    congr 1
    apply List.filter_congr
    intro i hi
    show (b + 256 * y).testBit (8 + i) = y.testBit i
    rw [ht, if_neg (by omega)]
    congr 1
    omega
theorem cnt_val : ∀ (l : List Nat), (∀ b ∈ l, b < 256) → cnt l.length (val l) = (l.map pc8).sum
  | [], _ => by simp [cnt, val]
  | b :: l, h => by
    simp only [val, List.length_cons, List.map_cons, List.sum_cons]
    rw [cnt_step _ _ _ (h b (by simp)), cnt_val l (fun c hc => h c (by simp [hc]))]
theorem val_div (b : Nat) (l : List Nat) (h : b < 256) : val (b :: l) / 256 = val l := by
  show (b + 256 * val l) / 256 = val l
  generalize val l = v
  omega
theorem val_div2 (b c : Nat) (l : List Nat) (h : b < 256) (h2 : c < 256) : val (b :: c :: l) / 65536 = val l := by
  rw [show 65536 = 256 * 256 from rfl, ← Nat.div_div_eq_div_mul, val_div _ _ h, val_div _ _ h2]
theorem val_div4 (b c d e : Nat) (l : List Nat) (h : b < 256) (h2 : c < 256) (h3 : d < 256) (h4 : e < 256) : val (b :: c :: d :: e :: l) / 4294967296 = val l := by
  rw [show 4294967296 = 65536 * 65536 from rfl, ← Nat.div_div_eq_div_mul, val_div2 _ _ _ h h2, val_div2 _ _ _ h3 h4]
theorem val_cons (b : Nat) (l : List Nat) : val (b :: l) = b + 256 * val l := rfl
theorem val_add_nil (l : List Nat) : val l + val [] = val l := rfl
theorem val_add (b c : Nat) (l k : List Nat) (r : Nat) (h : val l + val k = r) : val (b :: l) + val (c :: k) = (b + c) + 256 * r := by
  rw [val_cons, val_cons]; omega
theorem add7 (a0 a1 a2 a3 a4 a5 a6 a7 b0 b1 b2 b3 b4 b5 b6 : Nat) : val [a0, a1, a2, a3, a4, a5, a6, a7] + val [b0, b1, b2, b3, b4, b5, b6] = val [a0 + b0, a1 + b1, a2 + b2, a3 + b3, a4 + b4, a5 + b5, a6 + b6, a7] :=
  val_add _ _ _ _ _ (val_add _ _ _ _ _ (val_add _ _ _ _ _ (val_add _ _ _ _ _ (val_add _ _ _ _ _ (val_add _ _ _ _ _ (val_add _ _ _ _ _ (val_add_nil _)))))))
theorem add6 (a0 a1 a2 a3 a4 a5 a6 a7 b0 b1 b2 b3 b4 b5 : Nat) : val [a0, a1, a2, a3, a4, a5, a6, a7] + val [b0, b1, b2, b3, b4, b5] = val [a0 + b0, a1 + b1, a2 + b2, a3 + b3, a4 + b4, a5 + b5, a6, a7] :=
  val_add _ _ _ _ _ (val_add _ _ _ _ _ (val_add _ _ _ _ _ (val_add _ _ _ _ _ (val_add _ _ _ _ _ (val_add _ _ _ _ _ (val_add_nil _))))))
theorem add4 (a0 a1 a2 a3 a4 a5 a6 a7 b0 b1 b2 b3 : Nat) : val [a0, a1, a2, a3, a4, a5, a6, a7] + val [b0, b1, b2, b3] = val [a0 + b0, a1 + b1, a2 + b2, a3 + b3, a4, a5, a6, a7] :=
  val_add _ _ _ _ _ (val_add _ _ _ _ _ (val_add _ _ _ _ _ (val_add _ _ _ _ _ (val_add_nil _))))
theorem lt8 (a0 a1 a2 a3 a4 a5 a6 a7 : Nat) (h : a0 < 256 ∧ a1 < 256 ∧ a2 < 256 ∧ a3 < 256 ∧ a4 < 256 ∧ a5 < 256 ∧ a6 < 256 ∧ a7 < 256) : val [a0, a1, a2, a3, a4, a5, a6, a7] < 18446744073709551616 := by
  have h1 := val_lt [a0, a1, a2, a3, a4, a5, a6, a7] (fun b hb => by
    simp only [List.mem_cons, List.not_mem_nil, or_false] at hb
    rcases hb with rfl | rfl | rfl | rfl | rfl | rfl | rfl | rfl <;> omega)
  simp only [List.length_cons, List.length_nil] at h1
  exact h1
theorem pop_tail (c0 c1 c2 c3 c4 c5 c6 c7 : Nat) (g0 : c0 ≤ 8) (g1 : c1 ≤ 8) (g2 : c2 ≤ 8) (g3 : c3 ≤ 8) (g4 : c4 ≤ 8) (g5 : c5 ≤ 8) (g6 : c6 ≤ 8) (g7 : c7 ≤ 8) :
    val [c0, c1, c2, c3, c4, c5, c6, c7] + val [c0, c1, c2, c3, c4, c5, c6, c7] / 256 < 18446744073709551616 ∧ (val [c0, c1, c2, c3, c4, c5, c6, c7] + val [c0, c1, c2, c3, c4, c5, c6, c7] / 256) + (val [c0, c1, c2, c3, c4, c5, c6, c7] + val [c0, c1, c2, c3, c4, c5, c6, c7] / 256) / 65536 < 18446744073709551616 ∧
    ((val [c0, c1, c2, c3, c4, c5, c6, c7] + val [c0, c1, c2, c3, c4, c5, c6, c7] / 256) + (val [c0, c1, c2, c3, c4, c5, c6, c7] + val [c0, c1, c2, c3, c4, c5, c6, c7] / 256) / 65536) + ((val [c0, c1, c2, c3, c4, c5, c6, c7] + val [c0, c1, c2, c3, c4, c5, c6, c7] / 256) + (val [c0, c1, c2, c3, c4, c5, c6, c7] + val [c0, c1, c2, c3, c4, c5, c6, c7] / 256) / 65536) / 4294967296 < 18446744073709551616 ∧
    (((val [c0, c1, c2, c3, c4, c5, c6, c7] + val [c0, c1, c2, c3, c4, c5, c6, c7] / 256) + (val [c0, c1, c2, c3, c4, c5, c6, c7] + val [c0, c1, c2, c3, c4, c5, c6, c7] / 256) / 65536) + ((val [c0, c1, c2, c3, c4, c5, c6, c7] + val [c0, c1, c2, c3, c4, c5, c6, c7] / 256) + (val [c0, c1, c2, c3, c4, c5, c6, c7] + val [c0, c1, c2, c3, c4, c5, c6, c7] / 256) / 65536) / 4294967296) % 128 = [c0, c1, c2, c3, c4, c5, c6, c7].sum := by
  rw [val_div c0 _ (by omega), add7, val_div2 _ _ _ (by omega) (by omega), add6, val_div4 _ _ _ _ _ (by omega) (by omega) (by omega) (by omega), add4]
  refine ⟨lt8 _ _ _ _ _ _ _ _ (by omega), lt8 _ _ _ _ _ _ _ _ (by omega), lt8 _ _ _ _ _ _ _ _ (by omega), ?_⟩
  rw [val_cons]
  generalize val _ = v
  simp only [List.sum_cons, List.sum_nil]
  omega
set_option maxHeartbeats 1000000 in
/-- Go's count of one bits, on eight bytes. -/
theorem pop (x : Nat) (hx : x < 18446744073709551616) : ∃ x1 x2 x3 : Nat, (x / 2 &&& 6148914691236517205) + (x &&& 6148914691236517205) = x1 ∧ (x1 / 4 &&& 3689348814741910323) + (x1 &&& 3689348814741910323) = x2 ∧
    (x2 / 16 + x2) &&& 1085102592571150095 = x3 ∧ x1 < 18446744073709551616 ∧ x2 < 18446744073709551616 ∧ x2 / 16 + x2 < 18446744073709551616 ∧
    x3 + x3 / 256 < 18446744073709551616 ∧ (x3 + x3 / 256) + (x3 + x3 / 256) / 65536 < 18446744073709551616 ∧
    ((x3 + x3 / 256) + (x3 + x3 / 256) / 65536) + ((x3 + x3 / 256) + (x3 + x3 / 256) / 65536) / 4294967296 < 18446744073709551616 ∧
    (((x3 + x3 / 256) + (x3 + x3 / 256) / 65536) + ((x3 + x3 / 256) + (x3 + x3 / 256) / 65536) / 4294967296) % 128 = (bnums x).length := by
  have hv := val_bytes 8 x hx
  have hl := bytes_len 8 x
  have hb := bytes_lt 8 x
  have hc := cnt_val _ hb
  rw [hl, hv] at hc
  replace hc : (bnums x).length = ((bytes 8 x).map pc8).sum := hc
  have h1 := map1 _ hb
  have hb1 : ∀ b ∈ (bytes 8 x).map p1, b < 256 := fun b h => by obtain ⟨c, hc1, rfl⟩ := List.mem_map.1 h; exact (d3 c (hb c hc1)).2.2
  have h2 := map2 _ hb1
  have hb2 : ∀ b ∈ ((bytes 8 x).map p1).map p2, b / 16 ≤ 4 ∧ b % 16 ≤ 4 := fun b h => by
    obtain ⟨c, hc1, rfl⟩ := List.mem_map.1 h; obtain ⟨d, hd1, rfl⟩ := List.mem_map.1 hc1; have := d3 d (hb d hd1); exact ⟨this.1, this.2.1⟩
  have h3 := map3 _ hb2
  simp only [List.length_map] at h1 h2 h3
  rw [hl] at h1 h2 h3
  rw [hv] at h1
  have m1 : mask 85 8 = 6148914691236517205 := by decide
  have m2 : mask 51 8 = 3689348814741910323 := by decide
  have m3 : mask 15 8 = 1085102592571150095 := by decide
  rw [m1] at h1
  rw [m2] at h2
  rw [m3] at h3
  have v1 := val_lt _ hb1
  have v2 := val_lt (((bytes 8 x).map p1).map p2) (fun b h => by have := hb2 b h; omega)
  simp only [List.length_map] at v1 v2
  rw [hl] at v1 v2
  refine ⟨_, _, _, h1, h2, h3, v1, v2, ?_⟩
  rw [hc]
  have hm : (((bytes 8 x).map p1).map p2).map p3 = (bytes 8 x).map pc8 := by
    rw [List.map_map, List.map_map]
    exact List.map_congr_left (fun b h => (d5 b (hb b h)).1)
  rw [hm]
  have hx2 : val (((bytes 8 x).map p1).map p2) / 16 + val (((bytes 8 x).map p1).map p2) < 18446744073709551616 := by
    have : val (((bytes 8 x).map p1).map p2) ≤ 68 * 72340172838076673 := by
      have h4 := val_le 68 (((bytes 8 x).map p1).map p2) (fun b h => by have := hb2 b h; omega)
      simp only [List.length_map] at h4
      rw [hl] at h4
      exact h4
    omega
  refine ⟨hx2, ?_⟩
  have hb8 : ∀ b ∈ (bytes 8 x).map pc8, b ≤ 8 := fun b h => by obtain ⟨c, hc1, rfl⟩ := List.mem_map.1 h; exact (d5 c (hb c hc1)).2
  have hl8 : ((bytes 8 x).map pc8).length = 8 := by rw [List.length_map, hl]
  generalize (bytes 8 x).map pc8 = l at hb8 hl8 ⊢
  obtain ⟨c0, c1, c2, c3, c4, c5, c6, c7, rfl⟩ : ∃ c0 c1 c2 c3 c4 c5 c6 c7, l = [c0, c1, c2, c3, c4, c5, c6, c7] := by
    match l, hl8 with
    | [c0, c1, c2, c3, c4, c5, c6, c7], _ => exact ⟨c0, c1, c2, c3, c4, c5, c6, c7, rfl⟩
  have g0 := hb8 c0 (by simp); have g1 := hb8 c1 (by simp); have g2 := hb8 c2 (by simp); have g3 := hb8 c3 (by simp)
  have g4 := hb8 c4 (by simp); have g5 := hb8 c5 (by simp); have g6 := hb8 c6 (by simp); have g7 := hb8 c7 (by simp)
  exact pop_tail c0 c1 c2 c3 c4 c5 c6 c7 g0 g1 g2 g3 g4 g5 g6 g7
end Go.Proofs.YtjnijjpihfgimaaDoor.Pl
