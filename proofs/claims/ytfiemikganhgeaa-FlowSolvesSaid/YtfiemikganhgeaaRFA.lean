import Derived.Test.YtfiemikganhgeaaGR
import Derived.Test.YtfiemikganhgeaaPx8
namespace Go.Proofs.Ytfiemikganhgeaa.Th
set_option linter.unusedVariables false
open Go Go.RowKit Go.Proofs.Ytfiemikganhgeaa.P Go.Proofs.Ytfiemikganhgeaa.Opn Go.Proofs.YtfiemikganhgeaaW.PrintWords Go.Proofs.YtfiemikganhgeaaW.PrintLast Go.Proofs.YtfiemikganhgeaaW.PrintMore
/-! What the document's Solve computes: what comes to a place, and what goes through it. -/
theorem rnone_ev (m : Bool) : Ev (fun k => interlockref13_none.f k m) (AL m : Int) := by
  cases m
  · exact Ev.of (interlockref13_none.mono false) (k := 200) (by kernel_rfl)
  · exact Ev.of (interlockref13_none.mono true) (k := 200) (by kernel_rfl)
theorem rmeet (m : Bool) {a b : Nat} (ha : a < U) (hb : b < U) : interlockref13_meet.f m (a : Int) (b : Int) = some (MT m a b : Int) := by
  unfold interlockref13_meet.f interlockref01_And.f interlockref01_Or.f MT
  cases m
  · rw [if_neg (by decide), if_neg (by decide), Option.bind_some, or_nat a b ha hb]
  · rw [if_pos rfl, if_pos rfl, Option.bind_some, and_nat a b ha hb]
theorem rat (l : List Int) (i : Nat) : interlockref13_at.f l (i : Int) = some (atI l (i : Int)) := by
  unfold interlockref13_at.f atI
  by_cases h : (i : Int) ≥ (l.length : Int)
  · rw [if_pos h, if_pos (by omega)]
  · simp only [if_neg h]
    rw [if_pos (by omega), if_pos (by omega)]
theorem rthrough (ss : List (List Int)) {gs ks : List Int} (hg : W64 gs) (hk : W64 ks) (st : Int) (m bk : Bool) (i : Nat) {x : Nat} (hx : x < U) : interlockref13_through.f ss gs ks st m bk (i : Int) (x : Int) = some (trN (atI ks (i : Int)).toNat (atI gs (i : Int)).toNat x : Int) := by
  rw [← out_nat hg hk i hx]
  unfold interlockref13_through.f interlockref01_Minus.f interlockref01_Or.f outI
  rw [rat, rat]
  rfl
/-- Of a row: what each number of it brings, for Back. -/
def afV (n s : Nat) (a : List Nat) (x : Int) : List Nat := (if x = (n : Int) then [s] else []) ++ (if 0 ≤ x ∧ x < (n : Int) then [fn a x.toNat] else [])
theorem afV_lt {n s : Nat} {a : List Nat} (hs : s < U) (ha : ∀ j, fn a j < U) (x : Int) : ∀ v ∈ afV n s a x, v < U := fun v hv => by
  unfold afV at hv
  rcases List.mem_append.1 hv with hv | hv
  · split at hv
    · rw [List.mem_singleton.1 hv]; exact hs
    · cases hv
  · split at hv
    · rw [List.mem_singleton.1 hv]; exact ha _
    · cases hv
theorem rd_L1n (ss : List (List Int)) (i : Nat) : rd_L1 ss (i : Int) = ss.getD i [] := by unfold rd_L1; rw [Int.toNat_natCast]
theorem drop_cons (l : List Int) (j : Nat) (h : j < l.length) : l.drop j = l.getD j 0 :: l.drop (j + 1) := by
  rw [List.drop_eq_getElem_cons h, List.getD_eq_getElem?_getD, List.getElem?_eq_getElem h]; rfl
theorem after_l0 (ss : List (List Int)) (gs ks : List Int) (s : Nat) (m bk : Bool) (a : List Nat) (hla : a.length = ss.length) (ha : ∀ j, fn a j < U) (hs : s < U) (i : Nat) (hi : i < ss.length) (hl : (ss.getD i []).length ≤ 900000) :
    ∀ (d j x : Nat), j + d = (ss.getD i []).length → x < U → Ev (fun k => interlockref13_after.l0 k (IntL a) (i : Int) (x : Int) (j : Int) ss gs ks (s : Int) m bk) ((((((ss.getD i []).drop j).flatMap (afV ss.length s a)).foldl (MT m) x : Nat)) : Int)
  | 0, j, x, hj, hx => Ev.step (fun k => by
      simp only [interlockref13_after.l0]
      rw [rd_L1n, if_pos (show 0 ≤ (i : Int) by omega), if_pos (show (i : Int) < (ss.length : Int) by omega), if_neg (by omega)]) (by
        rw [List.drop_eq_nil_of_le (by omega)]; exact Ev.now _)
  | d + 1, j, x, hj, hx => by
    have hlt : j < (ss.getD i []).length := by omega
    rw [drop_cons _ j hlt, List.flatMap_cons, List.foldl_append]
    refine Ev.step (f := fun k => _) (fun k => by
      simp only [interlockref13_after.l0]
      rw [rd_L1n, if_pos (show 0 ≤ (i : Int) by omega), if_pos (show (i : Int) < (ss.length : Int) by omega), if_pos (show (j : Int) < ((ss.getD i []).length : Int) by omega), if_pos (show 0 ≤ (j : Int) by omega), rd_nat, up j (by omega)]) ?_
    have hv := afV_lt hs ha (n := ss.length) ((ss.getD i []).getD j 0)
    have hstep : (afV ss.length s a ((ss.getD i []).getD j 0)).foldl (MT m) x < U := fold_lt m _ _ hx hv
    have ih := after_l0 ss gs ks s m bk a hla ha hs i hi hl d (j + 1) _ (by omega) hstep
    generalize (ss.getD i []).getD j 0 = c at *
    have hlen : (IntL a).length = ss.length := by rw [IntL_len, hla]
    by_cases h1 : c = (ss.length : Int)
    · refine ev_pos h1 ?_
      rw [rmeet m hx hs]
      refine Ev.bind (Ev.now _) (ev_pos (by omega) (ev_neg (by omega) ?_))
      have e : afV ss.length s a c = [s] := by
        unfold afV; rw [if_pos h1, if_neg (by omega)]; rfl
      rw [e] at ih ⊢
      exact ih
    · refine ev_neg h1 ?_
      by_cases h2 : c ≥ 0
      · refine ev_pos h2 ?_
        by_cases h3 : c < (ss.length : Int)
        · refine ev_pos h3 (ev_pos h2 (ev_pos (by omega) ?_))
          have hc : c = ((c.toNat : Nat) : Int) := by omega
          have hr : rd (IntL a) c = (fn a c.toNat : Int) := by rw [hc, IntL_rd, Int.toNat_natCast]
          rw [hr, rmeet m hx (ha _)]
          refine Ev.bind (Ev.now _) ?_
          have e : afV ss.length s a c = [fn a c.toNat] := by
            unfold afV; rw [if_neg h1, if_pos ⟨h2, h3⟩]; rfl
          rw [e] at ih ⊢
          exact ih
        · refine ev_neg h3 ?_
          have e : afV ss.length s a c = [] := by
            unfold afV; rw [if_neg h1, if_neg (by omega)]; rfl
          rw [e] at ih ⊢
          exact ih
      · refine ev_neg h2 ?_
        have e : afV ss.length s a c = [] := by
          unfold afV; rw [if_neg h1, if_neg (by omega)]; rfl
        rw [e] at ih ⊢
        exact ih
theorem after_ev (ss : List (List Int)) (gs ks : List Int) (s : Nat) (m bk : Bool) (a : List Nat) (hla : a.length = ss.length) (ha : ∀ j, fn a j < U) (hs : s < U) (i : Nat) (hi : i < ss.length) (hl : (ss.getD i []).length ≤ 900000) :
    Ev (fun k => interlockref13_after.f k ss gs ks (s : Int) m bk (IntL a) (i : Int)) (((((ss.getD i []).flatMap (afV ss.length s a)).foldl (MT m) (AL m) : Nat)) : Int) := by
  unfold interlockref13_after.f
  exact Ev.bind (rnone_ev m) (after_l0 ss gs ks s m bk a hla ha hs i hi hl (ss.getD i []).length 0 (AL m) (by omega) (AL_lt m))
/-- Of a row: what each number of it brings, forth. -/
def beV (v : Nat) (i : Nat) (x : Int) : List Nat := if x = (i : Int) then [v] else []
def befV (ss : List (List Int)) (b : List Nat) (i : Nat) : Nat → Nat → List Nat
  | 0, _ => []
  | d + 1, k => (ss.getD k []).flatMap (beV (fn b k) i) ++ befV ss b i d (k + 1)
theorem beV_mem (v i : Nat) (l : List Int) (u : Nat) : u ∈ l.flatMap (beV v i) ↔ (i : Int) ∈ l ∧ u = v := by
  rw [List.mem_flatMap]
  unfold beV
  constructor
  · rintro ⟨x, hx, hu⟩
    split at hu
    · rename_i e; rw [e] at hx; exact ⟨hx, List.mem_singleton.1 hu⟩
    · cases hu
  · rintro ⟨h1, h2⟩
    exact ⟨(i : Int), h1, by rw [if_pos rfl]; exact List.mem_singleton.2 h2⟩
theorem befV_mem (ss : List (List Int)) (b : List Nat) (i u : Nat) : ∀ (d k : Nat), u ∈ befV ss b i d k ↔ ∃ q, k ≤ q ∧ q < k + d ∧ (i : Int) ∈ ss.getD q [] ∧ u = fn b q
  | 0, k => by
    refine Iff.intro (fun h => ?_) (fun h => ?_)
    · cases h
    · obtain ⟨q, h1, h2, _⟩ := h; omega
  | d + 1, k => by
    rw [befV, List.mem_append, beV_mem, befV_mem ss b i u d (k + 1)]
    constructor
    · rintro (⟨h1, h2⟩ | ⟨q, h1, h2, h3⟩)
      · exact ⟨k, by omega, by omega, h1, h2⟩
      · exact ⟨q, by omega, by omega, h3⟩
    · rintro ⟨q, h1, h2, h3⟩
      by_cases e : q = k
      · subst e; exact .inl h3
      · exact .inr ⟨q, by omega, by omega, h3⟩
theorem before_l1 (ss : List (List Int)) (gs ks : List Int) (st : Int) (m bk : Bool) (b : List Nat) (hlb : b.length = ss.length) (hb : ∀ j, fn b j < U) (i q : Nat) (hq : q < ss.length) (hl : (ss.getD q []).length ≤ 900000) (R : Nat → Int)
    (hR : ∀ y, y < U → Ev (fun k => interlockref13_before.l0 k (IntL b) (i : Int) (y : Int) (wrap64 ((q : Int) + 1)) ss gs ks st m bk) (R y)) :
    ∀ (d j x : Nat), j + d = (ss.getD q []).length → x < U → Ev (fun k => interlockref13_before.l1 k (IntL b) (i : Int) (x : Int) (q : Int) (j : Int) ss gs ks st m bk) (R ((((ss.getD q []).drop j).flatMap (beV (fn b q) i)).foldl (MT m) x))
  | 0, j, x, hj, hx => Ev.step (f := fun k => _) (fun k => by
      simp only [interlockref13_before.l1]
      rw [rd_L1n, if_pos (show 0 ≤ (q : Int) by omega), if_pos (show (q : Int) < (ss.length : Int) by omega), if_neg (by omega)]) (by
        rw [List.drop_eq_nil_of_le (by omega)]; exact hR x hx)
  | d + 1, j, x, hj, hx => by
    have hlt : j < (ss.getD q []).length := by omega
    rw [drop_cons _ j hlt, List.flatMap_cons, List.foldl_append]
    refine Ev.step (f := fun k => _) (fun k => by
      simp only [interlockref13_before.l1]
      rw [rd_L1n, if_pos (show 0 ≤ (q : Int) by omega), if_pos (show (q : Int) < (ss.length : Int) by omega), if_pos (show (j : Int) < ((ss.getD q []).length : Int) by omega), if_pos (show 0 ≤ (j : Int) by omega), rd_nat, up j (by omega)]) ?_
    have hstep : (beV (fn b q) i ((ss.getD q []).getD j 0)).foldl (MT m) x < U := fold_lt m _ _ hx (fun v hv => by
      unfold beV at hv
      split at hv
      · rw [List.mem_singleton.1 hv]; exact hb _
      · cases hv)
    have ih := before_l1 ss gs ks st m bk b hlb hb i q hq hl R hR d (j + 1) _ (by omega) hstep
    generalize (ss.getD q []).getD j 0 = c at *
    have hlen : (IntL b).length = ss.length := by rw [IntL_len, hlb]
    by_cases h1 : c = (i : Int)
    · refine ev_pos h1 (ev_pos (by omega) ?_)
      rw [IntL_rd, rmeet m hx (hb _)]
      refine Ev.bind (Ev.now _) ?_
      have e : beV (fn b q) i c = [fn b q] := by unfold beV; rw [if_pos h1]
      rw [e] at ih ⊢
      exact ih
    · refine ev_neg h1 ?_
      have e : beV (fn b q) i c = [] := by unfold beV; rw [if_neg h1]
      rw [e] at ih ⊢
      exact ih
theorem before_l0 (ss : List (List Int)) (gs ks : List Int) (st : Int) (m bk : Bool) (b : List Nat) (hlb : b.length = ss.length) (hb : ∀ j, fn b j < U) (i : Nat) (hn : ss.length ≤ 64) (hl : ∀ q, q < ss.length → (ss.getD q []).length ≤ 900000) :
    ∀ (d q x : Nat), q + d = ss.length → x < U → Ev (fun k => interlockref13_before.l0 k (IntL b) (i : Int) (x : Int) (q : Int) ss gs ks st m bk) (((befV ss b i d q).foldl (MT m) x : Nat) : Int)
  | 0, q, x, hq, hx => Ev.step (fun k => by
      simp only [interlockref13_before.l0]
      rw [if_neg (by omega)]; rfl) (Ev.now _)
  | d + 1, q, x, hq, hx => by
    refine Ev.step (f := fun k => _) (fun k => by
      simp only [interlockref13_before.l0]
      rw [if_pos (show (q : Int) < (ss.length : Int) by omega)]) ?_
    rw [befV, List.foldl_append]
    have := before_l1 ss gs ks st m bk b hlb hb i q (by omega) (hl q (by omega)) (fun y => (((befV ss b i d (q + 1)).foldl (MT m) y : Nat) : Int)) (fun y hy => by
      rw [up q (by omega)]
      exact before_l0 ss gs ks st m bk b hlb hb i hn hl d (q + 1) y (by omega) hy) (ss.getD q []).length 0 x (by omega) hx
    exact this
theorem before_ev (ss : List (List Int)) (gs ks : List Int) (s : Nat) (m bk : Bool) (b : List Nat) (hlb : b.length = ss.length) (hb : ∀ j, fn b j < U) (hs : s < U) (i : Nat) (hn : ss.length ≤ 64) (hl : ∀ q, q < ss.length → (ss.getD q []).length ≤ 900000) :
    Ev (fun k => interlockref13_before.f k ss gs ks (s : Int) m bk (IntL b) (i : Int)) (((((if i = 0 then [s] else []) ++ befV ss b i ss.length 0).foldl (MT m) (AL m) : Nat)) : Int) := by
  unfold interlockref13_before.f
  refine Ev.bind (rnone_ev m) ?_
  rw [List.foldl_append]
  have key : ∀ x, x < U → Ev (fun k => interlockref13_before.j0 k (IntL b) (i : Int) (x : Int) ss gs ks (s : Int) m bk) (((befV ss b i ss.length 0).foldl (MT m) x : Nat) : Int) := fun x hx =>
    Ev.step (f := fun k => _) (fun k => by simp only [interlockref13_before.j0]; rfl) (before_l0 ss gs ks (s : Int) m bk b hlb hb i hn hl ss.length 0 x (by omega) hx)
  by_cases h : i = 0
  · refine ev_pos (by omega) ?_
    rw [rmeet m (AL_lt m) hs, if_pos h]
    refine Ev.bind (Ev.now _) ?_
    exact key _ (MT_lt m (AL_lt m) hs)
  · refine ev_neg (by omega) ?_
    rw [if_neg h]
    exact key _ (AL_lt m)
/-- Only which sets come counts; the beginning may come twice. -/
theorem fold_inn (m e : Bool) {s : Nat} {vs us : List Nat} (hs : s < U) (hv : ∀ v ∈ vs, v < U) (hu : ∀ v ∈ us, v < U) (h : ∀ v, v ∈ vs ↔ (e = true ∧ v = s) ∨ v ∈ us) : vs.foldl (MT m) (AL m) = inN m e s us := by
  cases e
  · have := inN_set m false hs hv hu (fun v => by rw [h v]; simp)
    unfold inN at this ⊢
    simpa using this
  · have := inN_set m false hs hv (us := s :: us) (fun v hv => by rcases List.mem_cons.1 hv with rfl | hv; exact hs; exact hu v hv) (fun v => by rw [h v]; simp)
    unfold inN at this ⊢
    simpa using this
end Go.Proofs.Ytfiemikganhgeaa.Th
