-- written by this project's xprint.py (a turn of the kit's printer; its own texts among them)
import Derived.Test.YtfiemikganhgeaaPx0
import Derived.Test.YtfiemikganhgeaaOpn
namespace Go.Proofs.Ytfiemikganhgeaa.Opn
open Go Go.RowKit Go.Proofs.Ytfiemikganhgeaa.P Go.Proofs.YtfiemikganhgeaaW.PrintWords
def WF31 (x : S31) : Prop := (fun xs => xs.length ≤ 140737488351232 ∧ ∀ x ∈ xs, (fun xs => xs.length ≤ 140737488351232 ∧ ∀ x ∈ xs, (fun x => (Lit.int .i64 x).wf = true) x) x) x.f0 ∧ (fun xs => xs.length ≤ 140737488351232 ∧ ∀ x ∈ xs, (fun x => (Lit.int .u64 x).wf = true) x) x.f1 ∧ (fun xs => xs.length ≤ 140737488351232 ∧ ∀ x ∈ xs, (fun x => (Lit.int .u64 x).wf = true) x) x.f2 ∧ (fun x => (Lit.int .u64 x).wf = true) x.f3 ∧ (fun _ => True) x.f4 ∧ (fun _ => True) x.f5
set_option maxRecDepth 100000 in
theorem opn31 : Opn Try.prog 31 k31 WF31 := by
  intro H enc w base spare held fuel cs y h hwt
  obtain ⟨xs, n, _, rfl, hlen, hxl, hf⟩ := DataW.trod_struct Try.underlying31 h
  rw [show Try.prog.cellsOf 31 = 6 by kernel_rfl] at hlen
  have hxl : xs.length = 6 := hxl
  obtain ⟨c0, c1, c2, c3, c4, c5, rfl⟩ : ∃ c0 c1 c2 c3 c4 c5, cs = [c0, c1, c2, c3, c4, c5] := by
    match cs, hlen with
    | [c0, c1, c2, c3, c4, c5], _ => exact ⟨c0, c1, c2, c3, c4, c5, rfl⟩
  have f0 := hf 0 _ rfl
  rw [List.getElem?_eq_getElem (show 0 < xs.length by omega)] at f0
  obtain ⟨x0, e0, w0⟩ := (opn_slice Try.underlying26 (by kernel_rfl) (by kernel_rfl) (opn_slice Try.underlying33 (by kernel_rfl) (by kernel_rfl) (opn_int Try.underlying3))) H enc w base spare held n [c0] _ f0 (Wt.field (j := 0) Try.underlying31 hwt rfl (by rw [List.getElem?_map, List.getElem?_eq_getElem (show 0 < xs.length by omega)]; rfl))
  have f1 := hf 1 _ rfl
  rw [List.getElem?_eq_getElem (show 1 < xs.length by omega)] at f1
  obtain ⟨x1, e1, w1⟩ := (opn_slice Try.underlying23 (by kernel_rfl) (by kernel_rfl) (opn_int Try.underlying24)) H enc w base spare held n [c1] _ f1 (Wt.field (j := 1) Try.underlying31 hwt rfl (by rw [List.getElem?_map, List.getElem?_eq_getElem (show 1 < xs.length by omega)]; rfl))
  have f2 := hf 2 _ rfl
  rw [List.getElem?_eq_getElem (show 2 < xs.length by omega)] at f2
  obtain ⟨x2, e2, w2⟩ := (opn_slice Try.underlying23 (by kernel_rfl) (by kernel_rfl) (opn_int Try.underlying24)) H enc w base spare held n [c2] _ f2 (Wt.field (j := 2) Try.underlying31 hwt rfl (by rw [List.getElem?_map, List.getElem?_eq_getElem (show 2 < xs.length by omega)]; rfl))
  have f3 := hf 3 _ rfl
  rw [List.getElem?_eq_getElem (show 3 < xs.length by omega)] at f3
  obtain ⟨x3, e3, w3⟩ := (opn_int Try.underlying24) H enc w base spare held n [c3] _ f3 (Wt.field (j := 3) Try.underlying31 hwt rfl (by rw [List.getElem?_map, List.getElem?_eq_getElem (show 3 < xs.length by omega)]; rfl))
  have f4 := hf 4 _ rfl
  rw [List.getElem?_eq_getElem (show 4 < xs.length by omega)] at f4
  obtain ⟨x4, e4, w4⟩ := (opn_bool Try.underlying4) H enc w base spare held n [c4] _ f4 (Wt.field (j := 4) Try.underlying31 hwt rfl (by rw [List.getElem?_map, List.getElem?_eq_getElem (show 4 < xs.length by omega)]; rfl))
  have f5 := hf 5 _ rfl
  rw [List.getElem?_eq_getElem (show 5 < xs.length by omega)] at f5
  obtain ⟨x5, e5, w5⟩ := (opn_bool Try.underlying4) H enc w base spare held n [c5] _ f5 (Wt.field (j := 5) Try.underlying31 hwt rfl (by rw [List.getElem?_map, List.getElem?_eq_getElem (show 5 < xs.length by omega)]; rfl))
  exact ⟨⟨x0, x1, x2, x3, x4, x5⟩, ⟨[c0], [c1, c2, c3, c4, c5], rfl, e0, ⟨[c1], [c2, c3, c4, c5], rfl, e1, ⟨[c2], [c3, c4, c5], rfl, e2, ⟨[c3], [c4, c5], rfl, e3, ⟨[c4], [c5], rfl, e4, e5⟩⟩⟩⟩⟩, ⟨w0, w1, w2, w3, w4, w5⟩⟩
end Go.Proofs.Ytfiemikganhgeaa.Opn
