-- written by this project's xprint.py (a turn of the kit's printer; its own texts among them)
import Derived.Test.YtkkhjfkgfmodnaaPx0
import Derived.Test.YtkkhjfkgfmodnaaOpn
namespace Go.Proofs.Ytkkhjfkgfmodnaa.Opn
open Go Go.RowKit Go.Proofs.Ytkkhjfkgfmodnaa.P Go.Proofs.YtkkhjfkgfmodnaaW.PrintWords
def WF30 (x : S30) : Prop := (fun x => (Lit.int .u8 x).wf = true) x.f0 ∧ (fun x => (Lit.int .i64 x).wf = true) x.f1 ∧ (fun x => (Lit.int .i64 x).wf = true) x.f2 ∧ (fun x => (Lit.int .i64 x).wf = true) x.f3
theorem opn30 : Opn Try.prog 30 k30 WF30 := by
  intro H enc w base spare held fuel cs y h
  obtain ⟨xs, n, _, _, hlen, hxl, hf⟩ := DataW.trod_struct Try.underlying30 h
  rw [show Try.prog.cellsOf 30 = 4 by kernel_rfl] at hlen
  have hxl : xs.length = 4 := hxl
  obtain ⟨c0, c1, c2, c3, rfl⟩ : ∃ c0 c1 c2 c3, cs = [c0, c1, c2, c3] := by
    match cs, hlen with
    | [c0, c1, c2, c3], _ => exact ⟨c0, c1, c2, c3, rfl⟩
  have f0 := hf 0 _ rfl
  rw [List.getElem?_eq_getElem (show 0 < xs.length by omega)] at f0
  obtain ⟨x0, e0, w0⟩ := (opn_int Try.underlying5) H enc w base spare held n [c0] _ f0
  have f1 := hf 1 _ rfl
  rw [List.getElem?_eq_getElem (show 1 < xs.length by omega)] at f1
  obtain ⟨x1, e1, w1⟩ := (opn_int Try.underlying3) H enc w base spare held n [c1] _ f1
  have f2 := hf 2 _ rfl
  rw [List.getElem?_eq_getElem (show 2 < xs.length by omega)] at f2
  obtain ⟨x2, e2, w2⟩ := (opn_int Try.underlying3) H enc w base spare held n [c2] _ f2
  have f3 := hf 3 _ rfl
  rw [List.getElem?_eq_getElem (show 3 < xs.length by omega)] at f3
  obtain ⟨x3, e3, w3⟩ := (opn_int Try.underlying3) H enc w base spare held n [c3] _ f3
  exact ⟨⟨x0, x1, x2, x3⟩, ⟨[c0], [c1, c2, c3], rfl, e0, ⟨[c1], [c2, c3], rfl, e1, ⟨[c2], [c3], rfl, e2, e3⟩⟩⟩, ⟨w0, w1, w2, w3⟩⟩
def WF26 (x : S26) : Prop := (fun x => (Lit.int .i64 x).wf = true) x.f0 ∧ (fun x => (Lit.int .i64 x).wf = true) x.f1 ∧ (fun x => (Lit.int .i64 x).wf = true) x.f2 ∧ (fun xs => xs.length ≤ 9223372036854775807 ∧ ∀ x ∈ xs, (fun x => (Lit.int .i64 x).wf = true) x) x.f3 ∧ (fun x => (Lit.int .i64 x).wf = true) x.f4 ∧ (fun x => (Lit.int .i64 x).wf = true) x.f5 ∧ (fun xs => xs.length ≤ 9223372036854775807 ∧ ∀ x ∈ xs, (fun xs => xs.length ≤ 9223372036854775807 ∧ ∀ x ∈ xs, WF30 x) x) x.f6
theorem opn26 : Opn Try.prog 26 k26 WF26 := by
  intro H enc w base spare held fuel cs y h
  obtain ⟨xs, n, _, _, hlen, hxl, hf⟩ := DataW.trod_struct Try.underlying26 h
  rw [show Try.prog.cellsOf 26 = 7 by kernel_rfl] at hlen
  have hxl : xs.length = 7 := hxl
  obtain ⟨c0, c1, c2, c3, c4, c5, c6, rfl⟩ : ∃ c0 c1 c2 c3 c4 c5 c6, cs = [c0, c1, c2, c3, c4, c5, c6] := by
    match cs, hlen with
    | [c0, c1, c2, c3, c4, c5, c6], _ => exact ⟨c0, c1, c2, c3, c4, c5, c6, rfl⟩
  have f0 := hf 0 _ rfl
  rw [List.getElem?_eq_getElem (show 0 < xs.length by omega)] at f0
  obtain ⟨x0, e0, w0⟩ := (opn_int Try.underlying3) H enc w base spare held n [c0] _ f0
  have f1 := hf 1 _ rfl
  rw [List.getElem?_eq_getElem (show 1 < xs.length by omega)] at f1
  obtain ⟨x1, e1, w1⟩ := (opn_int Try.underlying3) H enc w base spare held n [c1] _ f1
  have f2 := hf 2 _ rfl
  rw [List.getElem?_eq_getElem (show 2 < xs.length by omega)] at f2
  obtain ⟨x2, e2, w2⟩ := (opn_int Try.underlying3) H enc w base spare held n [c2] _ f2
  have f3 := hf 3 _ rfl
  rw [List.getElem?_eq_getElem (show 3 < xs.length by omega)] at f3
  obtain ⟨x3, e3, w3⟩ := (opn_slice Try.underlying23 (by kernel_rfl) (opn_int Try.underlying3)) H enc w base spare held n [c3] _ f3
  have f4 := hf 4 _ rfl
  rw [List.getElem?_eq_getElem (show 4 < xs.length by omega)] at f4
  obtain ⟨x4, e4, w4⟩ := (opn_int Try.underlying3) H enc w base spare held n [c4] _ f4
  have f5 := hf 5 _ rfl
  rw [List.getElem?_eq_getElem (show 5 < xs.length by omega)] at f5
  obtain ⟨x5, e5, w5⟩ := (opn_int Try.underlying3) H enc w base spare held n [c5] _ f5
  have f6 := hf 6 _ rfl
  rw [List.getElem?_eq_getElem (show 6 < xs.length by omega)] at f6
  obtain ⟨x6, e6, w6⟩ := (opn_slice Try.underlying24 (by kernel_rfl) (opn_slice Try.underlying28 (by kernel_rfl) opn30)) H enc w base spare held n [c6] _ f6
  exact ⟨⟨x0, x1, x2, x3, x4, x5, x6⟩, ⟨[c0], [c1, c2, c3, c4, c5, c6], rfl, e0, ⟨[c1], [c2, c3, c4, c5, c6], rfl, e1, ⟨[c2], [c3, c4, c5, c6], rfl, e2, ⟨[c3], [c4, c5, c6], rfl, e3, ⟨[c4], [c5, c6], rfl, e4, ⟨[c5], [c6], rfl, e5, e6⟩⟩⟩⟩⟩⟩, ⟨w0, w1, w2, w3, w4, w5, w6⟩⟩
end Go.Proofs.Ytkkhjfkgfmodnaa.Opn
