-- written by this project's xprint.py (a turn of the kit's printer; its own texts among them)
import Derived.Test.YticdodbnjlnjlaaPx0
import Derived.Test.YticdodbnjlnjlaaOpn
namespace Go.Proofs.Yticdodbnjlnjlaa.Opn
open Go Go.RowKit Go.Proofs.Yticdodbnjlnjlaa.P Go.Proofs.YticdodbnjlnjlaaW.PrintWords
def WF33 (x : S33) : Prop := (fun x => (Lit.int .u8 x).wf = true) x.f0 ∧ (fun x => (Lit.int .i64 x).wf = true) x.f1 ∧ (fun x => (Lit.int .i64 x).wf = true) x.f2 ∧ (fun x => (Lit.int .i64 x).wf = true) x.f3
set_option maxRecDepth 100000 in
theorem opn33 : Opn Try.prog 33 k33 WF33 := by
  intro H enc w base spare held fuel cs y h
  obtain ⟨xs, n, _, _, hlen, hxl, hf⟩ := DataW.trod_struct Try.underlying33 h
  rw [show Try.prog.cellsOf 33 = 4 by kernel_rfl] at hlen
  have hxl : xs.length = 4 := hxl
  obtain ⟨c0, c1, c2, c3, rfl⟩ : ∃ c0 c1 c2 c3, cs = [c0, c1, c2, c3] := by
    match cs, hlen with
    | [c0, c1, c2, c3], _ => exact ⟨c0, c1, c2, c3, rfl⟩
  have f0 := hf 0 _ rfl
  rw [List.getElem?_eq_getElem (show 0 < xs.length by omega)] at f0
  obtain ⟨x0, e0, w0⟩ := (opn_int Try.underlying5) H enc w base spare held n [c0] _ f0
  have f1 := hf 1 _ rfl
  rw [List.getElem?_eq_getElem (show 1 < xs.length by omega)] at f1
  obtain ⟨x1, e1, w1⟩ := (opn_int Try.underlying3) H enc w base spare held n [c1] _ f1
  have f2 := hf 2 _ rfl
  rw [List.getElem?_eq_getElem (show 2 < xs.length by omega)] at f2
  obtain ⟨x2, e2, w2⟩ := (opn_int Try.underlying3) H enc w base spare held n [c2] _ f2
  have f3 := hf 3 _ rfl
  rw [List.getElem?_eq_getElem (show 3 < xs.length by omega)] at f3
  obtain ⟨x3, e3, w3⟩ := (opn_int Try.underlying3) H enc w base spare held n [c3] _ f3
  exact ⟨⟨x0, x1, x2, x3⟩, ⟨[c0], [c1, c2, c3], rfl, e0, ⟨[c1], [c2, c3], rfl, e1, ⟨[c2], [c3], rfl, e2, e3⟩⟩⟩, ⟨w0, w1, w2, w3⟩⟩
end Go.Proofs.Yticdodbnjlnjlaa.Opn
