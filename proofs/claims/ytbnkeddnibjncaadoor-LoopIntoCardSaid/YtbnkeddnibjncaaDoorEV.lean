import Derived.Test.YtbnkeddnibjncaaDoorPx0
import Derived.Test.YtbnkeddnibjncaaDoorOpnS
namespace Go.Proofs.YtbnkeddnibjncaaDoor.Th
open Go Go.RowKit Go.Proofs.YtbnkeddnibjncaaDoor.P Go.Proofs.YtbnkeddnibjncaaDoor.Opn Go.Proofs.YtbnkeddnibjncaaDoorW.PrintWords Go.Proofs.YtbnkeddnibjncaaDoorW.PrintLast Go.Proofs.YtbnkeddnibjncaaDoorW.PrintMore
theorem w64 {x : Int} (h0 : -9223372036854775808 ≤ x) (h1 : x ≤ 9223372036854775807) : wrap64 x = x := by unfold wrap64; omega
theorem ev_if {α : Type} {c : Prop} [Decidable c] {f g : Nat → Option α} {a b : α} (hf : c → Ev f a) (hg : ¬ c → Ev g b) : Ev (fun k => if c then f k else g k) (if c then a else b) := by
  by_cases h : c
  · rw [if_pos h]; exact Ev.congr (fun k => if_pos h) (hf h)
  · rw [if_neg h]; exact Ev.congr (fun k => if_neg h) (hg h)
theorem ev_pos {α : Type} {c : Prop} [Decidable c] {f g : Nat → Option α} {a : α} (h : c) (hf : Ev f a) : Ev (fun k => if c then f k else g k) a := Ev.congr (fun _ => if_pos h) hf
theorem ev_neg {α : Type} {c : Prop} [Decidable c] {f g : Nat → Option α} {a : α} (h : ¬ c) (hf : Ev g a) : Ev (fun k => if c then f k else g k) a := Ev.congr (fun _ => if_neg h) hf
theorem up (i : Nat) (h : i ≤ 9223372036854775806) : wrap64 ((i : Int) + 1) = ((i + 1 : Nat) : Int) := by rw [w64 (by omega) (by omega)]; rfl
end Go.Proofs.YtbnkeddnibjncaaDoor.Th
