/- What the printed functions of the references and the laws of layer 31 tell. Conditions: none. -/
import Derived.Test.YtdaagoagfenadaaDoorMC
import Derived.Test.YtdaagoagfenadaaDoorYTwf12
import Derived.Test.YtdaagoagfenadaaDoorMB
namespace Go.Proofs.YtdaagoagfenadaaDoor.X
open Go.RowKit Go.Proofs.YtdaagoagfenadaaDoor.YTw Go.Proofs.YtdaagoagfenadaaDoorW.PrintWords Go.Proofs.YtdaagoagfenadaaDoorW.PrintLast Go.Proofs.YtdaagoagfenadaaDoorW.PrintMore
set_option linter.unusedVariables false
set_option linter.unusedSimpArgs false
def inS (x : S25) : Prop := ∀ y ∈ nums x, In64 y
theorem inS_all {x : S25} (h : inS x) : (nums x).all in64B = true := by
  rw [List.all_eq_true]
  intro y hy
  have := h y hy
  unfold in64B
  rw [Bool.and_eq_true, decide_eq_true_eq, decide_eq_true_eq]
  exact this
theorem line_f (x : S25) (h : inS x) : script_Line.f x.f0 x.f1 x.f2 x.f3.f0 x.f3.f1 x.f3.f2 x.f3.f3 x.f3.f4 = some (bs (lineS x).1, (lineS x).2) := if_pos (inS_all h)
theorem print_f (l : List S25) (h : ∀ x ∈ l, inS x) : script_Print.f l = some (bs (printT l).1, (printT l).2) := if_pos (List.all_eq_true.2 fun x hx => inS_all (h x hx))
def lvL : List S25 := [⟨0, 0, 5, ⟨0, 0, 0, 0, 0⟩⟩, ⟨1, 1, 0, ⟨1, 0, 3, 0, 0⟩⟩, ⟨2, 0, 1, ⟨0, 0, 0, 0, 0⟩⟩]
theorem lv_parse31 : parseTT [115, 116, 101, 112, 32, 48, 32, 53, 10, 99, 97, 108, 108, 32, 49, 32, 109, 97, 108, 108, 111, 99, 32, 51, 10, 109, 111, 118, 101, 32, 48, 32, 49, 10] = (lvL, 0) := by kernel_rfl
theorem lv_print31 : printT lvL = ([115, 116, 101, 112, 32, 48, 32, 53, 10, 99, 97, 108, 108, 32, 49, 32, 109, 97, 108, 108, 111, 99, 32, 51, 10, 109, 111, 118, 101, 32, 48, 32, 49, 10], 0) := by kernel_rfl
theorem lives_f : assartlaw31_lives.f = some true := by
  unfold assartlaw31_lives.f
  have h1 : script_Parse.f (⟨#[115, 116, 101, 112, 32, 48, 32, 53, 10, 99, 97, 108, 108, 32, 49, 32, 109, 97, 108, 108, 111, 99, 32, 51, 10, 109, 111, 118, 101, 32, 48, 32, 49, 10]⟩ : ByteArray) = some (lvL, 0) := congrArg some lv_parse31
  have h2 : script_Print.f lvL = some (bs [115, 116, 101, 112, 32, 48, 32, 53, 10, 99, 97, 108, 108, 32, 49, 32, 109, 97, 108, 108, 111, 99, 32, 51, 10, 109, 111, 118, 101, 32, 48, 32, 49, 10], 0) := by
    rw [print_f lvL (by
      intro x hx y hy
      simp only [lvL, List.mem_cons, List.not_mem_nil, or_false] at hx
      rcases hx with rfl | rfl | rfl <;> (simp only [nums, List.mem_cons, List.not_mem_nil, or_false] at hy; unfold In64; omega)), lv_print31]
  rw [h1, Option.bind_some]
  show (script_Print.f lvL).bind _ = _
  rw [h2, Option.bind_some]
  rw [if_pos rfl, if_pos rfl, if_pos (show ((lvL.length : Int) = 3) by rfl), if_pos (show (1 < (lvL.length : Int)) by decide), if_pos (by decide), bs_list]
  rfl
theorem w64n (i : Nat) (h : i ≤ 1000000) : wrap64 ((i : Int) + 1) = ((i + 1 : Nat) : Int) := w64 (by omega) (by omega)
theorem entry_f (a : List UInt8) (h : a.length ≤ 2000000) : script_Entry.f (bs a) = some (t9 (entT a)) := if_pos (by rw [bs_size]; exact h)
end Go.Proofs.YtdaagoagfenadaaDoor.X
