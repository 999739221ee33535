/- How []Span reads as an argument. -/
import Derived.Test.YtjidldbolbjdpaaSpn
namespace Go.Proofs.Ytjidldbolbjdpaa
open Go.ChangeShapes Go.WideShapes Go.ChangeAt Go.RowKit Go.Deep
theorem spans_open2 {H : Type} {enc : TypeId × Value → H} {w : World} {spare : Nat → Bool} {held : Bool} {fuel : Nat} {a : Option Addr} {len cap : Nat} {x : DataW H × List MemPlace} (h : DataW.trod enc Try.prog w 0 spare held fuel 22 [.slice a len cap] = some x) :
    ∃ R : List Spn, ReadsS w (.slice a len cap) R ∧ R.length ≤ maxLen ∧ ∀ y ∈ R, y.se.size ≤ maxLen ∧ y.ho.size ≤ maxLen ∧ y.no.size ≤ maxLen := by
  obtain ⟨v, hc, R, h⟩ := spans_open h
  obtain rfl : .slice a len cap = v := by simpa using hc
  exact ⟨R, h⟩
theorem below_of {w : World} {f : FuncId} {args : Array Value} (h : Calls Try.prog f args w fun e w' => e = .returned (.bool true) ∧ Kept (fun _ => False) w w') :
    Calls Try.prog f args w fun e w' => e = .returned (.bool true) ∧ Below w.heap.size w w' := h.mono fun _ _ ⟨a, b⟩ => ⟨a, b.below (fun _ _ f => f)⟩
end Go.Proofs.Ytjidldbolbjdpaa
