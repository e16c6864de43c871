/- Small lemmas that the walks name. -/
import Derived.Test.YtpggklkofilmfaaAbSpec
namespace Go
namespace Ab
theorem fits_of {r : ApR} {N N' : Nat} {l l' : List Int} (h : r.fits N l) (e : N = N') (e' : l = l') : r.fits N' l' := by subst e e'; exact h
theorem intE {k : IntKind} {a b : Int} (h : a = b) : Value.int k a = Value.int k b := by rw [h]
theorem boolE {a b : Bool} (h : a = b) : Value.bool a = Value.bool b := by rw [h]

end Ab
end Go
