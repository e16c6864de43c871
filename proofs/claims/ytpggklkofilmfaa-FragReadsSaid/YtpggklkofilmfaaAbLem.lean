/- Small lemmas that the walks name. -/
import Derived.Test.YtpggklkofilmfaaAbSpec
namespace Go
namespace Ab
theorem fits_of {r : ApR} {N N' : Nat} {l l' : List Int} (h : r.fits N l) (e : N = N') (e' : l = l') : r.fits N' l' := by subst e e'; exact h
theorem intE {k : IntKind} {a b : Int} (h : a = b) : Value.int k a = Value.int k b := by rw [h]
theorem boolE {a b : Bool} (h : a = b) : Value.bool a = Value.bool b := by rw [h]
/-- A state, said in other words. -/
theorem stE {cx : Cx} {rs : List ResultVar} {nt : Notes} {post : SV → Hp → Prop} {n : Nat} {k : List Item} {s : Sl} {h : Hp} (s' : Sl) (h' : Hp) (e1 : s = s') (e2 : h = h') (g : vc cx rs nt post n k s' h') : vc cx rs nt post n k s h := by
  subst e1 e2
  exact g
/-- An operation that asks nothing. -/
theorem stepE {r : Res} {v : SV} {h : Hp} {K : SV → Hp → Prop} (e : r = .st none v) (g : K v h) : r.then h K := by
  subst e
  exact g

end Ab
end Go
