/-
  Further rules: appending to a slice of records; dropping. No condition.
-/
import Derived.Test.YtmcfmhiadlkglaaArgs
namespace Go.Proofs.Ytmcfmhiadlkglaa.Sx
open Go
theorem Ex_trans {l l1 l2 : List HP} (p : Ex l l1) (q : Ex l1 l2) : Ex l l2 := by
  intro σ h hs
  obtain ⟨g, hg, s1⟩ := p σ h hs
  obtain ⟨g2, hg2, s2⟩ := q σ g s1
  exact ⟨g2, fun b o e => hg b o (hg2 b o e), s2⟩
theorem Sep.slsSnoc {α : Type} {enc : α → List Value} {xs ys : List α} {x : α} {news : List Value} {r : Option Addr} {n n' c sz : Nat} {T : TypeId} {l : List HP} {w : World}
    (h : Sep (sls r n c T sz (xs.flatMap enc ++ news) :: l) w) (e : news = enc x) (hn : n = n') (hy : ys = xs ++ [x]) : Sep (sls r n' c T sz (ys.flatMap enc) :: l) w := by
  subst hn hy e
  rw [List.flatMap_append]
  simpa using h
end Go.Proofs.Ytmcfmhiadlkglaa.Sx
