/-
  More words on memory.
  Conditions: none; plain laws over any program.
-/
import Derived.Test.YtdlegbcdmlmbpaaBase
namespace Go.Proofs.Ytdlegbcdmlmbpaa
open Go.RowKit

theorem owns_ge {w : World} {base e size n : Nat} {v : Value} {xs : List Value} (h : w.ownsRow base e size v n xs) {k : Nat} (hb : v.ownBlock = some k) : base ≤ k := by
  rcases h.2 with ⟨h1, -⟩ | ⟨g, cap, cur, h1, hg, -⟩
  · rw [h1] at hb; cases hb
  · rw [h1] at hb
    have : g = k := by simpa [Value.ownBlock] using hb
    omega
end Go.Proofs.Ytdlegbcdmlmbpaa
