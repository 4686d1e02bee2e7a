/- The laws' own functions on a schedule: the copy, the comparison of equal ones, the marks, the count, the size. -/
import Derived.Test.YtjknadnknainbaaGreatDoorMem
import Derived.Test.YtjknadnknainbaaGreatDoorJobS
import Derived.Test.YtjknadnknainbaaGreatDoorTicketS
import Derived.Test.YtjknadnknainbaaGreatDoorIntS
namespace Go.Proofs.YtjknadnknainbaaGreatDoor
open Go.RowKit

theorem own_ne {w : World} {b1 b2 e1 e2 s1 s2 n1 n2 : Nat} {v1 v2 : Value} {xs ys : List Value} (h1 : w.ownsRow b1 e1 s1 v1 n1 xs) (h2 : w.ownsRow b2 e2 s2 v2 n2 ys) (hne : e1 ≠ e2) :
    ∀ q p, v1.ownBlock = some q → v2.ownBlock = some p → q ≠ p := by
  intro q p hq hp e
  subst e
  rcases h1.2 with ⟨hv, _⟩ | ⟨g, cap, cur, hv, hg, hh, _⟩
  · rw [hv] at hq; cases hq
  · rcases h2.2 with ⟨hv2, _⟩ | ⟨g2, cap2, cur2, hv2, hg2, hh2, _⟩
    · rw [hv2] at hp; cases hp
    · rw [hv] at hq
      rw [hv2] at hp
      have e1' : g = q := Option.some.inj hq
      have e2' : g2 = q := Option.some.inj hp
      subst e1'
      subst e2'
      rw [hh] at hh2
      injection hh2 with hh2
      injection hh2 with _ h3 _
      exact hne h3
end Go.Proofs.YtjknadnknainbaaGreatDoor
