/-
 tripwireref01: Shr by one. tripwireref01: Shl. tripwireref01: Gcd.
-/
import Derived.Test.YtikmgoefjbhcjaaGreatDoorRefE
import Derived.Test.YtikmgoefjbhcjaaGreatDoorLimE
import Derived.Test.YtikmgoefjbhcjaaGreatDoorVal
import Derived.Test.YtikmgoefjbhcjaaGreatDoorGcdM
import Derived.Deep.DeepCutAuto
namespace Go.Proofs.YtikmgoefjbhcjaaGreatDoor
open Go.RowKit

theorem Own.apps {P : Program} {W : World} {B : Nat} {t e : TypeId} {k : IntKind} {bytes : Nat} {pv z : Value} {l ds : List Nat} (ht : P.underlying t = some (.slice e)) (hinfo : (P.info? e).map (fun i => (i.zero, i.size, i.bytes)) = some (some z, 1, bytes)) (hz : z.cells.size = 1)
 (hown : Own W B e k pv l) {b o c : Nat} (hd : Rd W k (some ⟨b, o, none⟩) ds) (hlen : (l.length + ds.length) * bytes ≤ 140737488355328) (hl : l.length + ds.length ≤ maxLen) (hB : B ≤ W.heap.size) :
 ∃ v' w', (Builtin.append_ #[t, t] t #[pv, .slice (some ⟨b, o, none⟩) ds.length c]).run P W = .ok v' w' ∧ Own w' B e k v' (l ++ ds) ∧ Below B W w' := by
 obtain ⟨i0, hi0, hz0, hz1, hz2⟩ := info_parts hinfo
 obtain ⟨v', w', hrun, h2, h3, -⟩ := run_append_own (P := P) W B t t e i0 z 1 bytes ht hi0 hz0 hz1 hz2 hz (by decide) pv l.length (vals k l) hown
  ⟨b, o, none⟩ ds.length c (vals k ds) (by simp [vals]) (fun j u hu => by
   have hj : j < ds.length := by have := (List.getElem?_eq_some_iff.1 hu).1; simpa [vals] using this
   have := hd.cell j hj
   rw [za4] at this
   rw [zac, this, ← hu]
   simp [vals, nth, List.getD, hj]) (fun u hu => by
   obtain ⟨x, _, rfl⟩ := List.mem_map.1 hu
   rfl) hl hlen hB
 have hlt := hown.lt
 refine ⟨v', w', hrun, ?_, ?_⟩
 ·simpa [Own, vals] using h2
 ·exact (Below.refl _ _).grown h3 hB (fun b hb => (hlt b hb).1)
end Go.Proofs.YtikmgoefjbhcjaaGreatDoor
