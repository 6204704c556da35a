-- The steps of a world that keep what is known of it, found by instances (shorter printed walks).
import Derived.Test.YticjlkommabcjaaPSx0
namespace Go.Proofs.Yticjlkommabcjaa.PS
open Go Go.RowKit Go.Proofs.YticjlkommabcjaaW.PrintWords Go.Proofs.YticjlkommabcjaaW.PrintLast
/-- Steps from one world to another that make blocks or draw only. -/
class Up (w W : World) : Prop where
  below : Below w.heap.size w W
instance Up.alloc {w W : World} {o : Obj} [h : Up w W] : Up w (W.alloc o) := ⟨below_alloc h.below o⟩
instance Up.drew {w W : World} [h : Up w W] : Up w W.drew := ⟨below_drew h.below⟩
instance Up.drewN {w W : World} {n : Nat} [h : Up w W] : Up w (W.drewN n) := ⟨pw_below_drewN h.below n⟩
instance (priority := low) Up.refl {w : World} : Up w w := ⟨Below.refl _ _⟩
theorem upB {w W : World} {g : Nat} {o : Obj} (h : w.heap[g]? = some o) [u : Up w W] : W.heap[g]? = some o := blk_below h u.below
theorem upR {α : Type} {d : Kd α} {e base : Nat} {ok : Nat → Prop} {w W : World} {v : Value} {xs : List α} (h : d.R e w base ok v xs) [u : Up w W] : d.R e W base ok v xs := Kd.R_below h u.below
theorem upL {v w W : World} (h : Below v.heap.size v w) [u : Up w W] : Below v.heap.size v W := below_then h h.size u.below
/-- One such step. -/
class Dn (w : outParam World) (W : World) : Prop where
  below : Below w.heap.size w W
instance Dn.alloc {w : World} {o : Obj} : Dn w (w.alloc o) := ⟨below_alloc (Below.refl _ _) o⟩
instance Dn.drew {w : World} : Dn w w.drew := ⟨below_drew (Below.refl _ _)⟩
instance Dn.drewN {w : World} {n : Nat} : Dn w (w.drewN n) := ⟨pw_below_drewN (Below.refl _ _) n⟩
theorem upF {w W : World} [u : Dn w W] {g : Nat} {o : Obj} (h : w.heap[g]? = some o) : W.heap[g]? = some o := blk_below h u.below
theorem upG {α : Type} {d : Kd α} {e base : Nat} {ok : Nat → Prop} {w W : World} [u : Dn w W] {v : Value} {xs : List α} (h : d.R e w base ok v xs) : d.R e W base ok v xs := Kd.R_below h u.below
theorem upS {v w W : World} [u : Dn w W] (h : Below v.heap.size v w) : Below v.heap.size v W := below_then h h.size u.below
end Go.Proofs.Yticjlkommabcjaa.PS
