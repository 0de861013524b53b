/- The comparator of queue.Waiting, its world told to the letter. -/
import Derived.Test.YtajpakifkinadaaGreatDoorProg
import Derived.Test.YtajpakifkinadaaGreatDoorSyJ
import Derived.Lib.Small
import Derived.Lib.Walk
import Derived.WalkKit
import Derived.Deep.RegionHeld3
import Derived.Sort.Grow
namespace Go.Proofs.YtajpakifkinadaaGreatDoor
open Go Go.Sy Go.Proofs Go.Lib Go.RowKit Go.Sort
def cmpZ (x y : Int) : Int := if x < y then -1 else if y < x then 1 else 0
theorem nanI (x : Int) (w : World) : Calls Tryz.prog 109 #[.int .i64 x] w fun e w' => e = .returned (.bool false) ∧ w' = w := by
  go_enter Tryz.func109, Tryz.ntmps109
  go_wp2
  go_ret
  exact ⟨by simp, rfl⟩
theorem nanS (x : ByteArray) (w : World) : Calls Tryz.prog 110 #[.string x] w fun e w' => e = .returned (.bool false) ∧ w' = w := by
  go_enter Tryz.func110, Tryz.ntmps110
  go_wp2
  go_ret
  exact ⟨by simp, rfl⟩
set_option maxHeartbeats 1000000 in
theorem cmpI' (x y : Int) (w : World) : Calls Tryz.prog 73 #[.int .i64 x, .int .i64 y] w fun e w' => e = .returned (.int .i64 (cmpZ x y)) ∧ w' = w := by
  go_enter Tryz.func73, Tryz.ntmps73
  go_wp2_with (go_at_call 109; refine (nanI _ _).mono ?_; rintro e w' ⟨rfl, hw⟩; rw [hw])
  all_goals (go_ret; refine ⟨?_, rfl⟩; unfold cmpZ; (repeat' split) <;> first | rfl | (exfalso; omega))
def cmpSS (x y : ByteArray) : Int := if Op.bytesLess x.toList y.toList = true then -1 else if (!(Op.bytesLess x.toList y.toList || x.toList == y.toList)) = true then 1 else 0
theorem binGtr (t : TypeId) (a b : ByteArray) : binOp .gtr t (.string a) (.string b) = pure (.bool !(Op.bytesLess a.toList b.toList || a.toList == b.toList)) := by simp [binOp, Op.stringOp]
set_option maxHeartbeats 1000000 in
theorem cmpS' (x y : ByteArray) (w : World) : Calls Tryz.prog 74 #[.string x, .string y] w fun e w' => e = .returned (.int .i64 (cmpSS x y)) ∧ w' = w := by
  go_enter Tryz.func74, Tryz.ntmps74
  go_wp2_with (go_at_call 110; refine (nanS _ _).mono ?_; rintro e w' ⟨rfl, hw⟩; rw [hw])
  · go_ret
    refine ⟨?_, rfl⟩
    unfold cmpSS; simp_all
  · simp only [binGtr, Sem.run_pure, Result.andThen_ok, Oper.upon]
    go_wp2
    all_goals (go_ret; refine ⟨?_, rfl⟩; unfold cmpSS; simp_all)
def orZ (x y : Int) : Int := if x = 0 then y else x
set_option maxHeartbeats 1000000 in
theorem orI' (x y : Int) (b : Nat) (w : World) (c0 : w.cell? ⟨b, 0, none⟩ = some (.int .i64 x)) (c1 : w.cell? ⟨b, 1, none⟩ = some (.int .i64 y)) : Calls Tryz.prog 72 #[.slice (some ⟨b, 0, none⟩) 2 2] w fun e w' => e = .returned (.int .i64 (orZ x y)) ∧ w' = w := by
  go_enter Tryz.func72, Tryz.ntmps72
  go_wp2
  refine wp_loop_rounds 3 ?_
  simp only [Code.rounds]
  go_wp2
  all_goals (go_ret; refine ⟨?_, rfl⟩; unfold orZ; simp_all)
theorem orNew (x y : Int) (T : TypeId) (A B : Obj) (w : World) : Calls Tryz.prog 72 #[.slice (some ⟨w.heap.size + 1 + 1, 0, none⟩) 2 2] (((w.alloc A).alloc B).alloc (.cells #[.int .i64 x, .int .i64 y] T)).drew fun e w' => e = .returned (.int .i64 (orZ x y)) ∧ w' = (((w.alloc A).alloc B).alloc (.cells #[.int .i64 x, .int .i64 y] T)).drew := by
  have e : (((w.alloc A).alloc B).alloc (.cells #[.int .i64 x, .int .i64 y] T)).drew.heap[w.heap.size + 1 + 1]? = some (.cells #[.int .i64 x, .int .i64 y] T (0, 0)) := by
    show (((w.heap.push A).push B).push (.cells #[.int .i64 x, .int .i64 y] T))[w.heap.size + 1 + 1]? = _
    rw [show w.heap.size + 1 + 1 = ((w.heap.push A).push B).size by simp]
    exact Array.getElem?_push_size
  exact orI' x y _ _ (by unfold World.cell?; rw [e]; rfl) (by unfold World.cell?; rw [e]; rfl)
set_option maxHeartbeats 4000000 in
set_option maxRecDepth 20000 in
theorem ahead' (xn yn gx ax gy ay : ByteArray) (x1 x2 x3 y1 y2 y3 xr yr : Int) (xw xb yw yb : Value) (hxw : one xw) (hxb : one xb) (hyw : one yw) (hyb : one yb) (w : World) :
    Calls Tryz.prog 29 #[.agg #[.string xn, .int .i64 x1, .int .i64 x2, .int .i64 x3, xw, xb, .string gx, .string ax, .int .i64 xr], .agg #[.string yn, .int .i64 y1, .int .i64 y2, .int .i64 y3, yw, yb, .string gy, .string ay, .int .i64 yr]] w
      fun e w' => e = .returned (.int .i64 (orZ (cmpZ yr xr) (cmpSS xn yn))) ∧ ∃ q os', w' = grow (w.drewN q) os' := by
  have h1 : ∀ W a b, Calls Tryz.prog 73 #[.int .i64 a, .int .i64 b] W fun e w' => e = .returned (.int .i64 (cmpZ a b)) ∧ w' = W := fun W a b => cmpI' a b W
  go_enter Tryz.func29, Tryz.ntmps29
  go_wp2
  go_region_held3 (fun W => W.cell? ⟨w.heap.size, 8, none⟩ = some (.int .i64 xr) ∧ W.cell? ⟨w.heap.size + 1, 8, none⟩ = some (.int .i64 yr) ∧ W.cell? ⟨w.heap.size, 0, none⟩ = some (.string xn) ∧ W.cell? ⟨w.heap.size + 1, 0, none⟩ = some (.string yn)) (go_keep)
    (first | (go_at_call 73; refine (cmpI' _ _ _).mono ?_; rintro e w' ⟨rfl, rfl⟩) | (go_at_call 74; refine (cmpS' _ _ _).mono ?_; rintro e w' ⟨rfl, rfl⟩) | (go_at_call 72; refine (orNew _ _ _ _ _ _).mono ?_; rintro e w' ⟨rfl, rfl⟩))
  go_wp2
  go_ret
  exact ⟨rfl, 1, _, by rw [alloc_eq_grow, alloc_eq_grow, alloc_eq_grow, grow_grow, grow_grow]; rfl⟩
end Go.Proofs.YtajpakifkinadaaGreatDoor
