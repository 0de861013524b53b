/- The measure of sizes that the second form of a statement gives: the bulk of what is read. -/
import Derived.Test.YteajcmnbjpbnpaaRows
import Derived.Test.YteajcmnbjpbnpaaSyO
namespace Go.Proofs.Yteajcmnbjpbnpaa
open Go.Sy
theorem bulk_part {H : Type} {d : DataW H} {l : List (DataW H)} (h : d ∈ l) : Rows.uptoBulk d ≤ Rows.uptoBulkAll l := by
  induction l with
  | nil => cases h
  | cons a r ih =>
    rw [Rows.uptoBulkAll]
    rcases List.mem_cons.1 h with rfl | h
    · omega
    · have := ih h; omega
theorem bulk_one {H : Type} (d : DataW H) : 1 ≤ Rows.uptoBulk d := by
  cases d with
  | lit l => cases l <;> simp [Rows.uptoBulk]
  | nil => simp [Rows.uptoBulk]
  | ptr d => simp [Rows.uptoBulk]
  | slice a b => simp [Rows.uptoBulk]
  | agg a => simp [Rows.uptoBulk]
  | iface a b => simp [Rows.uptoBulk]
  | map a => simp [Rows.uptoBulk]
  | held a => simp [Rows.uptoBulk]
theorem bulk_len {H : Type} (l : List (DataW H)) : l.length ≤ Rows.uptoBulkAll l := by
  induction l with
  | nil => simp
  | cons a r ih =>
    rw [Rows.uptoBulkAll, List.length_cons]
    have := bulk_one a
    omega
def Meas.upto (P : Program) (H : Type) : Meas P H where
  ok _ d := Rows.uptoBulk d ≤ 1048576
  L _ n := n ≤ 1048576
  S n := n ≤ 1048576
  nil _ := Nat.zero_le _
  agg {t fs ds i f d} _ h _ hd := by
    rw [Rows.uptoBulk] at h
    have := bulk_part (List.mem_of_getElem? hd)
    omega
  arr {t e n ds d} _ h hd := by
    rw [Rows.uptoBulk] at h
    have := bulk_part hd
    omega
  len {t e l r} _ h := by
    rw [Rows.uptoBulk] at h
    have := bulk_len l
    omega
  elem {t e l r d} _ h hd := by
    rw [Rows.uptoBulk] at h
    have := bulk_part hd
    omega
  str {t b} h := by
    rw [Rows.uptoBulk] at h
    omega
theorem upto_of {H : Type} {P : Program} {ds gs : List (DataW H)} (h : Rows.uptoSmall H (ds ++ gs) = true) {j : Nat} {t : TypeId} {d : DataW H} (hd : ds[j]? = some d) : (Meas.upto P H).ok t d := by
  unfold Rows.uptoSmall at h
  have h := of_decide_eq_true h
  exact Nat.le_trans (bulk_part (List.mem_append_left _ (List.mem_of_getElem? hd))) h
end Go.Proofs.Yteajcmnbjpbnpaa
