/- However bytes are cut, what a digest has taken in is one. -/
import Derived.Test.YthgmhjgbjodhjaaDoorSha5
namespace Go.Proofs.YthgmhjgbjodhjaaDoor.ShaPure
open Go.Proofs.YthgmhjgbjodhjaaDoor Go.RowKit Go.Proofs.YthgmhjgbjodhjaaDoorW.PrintWords Go.Proofs.YthgmhjgbjodhjaaDoorW.PrintLast Go.Proofs.YthgmhjgbjodhjaaDoorW.PrintMore Go.Proofs.YthgmhjgbjodhjaaDoor.Sha Go.Proofs.YthgmhjgbjodhjaaDoor.Sha2 Go.Proofs.YthgmhjgbjodhjaaDoor.Sha3 Go.Proofs.YthgmhjgbjodhjaaDoor.Own Go.Proofs.YthgmhjgbjodhjaaDoor.Sha4 Go.Proofs.YthgmhjgbjodhjaaDoor.Sha5
set_option linter.unusedVariables false

theorem eats_prefix (st X Y : List Int) (q : Nat) (hX : X.length = 64 * q) (i : Nat) (hi : i ≤ q) : eats st (X ++ Y) i = eats st X i := by
  induction i with
  | zero => rfl
  | succ i ih =>
    have e : ((X ++ Y).drop (64 * i)).take 64 = (X.drop (64 * i)).take 64 := by
      rw [List.drop_append_of_le_length (by omega), List.take_append_of_le_length (by rw [List.length_drop]; omega)]
    show taken (eats st (X ++ Y) i) (wds (((X ++ Y).drop (64 * i)).take 64) 64) = taken (eats st X i) (wds ((X.drop (64 * i)).take 64) 64)
    rw [ih (by omega), e]

theorem eats_split (st X Y : List Int) (q : Nat) (hX : X.length = 64 * q) (j : Nat) : eats st (X ++ Y) (q + j) = eats (eats st X q) Y j := by
  induction j with
  | zero => exact eats_prefix st X Y q hX q (Nat.le_refl _)
  | succ j ih =>
    have e : (X ++ Y).drop (64 * (q + j)) = Y.drop (64 * j) := by
      rw [Nat.mul_add, ← hX, ← List.drop_drop, List.drop_left]
    show taken (eats st (X ++ Y) (q + j)) (wds (((X ++ Y).drop (64 * (q + j))).take 64) 64) = taken (eats (eats st X q) Y j) (wds ((Y.drop (64 * j)).take 64) 64)
    rw [ih, e]

theorem whole (a : List Int) : a.take (64 * (a.length / 64)) ++ left a = a := List.take_append_drop _ _
theorem whole_len (a : List Int) : (a.take (64 * (a.length / 64))).length = 64 * (a.length / 64) := by
  rw [List.length_take]; omega

theorem eaten_on (st a b : List Int) : eaten (eaten st a) (left a ++ b) = eaten st (a ++ b) := by
  have hX := whole_len a
  have hl : (left a).length = a.length % 64 := by unfold left; rw [List.length_drop]; omega
  have h1 : eaten st a = eats st (a.take (64 * (a.length / 64))) (a.length / 64) := by
    unfold eaten
    conv => lhs; rw [← whole a]
    rw [whole a]
    have := eats_prefix st (a.take (64 * (a.length / 64))) (left a) (a.length / 64) hX (a.length / 64) (Nat.le_refl _)
    rw [whole a] at this
    exact this
  have h2 : (a ++ b).length / 64 = a.length / 64 + (left a ++ b).length / 64 := by
    rw [List.length_append, List.length_append, hl]; omega
  have h3 : a ++ b = a.take (64 * (a.length / 64)) ++ (left a ++ b) := by rw [← List.append_assoc, whole a]
  rw [h1]
  show eats _ (left a ++ b) ((left a ++ b).length / 64) = eats st (a ++ b) ((a ++ b).length / 64)
  rw [h2]
  conv => rhs; rw [h3]
  rw [eats_split st _ _ _ hX]

theorem left_on (a b : List Int) : left (left a ++ b) = left (a ++ b) := by
  have hX := whole_len a
  have hl : (left a).length = a.length % 64 := by unfold left; rw [List.length_drop]; omega
  have h2 : (a ++ b).length / 64 = a.length / 64 + (left a ++ b).length / 64 := by
    rw [List.length_append, List.length_append, hl]; omega
  have h3 : a ++ b = a.take (64 * (a.length / 64)) ++ (left a ++ b) := by rw [← List.append_assoc, whole a]
  show (left a ++ b).drop (64 * ((left a ++ b).length / 64)) = (a ++ b).drop (64 * ((a ++ b).length / 64))
  rw [h2, Nat.mul_add]
  conv => rhs; rw [h3]
  have hd : (a.take (64 * (a.length / 64)) ++ (left a ++ b)).drop (64 * (a.length / 64)) = left a ++ b := by
    have := List.drop_left (l₁ := a.take (64 * (a.length / 64))) (l₂ := left a ++ b)
    rwa [hX] at this
  rw [← List.drop_drop, hd]

theorem left_length (a : List Int) : (left a).length = a.length % 64 := by unfold left; rw [List.length_drop]; omega

/-- The digest, told at one go. -/
theorem ofS_eq (l : List Int) : ofS l = sums (eaten IV (l ++ pad (l.length % 64) l.length)) 32 := by
  unfold ofS final
  rw [eaten_on, left_length]
end Go.Proofs.YthgmhjgbjodhjaaDoor.ShaPure
