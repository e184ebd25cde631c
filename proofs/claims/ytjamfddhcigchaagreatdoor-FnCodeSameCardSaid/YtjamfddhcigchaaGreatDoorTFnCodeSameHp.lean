/- What impl.depths computes, in plain Lean. No condition. -/
import Derived.Test.YtjamfddhcigchaaGreatDoorTFnCodeSameHt
namespace Go.Proofs.YtjamfddhcigchaaGreatDoor.Hp
open Go.RowKit Go.Proofs.YtjamfddhcigchaaGreatDoor.HFnCodeSame Go.Proofs.YtjamfddhcigchaaGreatDoor.Ht Go.Proofs.YtjamfddhcigchaaGreatDoorW.PrintWords Go.Proofs.YtjamfddhcigchaaGreatDoorW.PrintLast Go.Proofs.YtjamfddhcigchaaGreatDoorW.PrintMore
set_option linter.unusedVariables false
set_option linter.unusedSimpArgs false
def tk (o : Int) : Int := if o = 3 ∨ o = 5 ∨ o = 6 then 1 else if o = 4 then 2 else 0
def gv (o : Int) : Int := if o = 1 ∨ o = 2 ∨ o = 4 ∨ o = 5 then 1 else 0
def goB (o : Int) : Bool := o == 6 || (o == 7 || o == 8)
def foB (o : Int) : Bool := !(o == 7 || o == 8)
theorem tk_bd (o : Int) : 0 ≤ tk o ∧ tk o ≤ 2 := by unfold tk; (repeat' split) <;> omega
theorem gv_bd (o : Int) : 0 ≤ gv o ∧ gv o ≤ 1 := by unfold gv; (repeat' split) <;> omega
theorem takes_some (k : Nat) (a b c d : Int) : impl_Ins_takes.f (k + 1) a b c d = some (tk a) := by
 unfold impl_Ins_takes.f tk
 by_cases h3 : a = 3
 ·subst h3; rfl
 by_cases h5 : a = 5
 ·subst h5; rfl
 by_cases h6 : a = 6
 ·subst h6; rfl
 rw [if_neg h3, if_neg h5, if_neg (by omega), show (a == 6) = false by simpa using h6]
 simp only [impl_Ins_takes.j0]
 rw [if_neg (by simp)]
 by_cases h4 : a = 4
 ·rw [if_pos h4, if_pos h4]
 ·rw [if_neg h4, if_neg h4]
theorem gives_some (a b c d : Int) : impl_Ins_gives.f a b c d = some (gv a) := by
 unfold impl_Ins_gives.f gv
 (repeat' split) <;> first | rfl | omega
theorem goes_some (a b c d : Int) : impl_Ins_goes.f a b c d = some (goB a) := by
 unfold impl_Ins_goes.f goB
 by_cases h6 : a = 6
 ·subst h6; rfl
 by_cases h7 : a = 7
 ·subst h7; rfl
 rw [if_neg h6, if_neg h7, show (a == 6) = false by simpa using h6, show (a == 7) = false by simpa using h7]; simp
theorem follows_some (a b c d : Int) : impl_Ins_follows.f a b c d = some (foB a) := by
 unfold impl_Ins_follows.f foB
 by_cases h7 : a = 7
 ·subst h7; rfl
 rw [if_neg h7, show (a == 7) = false by simpa using h7]; simp [bne]
def isN (n : Int) : Bool := decide (-1000000 ≤ n) && decide (n ≤ 1000000)
def aOk (k i : Int) : Bool := decide (1 ≤ k) && (decide (k ≤ 3) && (decide (0 ≤ i) && decide (i < 6)))
def z2 (c d : Int) : Bool := c == 0 && d == 0
theorem isNum_some (n : Int) : impl_isNum.f n = some (isN n) := by
 unfold impl_isNum.f isN
 by_cases h : n ≥ -1000000
 ·rw [if_pos h, decide_eq_true (by omega : -1000000 ≤ n)]; simp
 ·rw [if_neg h, decide_eq_false (by omega : ¬ -1000000 ≤ n)]; rfl
theorem aOk_some (k i : Int) : impl_AddrOk.f k i = some (aOk k i) := by
 unfold impl_AddrOk.f aOk
 by_cases h1 : k ≥ 1
 ·rw [if_pos h1]
  by_cases h2 : k ≤ 3
  ·rw [if_pos h2]
   by_cases h3 : i ≥ 0
   ·rw [if_pos h3]; simp [h2, (by omega : 1 ≤ k), (by omega : 0 ≤ i)]
   ·rw [if_neg h3]; simp [(by omega : ¬ 0 ≤ i)]
  ·rw [if_neg h2]; simp [h2]
 ·rw [if_neg h1]; simp [(by omega : ¬ 1 ≤ k)]
theorem puts_some (k i : Int) : impl_puts.f k i = some (aOk k i && k != 1) := by
 unfold impl_puts.f
 rw [aOk_some]; simp only [Option.bind_some]
 cases aOk k i <;> rfl
theorem two_some (n : Int) : impl_isTwo.f n = some (decide (3 ≤ n) && decide (n ≤ 9)) := by
 unfold impl_isTwo.f
 by_cases h : n ≥ 3
 ·rw [if_pos h, decide_eq_true (by omega : 3 ≤ n)]; simp
 ·rw [if_neg h, decide_eq_false (by omega : ¬ 3 ≤ n)]; rfl
def okI (a b c d at_ n : Int) : Bool :=
 if a = 1 then isN b && z2 c d else if a = 2 then b == 0 && aOk c d else if a = 3 then b == 0 && (aOk c d && c != 1)
 else if a = 4 then (decide (3 ≤ b) && decide (b ≤ 9)) && z2 c d else if a = 5 then b == 0 && z2 c d
 else if a = 6 ∨ a = 7 then decide (b > at_) && (decide (b ≤ n) && z2 c d)
 else if a = 8 then decide (b ≥ 0) && (decide (b < at_) && z2 c d) else false
theorem ok_some (k : Nat) (a b c d at_ n : Int) : impl_Ins_ok.f (k + 1) a b c d at_ n = some (okI a b c d at_ n) := by
 unfold impl_Ins_ok.f okI
 by_cases h1 : a = 1
 ·rw [if_pos h1, if_pos h1, isNum_some]; simp only [Option.bind_some]; cases isN b <;> rfl
 rw [if_neg h1, if_neg h1]
 by_cases h2 : a = 2
 ·rw [if_pos h2, if_pos h2, aOk_some]; simp only [Option.bind_some]
  by_cases hb : b = 0
  ·rw [if_pos hb, hb]; rfl
  ·rw [if_neg hb, show (b == 0) = false by simpa using hb]; rfl
 rw [if_neg h2, if_neg h2]
 by_cases h3 : a = 3
 ·rw [if_pos h3, if_pos h3, puts_some]; simp only [Option.bind_some]
  by_cases hb : b = 0
  ·rw [if_pos hb, hb]; rfl
  ·rw [if_neg hb, show (b == 0) = false by simpa using hb]; rfl
 rw [if_neg h3, if_neg h3]
 by_cases h4 : a = 4
 ·rw [if_pos h4, if_pos h4, two_some]; simp only [Option.bind_some]
  cases (decide (3 ≤ b) && decide (b ≤ 9)) <;> rfl
 rw [if_neg h4, if_neg h4]
 by_cases h5 : a = 5
 ·rw [if_pos h5, if_pos h5, h5]; rfl
 rw [if_neg h5, if_neg h5]
 have jt : ∀ a', impl_Ins_ok.j0 (k + 1) at_ n a' true a b c d = some (decide (b > at_) && (decide (b ≤ n) && z2 c d)) := by
  intro a'
  simp only [impl_Ins_ok.j0]
  rw [if_pos trivial]
  by_cases q1 : b > at_
  ·rw [if_pos q1, decide_eq_true q1]
   by_cases q2 : b ≤ n
   ·rw [if_pos q2, decide_eq_true q2]; rfl
   ·rw [if_neg q2, decide_eq_false q2]; rfl
  ·rw [if_neg q1, decide_eq_false q1]; rfl
 by_cases h6 : a = 6
 ·rw [if_pos h6, if_pos (Or.inl h6), show (a == 6) = true by simpa using h6]; exact jt a
 rw [if_neg h6]
 by_cases h7 : a = 7
 ·rw [if_pos (Or.inr h7), show (a == 7) = true by simpa using h7]; exact jt a
 rw [if_neg (by omega), show (a == 7) = false by simpa using h7]
 simp only [impl_Ins_ok.j0]
 rw [if_neg (by simp)]
 by_cases h8 : a = 8
 ·rw [if_pos h8, if_pos h8]
  by_cases q1 : b ≥ 0
  ·rw [if_pos q1, decide_eq_true q1]
   by_cases q2 : b < at_
   ·rw [if_pos q2, decide_eq_true q2]; rfl
   ·rw [if_neg q2, decide_eq_false q2]; rfl
  ·rw [if_neg q1, decide_eq_false q1]; rfl
 ·rw [if_neg h8, if_neg h8]
theorem ok_goes {a b c d at_ n : Int} (h : okI a b c d at_ n = true) (hg : goB a = true) (h0 : 0 ≤ at_) (h1 : at_ < n) : 0 ≤ b ∧ b ≤ n := by
 simp only [goB, Bool.or_eq_true, beq_iff_eq] at hg
 unfold okI at h
 rcases hg with rfl | rfl | rfl
 ·simp at h; omega
 ·simp at h; omega
 ·simp at h; omega
def step (i : S30) (at_ n : Nat) (l : List Int) : Option (List Int) :=
 if okI i.f0 i.f1 i.f2.f0 i.f2.f1 at_ n = true then
  if rd l at_ = -1 then none else if rd l at_ < tk i.f0 then none else
  if 12 < rd l at_ - tk i.f0 + gv i.f0 then none else
  if goB i.f0 = true then
   if told l i.f1 (rd l at_ - tk i.f0 + gv i.f0) = true then
    if foB i.f0 = true then
     if told (tell l i.f1 (rd l at_ - tk i.f0 + gv i.f0)) ((at_ + 1 : Nat) : Int) (rd l at_ - tk i.f0 + gv i.f0) = true then some (tell (tell l i.f1 (rd l at_ - tk i.f0 + gv i.f0)) ((at_ + 1 : Nat) : Int) (rd l at_ - tk i.f0 + gv i.f0)) else none
    else some (tell l i.f1 (rd l at_ - tk i.f0 + gv i.f0))
   else none
  else if foB i.f0 = true then
   if told l ((at_ + 1 : Nat) : Int) (rd l at_ - tk i.f0 + gv i.f0) = true then some (tell l ((at_ + 1 : Nat) : Int) (rd l at_ - tk i.f0 + gv i.f0)) else none
  else some l
 else none
def run (ps : List S30) : Nat → Nat → List Int → Option (List Int)
 | 0, _, l => some l
 | m + 1, at_, l => match step (rd_T30 ps at_) at_ ps.length l with
  | none => none
  | some l' => run ps m (at_ + 1) l'
def dep (ps : List S30) : Option (List Int) := if 400 < ps.length then none else run ps ps.length 0 ((List.replicate (ps.length + 1) (-1)).set 0 0)
def okB (ps : List S30) : Bool := match dep ps with
 | none => false
 | some l => rd l (ps.length : Int) == 0
theorem tell_bd {l : List Int} {a n : Int} (h : ∀ x ∈ l, -1 ≤ x ∧ x ≤ 12) (hn : -1 ≤ n ∧ n ≤ 12) : ∀ x ∈ tell l a n, -1 ≤ x ∧ x ≤ 12 := by
 unfold tell; split
 ·intro x hx
  rcases List.mem_or_eq_of_mem_set hx with h1 | rfl
  ·exact h x h1
  ·exact hn
 ·exact h
theorem rd_bd {l : List Int} {a : Int} (h : ∀ x ∈ l, -1 ≤ x ∧ x ≤ 12) : -1 ≤ rd l a ∧ rd l a ≤ 12 := by
 unfold rd
 by_cases hi : a.toNat < l.length
 ·rw [List.getD_eq_getElem?_getD, List.getElem?_eq_getElem hi]; exact h _ (List.getElem_mem hi)
 ·rw [List.getD_eq_getElem?_getD, List.getElem?_eq_none (by omega)]; simp
end Go.Proofs.YtjamfddhcigchaaGreatDoor.Hp
