/- The run of code, plain: one step, so many steps, what a run keeps, what more fuel leaves, and that it ends. No condition. -/
import Derived.Test.YtjamfddhcigchaaGreatDoorTFnExactCodeRunHFnExactCodeRunx2
import Derived.Test.YtjamfddhcigchaaGreatDoorTFnExactCodeRunGw
import Derived.Test.YtjamfddhcigchaaGreatDoorTFnExactCodeRunGt
namespace Go.Proofs.YtjamfddhcigchaaGreatDoor.Hm
open Go.RowKit  Go.Proofs.YtjamfddhcigchaaGreatDoor.Gm Go.Proofs.YtjamfddhcigchaaGreatDoor.Gn Go.Proofs.YtjamfddhcigchaaGreatDoor.Gz Go.Proofs.YtjamfddhcigchaaGreatDoor.Gq Go.Proofs.YtjamfddhcigchaaGreatDoor.HFnExactCodeRun Go.Proofs.YtjamfddhcigchaaGreatDoorW.PrintWords Go.Proofs.YtjamfddhcigchaaGreatDoorW.PrintLast Go.Proofs.YtjamfddhcigchaaGreatDoorW.PrintMore
set_option linter.unusedVariables false
set_option linter.unusedSimpArgs false
structure M3 where
 a : List Int
 b : List Int
 c : List Int
def M3.ok (m : M3) : Bool := okM m.a m.b m.c
def M3.len (m : M3) : Prop := m.a.length = 6 ∧ m.b.length = 6 ∧ m.c.length = 6
def M3.get (m : M3) (k i : Int) : Int := rd (pk m.a m.b m.c k) i
def M3.put (m : M3) (k i n : Int) : M3 := ⟨pT 1 m.a k i n, pT 2 m.b k i n, pT 3 m.c k i n⟩
def onI (n : Int) : Bool := n != 0
def isI (b : Bool) : Int := if b = true then 1 else 0
def doI (i : S30) (m : M3) (st : List Int) : Option (M3 × List Int) :=
 if i.f0 = 1 then (if st.length < 12 then some (m, i.f1 :: st) else none)
 else if i.f0 = 2 then (if st.length < 12 ∧ aOk i.f2.f0 i.f2.f1 = true then some (m, m.get i.f2.f0 i.f2.f1 :: st) else none)
 else if i.f0 = 3 then (match st with | x :: r => if pOk i.f2.f0 i.f2.f1 = true then some (m.put i.f2.f0 i.f2.f1 x, r) else none | _ => none)
 else if i.f0 = 4 then (match st with | y :: x :: r => (Gt.impl_two.f i.f1 x y).map fun t => (m, t :: r) | _ => none)
 else if i.f0 = 5 then (match st with | x :: r => some (m, isI (!onI x) :: r) | _ => none)
 else if i.f0 = 6 then (match st with | _ :: r => some (m, r) | _ => none)
 else if i.f0 = 7 ∨ i.f0 = 8 then some (m, st) else none
def goes (i : S30) (st : List Int) : Bool := i.f0 == 7 || (i.f0 == 8 || (i.f0 == 6 && !onI (st.headD 0)))
def nx (i : S30) (st : List Int) (p : Nat) : Nat := if goes i st = true then i.f1.toNat else p + 1
def fu (i : S30) (fl : Nat) : Nat := if i.f0 = 8 then fl - 1 else fl
def runI (ps : List S30) : Nat → M3 → List Int → Nat → Nat → Option (M3 × Int × Nat)
 | 0, _, _, _, _ => none
 | G + 1, m, st, p, fl =>
  if p < ps.length then
   (if (rd_T30 ps p).f0 = 8 ∧ fl = 0 then some (m, 1, 0)
   else if goes (rd_T30 ps p) st = true ∧ (rd_T30 ps p).f1 < 0 then none
   else match doI (rd_T30 ps p) m st with
    | none => none
    | some r => runI ps G r.1 r.2 (nx (rd_T30 ps p) st p) (fu (rd_T30 ps p) fl))
  else some (m, 0, fl)
theorem runI_end {ps : List S30} {G : Nat} {m : M3} {st : List Int} {p fl : Nat} (h : ¬ p < ps.length) : runI ps (G + 1) m st p fl = some (m, 0, fl) := by rw [runI, if_neg h]
theorem runI_long {ps : List S30} {G : Nat} {m : M3} {st : List Int} {p fl : Nat} (h : p < ps.length) (h8 : (rd_T30 ps p).f0 = 8 ∧ fl = 0) : runI ps (G + 1) m st p fl = some (m, 1, 0) := by rw [runI, if_pos h, if_pos h8]
theorem runI_step {ps : List S30} {G : Nat} {m : M3} {st : List Int} {p fl : Nat} {r : M3 × List Int} (h : p < ps.length) (h8 : ¬ ((rd_T30 ps p).f0 = 8 ∧ fl = 0)) (hg : ¬ (goes (rd_T30 ps p) st = true ∧ (rd_T30 ps p).f1 < 0)) (hd : doI (rd_T30 ps p) m st = some r) :
  runI ps (G + 1) m st p fl = runI ps G r.1 r.2 (nx (rd_T30 ps p) st p) (fu (rd_T30 ps p) fl) := by rw [runI, if_pos h, if_neg h8, if_neg hg, hd]
theorem runI_inv {ps : List S30} {G : Nat} {m : M3} {st : List Int} {p fl : Nat} {q : M3 × Int × Nat} (h : runI ps (G + 1) m st p fl = some q) (hp : p < ps.length) (h8 : ¬ ((rd_T30 ps p).f0 = 8 ∧ fl = 0)) :
  ¬ (goes (rd_T30 ps p) st = true ∧ (rd_T30 ps p).f1 < 0) ∧ ∃ r, doI (rd_T30 ps p) m st = some r ∧ runI ps G r.1 r.2 (nx (rd_T30 ps p) st p) (fu (rd_T30 ps p) fl) = some q := by
 rw [runI, if_pos hp, if_neg h8] at h
 by_cases hg : goes (rd_T30 ps p) st = true ∧ (rd_T30 ps p).f1 < 0
 ·rw [if_pos hg] at h; cases h
 ·rw [if_neg hg] at h
  cases hd : doI (rd_T30 ps p) m st with
  | none => rw [hd] at h; cases h
  | some r => rw [hd] at h; exact ⟨hg, r, rfl, h⟩
theorem doI_keeps {P : M3 → Prop} (hP : ∀ m k i n, P m → P (m.put k i n)) {i : S30} {m : M3} {st : List Int} {r : M3 × List Int} (hm : P m) (h : doI i m st = some r) : P r.1 := by
 unfold doI at h
 split at h
 ·split at h
  ·cases h; exact hm
  ·cases h
 split at h
 ·split at h
  ·cases h; exact hm
  ·cases h
 split at h
 ·split at h
  ·split at h
   ·cases h; exact hP _ _ _ _ hm
   ·cases h
  ·cases h
 split at h
 ·split at h
  ·cases e : Gt.impl_two.f i.f1 _ _ with
   | none => rw [e] at h; cases h
   | some t => rw [e] at h; cases h; exact hm
  ·cases h
 split at h
 ·split at h
  ·cases h; exact hm
  ·cases h
 split at h
 ·split at h
  ·cases h; exact hm
  ·cases h
 split at h
 ·cases h; exact hm
 ·cases h
theorem runI_keeps {P : M3 → Prop} (hP : ∀ m k i n, P m → P (m.put k i n)) (ps : List S30) : ∀ (G : Nat) (m : M3) (st : List Int) (p fl : Nat) (q : M3 × Int × Nat), P m → runI ps G m st p fl = some q → P q.1
 | 0, m, st, p, fl, q, _, h => by cases h
 | G + 1, m, st, p, fl, q, hm, h => by
  by_cases hp : p < ps.length
  ·by_cases h8 : (rd_T30 ps p).f0 = 8 ∧ fl = 0
   ·rw [runI_long hp h8] at h; cases h; exact hm
   ·obtain ⟨_, r, hd, hr⟩ := runI_inv h hp h8
    exact runI_keeps hP ps G _ _ _ _ q (doI_keeps hP hm hd) hr
  ·rw [runI_end hp] at h; cases h; exact hm
end Go.Proofs.YtjamfddhcigchaaGreatDoor.Hm
