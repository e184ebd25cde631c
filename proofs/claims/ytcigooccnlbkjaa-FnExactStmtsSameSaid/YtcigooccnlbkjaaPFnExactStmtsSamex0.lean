-- PRINTED BY print.sh 35421559b90ae4d0a3588c463048766b98c2df88dd9212a6774a882060cdf62d: not written by this session
import Derived.Test.YtcigooccnlbkjaaProg
import Derived.Below
import Derived.Deep.Draws
import Derived.Deep.AppendLies
import Derived.Maps.AppendAt
import Derived.OwnWalk
import Derived.Laws.BytesArg
import Derived.Laws.MakeOwn
import Derived.Laws.OwnMore
import Derived.Deep.OwnRows
import Derived.Tactics
import Derived.Lib.ConvBytes
import Derived.Laws.Slices
import Derived.WalkKit
import Derived.KernelRfl
import Derived.RowKit3
import Derived.Deep.LoopGhost
import Derived.Deep.QuietTactic
import Derived.BigQuiet
import Derived.WideLaws
import Derived.Deep.DeepCutAuto
import Derived.Deep.CutBlock
import Derived.Deep.RegionHeld3
import Derived.Laws.Rows
import Derived.Lib.AppendStr
import Derived.ArgAppend
import Derived.Laws.IdiomCopy
import Derived.OrdersHeld
import Derived.Laws.BitsLemmas
import Derived.RowKit
import Derived.Test.YtcigooccnlbkjaaWWords
import Derived.Test.YtcigooccnlbkjaaWLast
import Derived.Test.YtcigooccnlbkjaaWTab
import Derived.Test.YtcigooccnlbkjaaWFour
import Derived.Test.YtcigooccnlbkjaaWQPut
import Derived.Test.YtcigooccnlbkjaaWApart
import Derived.Test.YtcigooccnlbkjaaWArr
import Derived.Test.YtcigooccnlbkjaaWZeros
import Derived.Test.YtcigooccnlbkjaaWFoot
import Derived.Test.YtcigooccnlbkjaaWKept
import Derived.Test.YtcigooccnlbkjaaWShare
import Derived.Test.YtcigooccnlbkjaaWN
import Derived.Test.YtcigooccnlbkjaaWFootNe
import Derived.Test.YtcigooccnlbkjaaWAt
import Derived.Test.YtcigooccnlbkjaaWEqStruct
import Derived.Test.YtcigooccnlbkjaaWRepsOne
import Derived.Test.YtcigooccnlbkjaaWInv
import Derived.Test.YtcigooccnlbkjaaWInvWords
import Derived.Test.YtcigooccnlbkjaaWGuard
import Derived.Test.YtcigooccnlbkjaaWNEv
import Derived.Test.YtcigooccnlbkjaaWMore
namespace Go.Proofs.Ytcigooccnlbkjaa.PFnExactStmtsSame
open Go.RowKit Go.Proofs.YtcigooccnlbkjaaW.PrintWords Go.Proofs.YtcigooccnlbkjaaW.PrintLast Go.Proofs.YtcigooccnlbkjaaW.PrintMore
attribute [local go_sem] max2_int min2_int max_two min_two max_three min_three max_four min_four   -- for this text's walks alone
set_option linter.unusedVariables false
set_option linter.unusedSimpArgs false



def errW : Option Int → Value
  | none => .nilIface
  | some c => .iface 0 (.int .i64 c)
theorem errW_none : errW none = .nilIface := rfl
theorem errW_some (c : Int) : errW (some c) = .iface 0 (.int .i64 c) := rfl

-- the values' own types
/-! #### struct type 46 -/
structure S46 where
  f0 : Int
  f1 : Int
def z46 : S46 := ⟨(0 : Int), (0 : Int)⟩
def k46 : Kd S46 := Kd.iso (Kd.pair (Kd.int .i64) (Kd.int .i64)) (fun x : S46 => (x.f0, x.f1))
theorem k46_open {w : World} {x : S46} {cs : List Value} (h : k46.K w x cs) : cs = [.int .i64 x.f0, .int .i64 x.f1] := by
  obtain ⟨_, _, rfl, rfl, rfl⟩ := h
  exact rfl
theorem k46_openM {w : World} {base : Nat} {ok : Nat → Prop} {x : S46} {cs : List Value} (h : k46.M w base ok x cs) : cs = [.int .i64 x.f0, .int .i64 x.f1] := by
  obtain ⟨_, _, rfl, rfl, rfl⟩ := h
  exact rfl
theorem k46_mk (w : World) (x : S46)  : k46.K w x [.int .i64 x.f0, .int .i64 x.f1] := ⟨[.int .i64 x.f0], [.int .i64 x.f1], rfl, rfl, rfl⟩
theorem k46_mkM (w : World) (base : Nat) (ok : Nat → Prop) (x : S46)  : k46.M w base ok x [.int .i64 x.f0, .int .i64 x.f1] := ⟨[.int .i64 x.f0], [.int .i64 x.f1], rfl, rfl, rfl⟩
def rd_T46 (xs : List S46) (i : Int) : S46 := xs.getD i.toNat z46
theorem at_T46 {w : World} {A : Option Addr} {n : Nat} {xs : List S46} (h : Kd.C k46 w A n xs) (i : Int) (h0 : 0 ≤ i) (h1 : i < n) : ∃ ad , A = some ad ∧ w.cell? (ad.add (i.toNat * 2)) = some (.int .i64 (rd_T46 xs i).f0) ∧ w.cell? ⟨(ad.add (i.toNat * 2)).block, (ad.add (i.toNat * 2)).off + 1, none⟩ = some (.int .i64 (rd_T46 xs i).f1) := by
  obtain ⟨ad, c, e, _, hK, hc0⟩ := Kd.C_get h z46 i h0 h1
  have hc : ∀ j u, c[j]? = some u → w.cell? (ad.add (i.toNat * 2 + j)) = some u := hc0
  obtain rfl := k46_open hK
  exact ⟨ad, e, hc 0 _ rfl, by rw [← add_field _ _ 1 (by omega)]; exact hc 1 _ rfl⟩

/-! #### struct type 49, nested in itself -/
structure S49 where
  f0 : Int
  f1 : Int
  f2 : S46
  f3 : (List S49)
def z49 : S49 := ⟨(0 : Int), (0 : Int), z46, ([] : List S49)⟩
def F49 (d : Kd S49) : Kd S49 := Kd.iso (Kd.pair (Kd.int .i64) (Kd.pair (Kd.int .i64) (Kd.pair k46 (Kd.slice 49 d)))) (fun x : S49 => (x.f0, x.f1, x.f2, x.f3))
theorem mono49 : Kd.Mono F49 := Kd.mono_iso _ (Kd.mono_pair (Kd.mono_const _) (Kd.mono_pair (Kd.mono_const _) (Kd.mono_pair (Kd.mono_const _) (Kd.mono_slice 49 Kd.mono_id))))
theorem sub49 : Kd.Sub F49 [49] := Kd.sub_iso _ (Kd.sub_pair (Kd.sub_const _ (by decide)) (Kd.sub_pair (Kd.sub_const _ (by decide)) (Kd.sub_pair (Kd.sub_const _ (by decide)) (Kd.sub_slice 49 (by decide) Kd.sub_id))))
theorem sz49 : ∀ n, (Kd.upto F49 5 [49] n).sz = 5 := Kd.upto_sz (fun _ => rfl)
def k49 : Kd S49 := Kd.fix F49 5 [49] sz49 (Kd.upto_E sub49)
theorem k49_open {w : World} {x : S49} {cs : List Value} (h : k49.K w x cs) : ∃ A4 c4, cs = [.int .i64 x.f0, .int .i64 x.f1, .int .i64 x.f2.f0, .int .i64 x.f2.f1, .slice A4 x.f3.length c4] ∧ x.f3.length ≤ c4 ∧ k49.C w A4 x.f3.length x.f3 := by
  obtain ⟨n, h⟩ := h
  cases n with
  | zero => exact h.elim
  | succ n =>
    obtain ⟨_, _, rfl, rfl, ⟨_, _, rfl, rfl, ⟨_, _, rfl, s2, ⟨A4, c4, rfl, l4, g4⟩⟩⟩⟩ := h
    obtain rfl := k46_open s2
    exact ⟨A4, c4, rfl, l4, Kd.fix_C g4⟩
theorem k49_openM {w : World} {base : Nat} {ok : Nat → Prop} {x : S49} {cs : List Value} (h : k49.M w base ok x cs) : ∃ v4, cs = [.int .i64 x.f0, .int .i64 x.f1, .int .i64 x.f2.f0, .int .i64 x.f2.f1, v4] ∧ k49.R 49 w base ok v4 x.f3 := by
  obtain ⟨n, h⟩ := h
  cases n with
  | zero => exact h.elim
  | succ n =>
    obtain ⟨_, _, rfl, rfl, ⟨_, _, rfl, rfl, ⟨_, _, rfl, s2, ⟨v4, rfl, g4⟩⟩⟩⟩ := h
    obtain rfl := k46_openM s2
    exact ⟨v4, rfl, Kd.fix_R g4⟩
theorem k49_mk (w : World) (x : S49) {A4 : Option Addr} {c4 : Nat} (l4 : x.f3.length ≤ c4) (g4 : k49.C w A4 x.f3.length x.f3) : k49.K w x [.int .i64 x.f0, .int .i64 x.f1, .int .i64 x.f2.f0, .int .i64 x.f2.f1, .slice A4 x.f3.length c4] := by
  obtain ⟨n4, q4⟩ := Kd.fix_C_back mono49 g4
  have r4 := Kd.upto_C_le mono49 sz49 (show n4 ≤ n4 by omega) q4
  exact ⟨n4 + 1, ⟨[.int .i64 x.f0], [.int .i64 x.f1, .int .i64 x.f2.f0, .int .i64 x.f2.f1, .slice A4 x.f3.length c4], rfl, rfl, ⟨[.int .i64 x.f1], [.int .i64 x.f2.f0, .int .i64 x.f2.f1, .slice A4 x.f3.length c4], rfl, rfl, ⟨[.int .i64 x.f2.f0, .int .i64 x.f2.f1], [.slice A4 x.f3.length c4], rfl, (k46_mk w x.f2 ), ⟨A4, c4, rfl, l4, r4⟩⟩⟩⟩⟩
theorem k49_mkM (w : World) (base : Nat) (ok : Nat → Prop) (x : S49) {v4 : Value} (g4 : k49.R 49 w base ok v4 x.f3) : k49.M w base ok x [.int .i64 x.f0, .int .i64 x.f1, .int .i64 x.f2.f0, .int .i64 x.f2.f1, v4] := by
  obtain ⟨n4, q4⟩ := Kd.fix_R_back mono49 g4
  have r4 := Kd.upto_R_le mono49 sz49 (show n4 ≤ n4 by omega) q4
  exact ⟨n4 + 1, ⟨[.int .i64 x.f0], [.int .i64 x.f1, .int .i64 x.f2.f0, .int .i64 x.f2.f1, v4], rfl, rfl, ⟨[.int .i64 x.f1], [.int .i64 x.f2.f0, .int .i64 x.f2.f1, v4], rfl, rfl, ⟨[.int .i64 x.f2.f0, .int .i64 x.f2.f1], [v4], rfl, (k46_mkM w base ok x.f2 ), ⟨v4, rfl, r4⟩⟩⟩⟩⟩
def rd_T49 (xs : List S49) (i : Int) : S49 := xs.getD i.toNat z49
theorem at_T49 {w : World} {A : Option Addr} {n : Nat} {xs : List S49} (h : Kd.C k49 w A n xs) (i : Int) (h0 : 0 ≤ i) (h1 : i < n) : ∃ ad A4 c4, A = some ad ∧ w.cell? (ad.add (i.toNat * 5)) = some (.int .i64 (rd_T49 xs i).f0) ∧ w.cell? ⟨(ad.add (i.toNat * 5)).block, (ad.add (i.toNat * 5)).off + 1, none⟩ = some (.int .i64 (rd_T49 xs i).f1) ∧ w.cell? ⟨(ad.add (i.toNat * 5)).block, (ad.add (i.toNat * 5)).off + 2, none⟩ = some (.int .i64 (rd_T49 xs i).f2.f0) ∧ w.cell? ⟨(ad.add (i.toNat * 5)).block, (ad.add (i.toNat * 5)).off + 3, none⟩ = some (.int .i64 (rd_T49 xs i).f2.f1) ∧ w.cell? ⟨(ad.add (i.toNat * 5)).block, (ad.add (i.toNat * 5)).off + 4, none⟩ = some (.slice A4 (rd_T49 xs i).f3.length c4) ∧ (rd_T49 xs i).f3.length ≤ c4 ∧ k49.C w A4 (rd_T49 xs i).f3.length (rd_T49 xs i).f3 := by
  obtain ⟨ad, c, e, _, hK, hc0⟩ := Kd.C_get h z49 i h0 h1
  have hc : ∀ j u, c[j]? = some u → w.cell? (ad.add (i.toNat * 5 + j)) = some u := hc0
  obtain ⟨A4, c4, rfl, l4, g4⟩ := k49_open hK
  exact ⟨ad, A4, c4, e, hc 0 _ rfl, by rw [← add_field _ _ 1 (by omega)]; exact hc 1 _ rfl, by rw [← add_field _ _ 2 (by omega)]; exact hc 2 _ rfl, by rw [← add_field _ _ 3 (by omega)]; exact hc 3 _ rfl, by rw [← add_field _ _ 4 (by omega)]; exact hc 4 _ rfl, l4, g4⟩

/-! #### struct type 107, nested in itself -/
structure S107 where
  f0 : Int
  f1 : S46
  f2 : S49
  f3 : (List S107)
  f4 : (List S107)
def z107 : S107 := ⟨(0 : Int), z46, z49, ([] : List S107), ([] : List S107)⟩
def F107 (d : Kd S107) : Kd S107 := Kd.iso (Kd.pair (Kd.int .i64) (Kd.pair k46 (Kd.pair k49 (Kd.pair (Kd.slice 107 d) (Kd.slice 107 d))))) (fun x : S107 => (x.f0, x.f1, x.f2, x.f3, x.f4))
theorem mono107 : Kd.Mono F107 := Kd.mono_iso _ (Kd.mono_pair (Kd.mono_const _) (Kd.mono_pair (Kd.mono_const _) (Kd.mono_pair (Kd.mono_const _) (Kd.mono_pair (Kd.mono_slice 107 Kd.mono_id) (Kd.mono_slice 107 Kd.mono_id)))))
theorem sub107 : Kd.Sub F107 [49, 107] := Kd.sub_iso _ (Kd.sub_pair (Kd.sub_const _ (by decide)) (Kd.sub_pair (Kd.sub_const _ (by decide)) (Kd.sub_pair (Kd.sub_const _ (by decide)) (Kd.sub_pair (Kd.sub_slice 107 (by decide) Kd.sub_id) (Kd.sub_slice 107 (by decide) Kd.sub_id)))))
theorem sz107 : ∀ n, (Kd.upto F107 10 [49, 107] n).sz = 10 := Kd.upto_sz (fun _ => rfl)
def k107 : Kd S107 := Kd.fix F107 10 [49, 107] sz107 (Kd.upto_E sub107)
theorem k107_open {w : World} {x : S107} {cs : List Value} (h : k107.K w x cs) : ∃ A7 c7 A8 c8 A9 c9, cs = [.int .i64 x.f0, .int .i64 x.f1.f0, .int .i64 x.f1.f1, .int .i64 x.f2.f0, .int .i64 x.f2.f1, .int .i64 x.f2.f2.f0, .int .i64 x.f2.f2.f1, .slice A7 x.f2.f3.length c7, .slice A8 x.f3.length c8, .slice A9 x.f4.length c9] ∧ x.f2.f3.length ≤ c7 ∧ k49.C w A7 x.f2.f3.length x.f2.f3 ∧ x.f3.length ≤ c8 ∧ k107.C w A8 x.f3.length x.f3 ∧ x.f4.length ≤ c9 ∧ k107.C w A9 x.f4.length x.f4 := by
  obtain ⟨n, h⟩ := h
  cases n with
  | zero => exact h.elim
  | succ n =>
    obtain ⟨_, _, rfl, rfl, ⟨_, _, rfl, s1, ⟨_, _, rfl, s3, ⟨_, _, rfl, ⟨A8, c8, rfl, l8, g8⟩, ⟨A9, c9, rfl, l9, g9⟩⟩⟩⟩⟩ := h
    obtain rfl := k46_open s1
    obtain ⟨A7, c7, rfl, l7, g7⟩ := k49_open s3
    exact ⟨A7, c7, A8, c8, A9, c9, rfl, l7, g7, l8, Kd.fix_C g8, l9, Kd.fix_C g9⟩
theorem k107_openM {w : World} {base : Nat} {ok : Nat → Prop} {x : S107} {cs : List Value} (h : k107.M w base ok x cs) : ∃ v7 v8 v9, cs = [.int .i64 x.f0, .int .i64 x.f1.f0, .int .i64 x.f1.f1, .int .i64 x.f2.f0, .int .i64 x.f2.f1, .int .i64 x.f2.f2.f0, .int .i64 x.f2.f2.f1, v7, v8, v9] ∧ k49.R 49 w base ok v7 x.f2.f3 ∧ k107.R 107 w base ok v8 x.f3 ∧ k107.R 107 w base ok v9 x.f4 := by
  obtain ⟨n, h⟩ := h
  cases n with
  | zero => exact h.elim
  | succ n =>
    obtain ⟨_, _, rfl, rfl, ⟨_, _, rfl, s1, ⟨_, _, rfl, s3, ⟨_, _, rfl, ⟨v8, rfl, g8⟩, ⟨v9, rfl, g9⟩⟩⟩⟩⟩ := h
    obtain rfl := k46_openM s1
    obtain ⟨v7, rfl, g7⟩ := k49_openM s3
    exact ⟨v7, v8, v9, rfl, g7, Kd.fix_R g8, Kd.fix_R g9⟩
theorem k107_mk (w : World) (x : S107) {A7 : Option Addr} {c7 : Nat} (l7 : x.f2.f3.length ≤ c7) (g7 : k49.C w A7 x.f2.f3.length x.f2.f3) {A8 : Option Addr} {c8 : Nat} (l8 : x.f3.length ≤ c8) (g8 : k107.C w A8 x.f3.length x.f3) {A9 : Option Addr} {c9 : Nat} (l9 : x.f4.length ≤ c9) (g9 : k107.C w A9 x.f4.length x.f4) : k107.K w x [.int .i64 x.f0, .int .i64 x.f1.f0, .int .i64 x.f1.f1, .int .i64 x.f2.f0, .int .i64 x.f2.f1, .int .i64 x.f2.f2.f0, .int .i64 x.f2.f2.f1, .slice A7 x.f2.f3.length c7, .slice A8 x.f3.length c8, .slice A9 x.f4.length c9] := by
  obtain ⟨n8, q8⟩ := Kd.fix_C_back mono107 g8
  obtain ⟨n9, q9⟩ := Kd.fix_C_back mono107 g9
  have r8 := Kd.upto_C_le mono107 sz107 (show n8 ≤ (max n8 n9) by omega) q8
  have r9 := Kd.upto_C_le mono107 sz107 (show n9 ≤ (max n8 n9) by omega) q9
  exact ⟨(max n8 n9) + 1, ⟨[.int .i64 x.f0], [.int .i64 x.f1.f0, .int .i64 x.f1.f1, .int .i64 x.f2.f0, .int .i64 x.f2.f1, .int .i64 x.f2.f2.f0, .int .i64 x.f2.f2.f1, .slice A7 x.f2.f3.length c7, .slice A8 x.f3.length c8, .slice A9 x.f4.length c9], rfl, rfl, ⟨[.int .i64 x.f1.f0, .int .i64 x.f1.f1], [.int .i64 x.f2.f0, .int .i64 x.f2.f1, .int .i64 x.f2.f2.f0, .int .i64 x.f2.f2.f1, .slice A7 x.f2.f3.length c7, .slice A8 x.f3.length c8, .slice A9 x.f4.length c9], rfl, (k46_mk w x.f1 ), ⟨[.int .i64 x.f2.f0, .int .i64 x.f2.f1, .int .i64 x.f2.f2.f0, .int .i64 x.f2.f2.f1, .slice A7 x.f2.f3.length c7], [.slice A8 x.f3.length c8, .slice A9 x.f4.length c9], rfl, (k49_mk w x.f2 l7 g7), ⟨[.slice A8 x.f3.length c8], [.slice A9 x.f4.length c9], rfl, ⟨A8, c8, rfl, l8, r8⟩, ⟨A9, c9, rfl, l9, r9⟩⟩⟩⟩⟩⟩
theorem k107_mkM (w : World) (base : Nat) (ok : Nat → Prop) (x : S107) {v7 : Value} (g7 : k49.R 49 w base ok v7 x.f2.f3) {v8 : Value} (g8 : k107.R 107 w base ok v8 x.f3) {v9 : Value} (g9 : k107.R 107 w base ok v9 x.f4) : k107.M w base ok x [.int .i64 x.f0, .int .i64 x.f1.f0, .int .i64 x.f1.f1, .int .i64 x.f2.f0, .int .i64 x.f2.f1, .int .i64 x.f2.f2.f0, .int .i64 x.f2.f2.f1, v7, v8, v9] := by
  obtain ⟨n8, q8⟩ := Kd.fix_R_back mono107 g8
  obtain ⟨n9, q9⟩ := Kd.fix_R_back mono107 g9
  have r8 := Kd.upto_R_le mono107 sz107 (show n8 ≤ (max n8 n9) by omega) q8
  have r9 := Kd.upto_R_le mono107 sz107 (show n9 ≤ (max n8 n9) by omega) q9
  exact ⟨(max n8 n9) + 1, ⟨[.int .i64 x.f0], [.int .i64 x.f1.f0, .int .i64 x.f1.f1, .int .i64 x.f2.f0, .int .i64 x.f2.f1, .int .i64 x.f2.f2.f0, .int .i64 x.f2.f2.f1, v7, v8, v9], rfl, rfl, ⟨[.int .i64 x.f1.f0, .int .i64 x.f1.f1], [.int .i64 x.f2.f0, .int .i64 x.f2.f1, .int .i64 x.f2.f2.f0, .int .i64 x.f2.f2.f1, v7, v8, v9], rfl, (k46_mkM w base ok x.f1 ), ⟨[.int .i64 x.f2.f0, .int .i64 x.f2.f1, .int .i64 x.f2.f2.f0, .int .i64 x.f2.f2.f1, v7], [v8, v9], rfl, (k49_mkM w base ok x.f2 g7), ⟨[v8], [v9], rfl, ⟨v8, rfl, r8⟩, ⟨v9, rfl, r9⟩⟩⟩⟩⟩⟩
def rd_T107 (xs : List S107) (i : Int) : S107 := xs.getD i.toNat z107
theorem at_T107 {w : World} {A : Option Addr} {n : Nat} {xs : List S107} (h : Kd.C k107 w A n xs) (i : Int) (h0 : 0 ≤ i) (h1 : i < n) : ∃ ad A7 c7 A8 c8 A9 c9, A = some ad ∧ w.cell? (ad.add (i.toNat * 10)) = some (.int .i64 (rd_T107 xs i).f0) ∧ w.cell? ⟨(ad.add (i.toNat * 10)).block, (ad.add (i.toNat * 10)).off + 1, none⟩ = some (.int .i64 (rd_T107 xs i).f1.f0) ∧ w.cell? ⟨(ad.add (i.toNat * 10)).block, (ad.add (i.toNat * 10)).off + 2, none⟩ = some (.int .i64 (rd_T107 xs i).f1.f1) ∧ w.cell? ⟨(ad.add (i.toNat * 10)).block, (ad.add (i.toNat * 10)).off + 3, none⟩ = some (.int .i64 (rd_T107 xs i).f2.f0) ∧ w.cell? ⟨(ad.add (i.toNat * 10)).block, (ad.add (i.toNat * 10)).off + 4, none⟩ = some (.int .i64 (rd_T107 xs i).f2.f1) ∧ w.cell? ⟨(ad.add (i.toNat * 10)).block, (ad.add (i.toNat * 10)).off + 5, none⟩ = some (.int .i64 (rd_T107 xs i).f2.f2.f0) ∧ w.cell? ⟨(ad.add (i.toNat * 10)).block, (ad.add (i.toNat * 10)).off + 6, none⟩ = some (.int .i64 (rd_T107 xs i).f2.f2.f1) ∧ w.cell? ⟨(ad.add (i.toNat * 10)).block, (ad.add (i.toNat * 10)).off + 7, none⟩ = some (.slice A7 (rd_T107 xs i).f2.f3.length c7) ∧ w.cell? ⟨(ad.add (i.toNat * 10)).block, (ad.add (i.toNat * 10)).off + 8, none⟩ = some (.slice A8 (rd_T107 xs i).f3.length c8) ∧ w.cell? ⟨(ad.add (i.toNat * 10)).block, (ad.add (i.toNat * 10)).off + 9, none⟩ = some (.slice A9 (rd_T107 xs i).f4.length c9) ∧ (rd_T107 xs i).f2.f3.length ≤ c7 ∧ k49.C w A7 (rd_T107 xs i).f2.f3.length (rd_T107 xs i).f2.f3 ∧ (rd_T107 xs i).f3.length ≤ c8 ∧ k107.C w A8 (rd_T107 xs i).f3.length (rd_T107 xs i).f3 ∧ (rd_T107 xs i).f4.length ≤ c9 ∧ k107.C w A9 (rd_T107 xs i).f4.length (rd_T107 xs i).f4 := by
  obtain ⟨ad, c, e, _, hK, hc0⟩ := Kd.C_get h z107 i h0 h1
  have hc : ∀ j u, c[j]? = some u → w.cell? (ad.add (i.toNat * 10 + j)) = some u := hc0
  obtain ⟨A7, c7, A8, c8, A9, c9, rfl, l7, g7, l8, g8, l9, g9⟩ := k107_open hK
  exact ⟨ad, A7, c7, A8, c8, A9, c9, e, hc 0 _ rfl, by rw [← add_field _ _ 1 (by omega)]; exact hc 1 _ rfl, by rw [← add_field _ _ 2 (by omega)]; exact hc 2 _ rfl, by rw [← add_field _ _ 3 (by omega)]; exact hc 3 _ rfl, by rw [← add_field _ _ 4 (by omega)]; exact hc 4 _ rfl, by rw [← add_field _ _ 5 (by omega)]; exact hc 5 _ rfl, by rw [← add_field _ _ 6 (by omega)]; exact hc 6 _ rfl, by rw [← add_field _ _ 7 (by omega)]; exact hc 7 _ rfl, by rw [← add_field _ _ 8 (by omega)]; exact hc 8 _ rfl, by rw [← add_field _ _ 9 (by omega)]; exact hc 9 _ rfl, l7, g7, l8, g8, l9, g9⟩

/-! #### struct type 52 -/
structure S52 where
  f0 : Int
  f1 : Int
def z52 : S52 := ⟨(0 : Int), (0 : Int)⟩
def k52 : Kd S52 := Kd.iso (Kd.pair (Kd.int .i64) (Kd.int .i64)) (fun x : S52 => (x.f0, x.f1))
theorem k52_open {w : World} {x : S52} {cs : List Value} (h : k52.K w x cs) : cs = [.int .i64 x.f0, .int .i64 x.f1] := by
  obtain ⟨_, _, rfl, rfl, rfl⟩ := h
  exact rfl
theorem k52_openM {w : World} {base : Nat} {ok : Nat → Prop} {x : S52} {cs : List Value} (h : k52.M w base ok x cs) : cs = [.int .i64 x.f0, .int .i64 x.f1] := by
  obtain ⟨_, _, rfl, rfl, rfl⟩ := h
  exact rfl
theorem k52_mk (w : World) (x : S52)  : k52.K w x [.int .i64 x.f0, .int .i64 x.f1] := ⟨[.int .i64 x.f0], [.int .i64 x.f1], rfl, rfl, rfl⟩
theorem k52_mkM (w : World) (base : Nat) (ok : Nat → Prop) (x : S52)  : k52.M w base ok x [.int .i64 x.f0, .int .i64 x.f1] := ⟨[.int .i64 x.f0], [.int .i64 x.f1], rfl, rfl, rfl⟩
def rd_T52 (xs : List S52) (i : Int) : S52 := xs.getD i.toNat z52
theorem at_T52 {w : World} {A : Option Addr} {n : Nat} {xs : List S52} (h : Kd.C k52 w A n xs) (i : Int) (h0 : 0 ≤ i) (h1 : i < n) : ∃ ad , A = some ad ∧ w.cell? (ad.add (i.toNat * 2)) = some (.int .i64 (rd_T52 xs i).f0) ∧ w.cell? ⟨(ad.add (i.toNat * 2)).block, (ad.add (i.toNat * 2)).off + 1, none⟩ = some (.int .i64 (rd_T52 xs i).f1) := by
  obtain ⟨ad, c, e, _, hK, hc0⟩ := Kd.C_get h z52 i h0 h1
  have hc : ∀ j u, c[j]? = some u → w.cell? (ad.add (i.toNat * 2 + j)) = some u := hc0
  obtain rfl := k52_open hK
  exact ⟨ad, e, hc 0 _ rfl, by rw [← add_field _ _ 1 (by omega)]; exact hc 1 _ rfl⟩

/-! #### struct type 55, nested in itself -/
structure S55 where
  f0 : Int
  f1 : Int
  f2 : S52
  f3 : (List S55)
def z55 : S55 := ⟨(0 : Int), (0 : Int), z52, ([] : List S55)⟩
def F55 (d : Kd S55) : Kd S55 := Kd.iso (Kd.pair (Kd.int .i64) (Kd.pair (Kd.int .i64) (Kd.pair k52 (Kd.slice 55 d)))) (fun x : S55 => (x.f0, x.f1, x.f2, x.f3))
theorem mono55 : Kd.Mono F55 := Kd.mono_iso _ (Kd.mono_pair (Kd.mono_const _) (Kd.mono_pair (Kd.mono_const _) (Kd.mono_pair (Kd.mono_const _) (Kd.mono_slice 55 Kd.mono_id))))
theorem sub55 : Kd.Sub F55 [55] := Kd.sub_iso _ (Kd.sub_pair (Kd.sub_const _ (by decide)) (Kd.sub_pair (Kd.sub_const _ (by decide)) (Kd.sub_pair (Kd.sub_const _ (by decide)) (Kd.sub_slice 55 (by decide) Kd.sub_id))))
theorem sz55 : ∀ n, (Kd.upto F55 5 [55] n).sz = 5 := Kd.upto_sz (fun _ => rfl)
def k55 : Kd S55 := Kd.fix F55 5 [55] sz55 (Kd.upto_E sub55)
theorem k55_open {w : World} {x : S55} {cs : List Value} (h : k55.K w x cs) : ∃ A4 c4, cs = [.int .i64 x.f0, .int .i64 x.f1, .int .i64 x.f2.f0, .int .i64 x.f2.f1, .slice A4 x.f3.length c4] ∧ x.f3.length ≤ c4 ∧ k55.C w A4 x.f3.length x.f3 := by
  obtain ⟨n, h⟩ := h
  cases n with
  | zero => exact h.elim
  | succ n =>
    obtain ⟨_, _, rfl, rfl, ⟨_, _, rfl, rfl, ⟨_, _, rfl, s2, ⟨A4, c4, rfl, l4, g4⟩⟩⟩⟩ := h
    obtain rfl := k52_open s2
    exact ⟨A4, c4, rfl, l4, Kd.fix_C g4⟩
theorem k55_openM {w : World} {base : Nat} {ok : Nat → Prop} {x : S55} {cs : List Value} (h : k55.M w base ok x cs) : ∃ v4, cs = [.int .i64 x.f0, .int .i64 x.f1, .int .i64 x.f2.f0, .int .i64 x.f2.f1, v4] ∧ k55.R 55 w base ok v4 x.f3 := by
  obtain ⟨n, h⟩ := h
  cases n with
  | zero => exact h.elim
  | succ n =>
    obtain ⟨_, _, rfl, rfl, ⟨_, _, rfl, rfl, ⟨_, _, rfl, s2, ⟨v4, rfl, g4⟩⟩⟩⟩ := h
    obtain rfl := k52_openM s2
    exact ⟨v4, rfl, Kd.fix_R g4⟩
theorem k55_mk (w : World) (x : S55) {A4 : Option Addr} {c4 : Nat} (l4 : x.f3.length ≤ c4) (g4 : k55.C w A4 x.f3.length x.f3) : k55.K w x [.int .i64 x.f0, .int .i64 x.f1, .int .i64 x.f2.f0, .int .i64 x.f2.f1, .slice A4 x.f3.length c4] := by
  obtain ⟨n4, q4⟩ := Kd.fix_C_back mono55 g4
  have r4 := Kd.upto_C_le mono55 sz55 (show n4 ≤ n4 by omega) q4
  exact ⟨n4 + 1, ⟨[.int .i64 x.f0], [.int .i64 x.f1, .int .i64 x.f2.f0, .int .i64 x.f2.f1, .slice A4 x.f3.length c4], rfl, rfl, ⟨[.int .i64 x.f1], [.int .i64 x.f2.f0, .int .i64 x.f2.f1, .slice A4 x.f3.length c4], rfl, rfl, ⟨[.int .i64 x.f2.f0, .int .i64 x.f2.f1], [.slice A4 x.f3.length c4], rfl, (k52_mk w x.f2 ), ⟨A4, c4, rfl, l4, r4⟩⟩⟩⟩⟩
theorem k55_mkM (w : World) (base : Nat) (ok : Nat → Prop) (x : S55) {v4 : Value} (g4 : k55.R 55 w base ok v4 x.f3) : k55.M w base ok x [.int .i64 x.f0, .int .i64 x.f1, .int .i64 x.f2.f0, .int .i64 x.f2.f1, v4] := by
  obtain ⟨n4, q4⟩ := Kd.fix_R_back mono55 g4
  have r4 := Kd.upto_R_le mono55 sz55 (show n4 ≤ n4 by omega) q4
  exact ⟨n4 + 1, ⟨[.int .i64 x.f0], [.int .i64 x.f1, .int .i64 x.f2.f0, .int .i64 x.f2.f1, v4], rfl, rfl, ⟨[.int .i64 x.f1], [.int .i64 x.f2.f0, .int .i64 x.f2.f1, v4], rfl, rfl, ⟨[.int .i64 x.f2.f0, .int .i64 x.f2.f1], [v4], rfl, (k52_mkM w base ok x.f2 ), ⟨v4, rfl, r4⟩⟩⟩⟩⟩
def rd_T55 (xs : List S55) (i : Int) : S55 := xs.getD i.toNat z55
theorem at_T55 {w : World} {A : Option Addr} {n : Nat} {xs : List S55} (h : Kd.C k55 w A n xs) (i : Int) (h0 : 0 ≤ i) (h1 : i < n) : ∃ ad A4 c4, A = some ad ∧ w.cell? (ad.add (i.toNat * 5)) = some (.int .i64 (rd_T55 xs i).f0) ∧ w.cell? ⟨(ad.add (i.toNat * 5)).block, (ad.add (i.toNat * 5)).off + 1, none⟩ = some (.int .i64 (rd_T55 xs i).f1) ∧ w.cell? ⟨(ad.add (i.toNat * 5)).block, (ad.add (i.toNat * 5)).off + 2, none⟩ = some (.int .i64 (rd_T55 xs i).f2.f0) ∧ w.cell? ⟨(ad.add (i.toNat * 5)).block, (ad.add (i.toNat * 5)).off + 3, none⟩ = some (.int .i64 (rd_T55 xs i).f2.f1) ∧ w.cell? ⟨(ad.add (i.toNat * 5)).block, (ad.add (i.toNat * 5)).off + 4, none⟩ = some (.slice A4 (rd_T55 xs i).f3.length c4) ∧ (rd_T55 xs i).f3.length ≤ c4 ∧ k55.C w A4 (rd_T55 xs i).f3.length (rd_T55 xs i).f3 := by
  obtain ⟨ad, c, e, _, hK, hc0⟩ := Kd.C_get h z55 i h0 h1
  have hc : ∀ j u, c[j]? = some u → w.cell? (ad.add (i.toNat * 5 + j)) = some u := hc0
  obtain ⟨A4, c4, rfl, l4, g4⟩ := k55_open hK
  exact ⟨ad, A4, c4, e, hc 0 _ rfl, by rw [← add_field _ _ 1 (by omega)]; exact hc 1 _ rfl, by rw [← add_field _ _ 2 (by omega)]; exact hc 2 _ rfl, by rw [← add_field _ _ 3 (by omega)]; exact hc 3 _ rfl, by rw [← add_field _ _ 4 (by omega)]; exact hc 4 _ rfl, l4, g4⟩

/-! #### struct type 109, nested in itself -/
structure S109 where
  f0 : Int
  f1 : S52
  f2 : S55
  f3 : (List S109)
  f4 : (List S109)
def z109 : S109 := ⟨(0 : Int), z52, z55, ([] : List S109), ([] : List S109)⟩
def F109 (d : Kd S109) : Kd S109 := Kd.iso (Kd.pair (Kd.int .i64) (Kd.pair k52 (Kd.pair k55 (Kd.pair (Kd.slice 109 d) (Kd.slice 109 d))))) (fun x : S109 => (x.f0, x.f1, x.f2, x.f3, x.f4))
theorem mono109 : Kd.Mono F109 := Kd.mono_iso _ (Kd.mono_pair (Kd.mono_const _) (Kd.mono_pair (Kd.mono_const _) (Kd.mono_pair (Kd.mono_const _) (Kd.mono_pair (Kd.mono_slice 109 Kd.mono_id) (Kd.mono_slice 109 Kd.mono_id)))))
theorem sub109 : Kd.Sub F109 [55, 109] := Kd.sub_iso _ (Kd.sub_pair (Kd.sub_const _ (by decide)) (Kd.sub_pair (Kd.sub_const _ (by decide)) (Kd.sub_pair (Kd.sub_const _ (by decide)) (Kd.sub_pair (Kd.sub_slice 109 (by decide) Kd.sub_id) (Kd.sub_slice 109 (by decide) Kd.sub_id)))))
theorem sz109 : ∀ n, (Kd.upto F109 10 [55, 109] n).sz = 10 := Kd.upto_sz (fun _ => rfl)
def k109 : Kd S109 := Kd.fix F109 10 [55, 109] sz109 (Kd.upto_E sub109)
theorem k109_open {w : World} {x : S109} {cs : List Value} (h : k109.K w x cs) : ∃ A7 c7 A8 c8 A9 c9, cs = [.int .i64 x.f0, .int .i64 x.f1.f0, .int .i64 x.f1.f1, .int .i64 x.f2.f0, .int .i64 x.f2.f1, .int .i64 x.f2.f2.f0, .int .i64 x.f2.f2.f1, .slice A7 x.f2.f3.length c7, .slice A8 x.f3.length c8, .slice A9 x.f4.length c9] ∧ x.f2.f3.length ≤ c7 ∧ k55.C w A7 x.f2.f3.length x.f2.f3 ∧ x.f3.length ≤ c8 ∧ k109.C w A8 x.f3.length x.f3 ∧ x.f4.length ≤ c9 ∧ k109.C w A9 x.f4.length x.f4 := by
  obtain ⟨n, h⟩ := h
  cases n with
  | zero => exact h.elim
  | succ n =>
    obtain ⟨_, _, rfl, rfl, ⟨_, _, rfl, s1, ⟨_, _, rfl, s3, ⟨_, _, rfl, ⟨A8, c8, rfl, l8, g8⟩, ⟨A9, c9, rfl, l9, g9⟩⟩⟩⟩⟩ := h
    obtain rfl := k52_open s1
    obtain ⟨A7, c7, rfl, l7, g7⟩ := k55_open s3
    exact ⟨A7, c7, A8, c8, A9, c9, rfl, l7, g7, l8, Kd.fix_C g8, l9, Kd.fix_C g9⟩
theorem k109_openM {w : World} {base : Nat} {ok : Nat → Prop} {x : S109} {cs : List Value} (h : k109.M w base ok x cs) : ∃ v7 v8 v9, cs = [.int .i64 x.f0, .int .i64 x.f1.f0, .int .i64 x.f1.f1, .int .i64 x.f2.f0, .int .i64 x.f2.f1, .int .i64 x.f2.f2.f0, .int .i64 x.f2.f2.f1, v7, v8, v9] ∧ k55.R 55 w base ok v7 x.f2.f3 ∧ k109.R 109 w base ok v8 x.f3 ∧ k109.R 109 w base ok v9 x.f4 := by
  obtain ⟨n, h⟩ := h
  cases n with
  | zero => exact h.elim
  | succ n =>
    obtain ⟨_, _, rfl, rfl, ⟨_, _, rfl, s1, ⟨_, _, rfl, s3, ⟨_, _, rfl, ⟨v8, rfl, g8⟩, ⟨v9, rfl, g9⟩⟩⟩⟩⟩ := h
    obtain rfl := k52_openM s1
    obtain ⟨v7, rfl, g7⟩ := k55_openM s3
    exact ⟨v7, v8, v9, rfl, g7, Kd.fix_R g8, Kd.fix_R g9⟩
theorem k109_mk (w : World) (x : S109) {A7 : Option Addr} {c7 : Nat} (l7 : x.f2.f3.length ≤ c7) (g7 : k55.C w A7 x.f2.f3.length x.f2.f3) {A8 : Option Addr} {c8 : Nat} (l8 : x.f3.length ≤ c8) (g8 : k109.C w A8 x.f3.length x.f3) {A9 : Option Addr} {c9 : Nat} (l9 : x.f4.length ≤ c9) (g9 : k109.C w A9 x.f4.length x.f4) : k109.K w x [.int .i64 x.f0, .int .i64 x.f1.f0, .int .i64 x.f1.f1, .int .i64 x.f2.f0, .int .i64 x.f2.f1, .int .i64 x.f2.f2.f0, .int .i64 x.f2.f2.f1, .slice A7 x.f2.f3.length c7, .slice A8 x.f3.length c8, .slice A9 x.f4.length c9] := by
  obtain ⟨n8, q8⟩ := Kd.fix_C_back mono109 g8
  obtain ⟨n9, q9⟩ := Kd.fix_C_back mono109 g9
  have r8 := Kd.upto_C_le mono109 sz109 (show n8 ≤ (max n8 n9) by omega) q8
  have r9 := Kd.upto_C_le mono109 sz109 (show n9 ≤ (max n8 n9) by omega) q9
  exact ⟨(max n8 n9) + 1, ⟨[.int .i64 x.f0], [.int .i64 x.f1.f0, .int .i64 x.f1.f1, .int .i64 x.f2.f0, .int .i64 x.f2.f1, .int .i64 x.f2.f2.f0, .int .i64 x.f2.f2.f1, .slice A7 x.f2.f3.length c7, .slice A8 x.f3.length c8, .slice A9 x.f4.length c9], rfl, rfl, ⟨[.int .i64 x.f1.f0, .int .i64 x.f1.f1], [.int .i64 x.f2.f0, .int .i64 x.f2.f1, .int .i64 x.f2.f2.f0, .int .i64 x.f2.f2.f1, .slice A7 x.f2.f3.length c7, .slice A8 x.f3.length c8, .slice A9 x.f4.length c9], rfl, (k52_mk w x.f1 ), ⟨[.int .i64 x.f2.f0, .int .i64 x.f2.f1, .int .i64 x.f2.f2.f0, .int .i64 x.f2.f2.f1, .slice A7 x.f2.f3.length c7], [.slice A8 x.f3.length c8, .slice A9 x.f4.length c9], rfl, (k55_mk w x.f2 l7 g7), ⟨[.slice A8 x.f3.length c8], [.slice A9 x.f4.length c9], rfl, ⟨A8, c8, rfl, l8, r8⟩, ⟨A9, c9, rfl, l9, r9⟩⟩⟩⟩⟩⟩
theorem k109_mkM (w : World) (base : Nat) (ok : Nat → Prop) (x : S109) {v7 : Value} (g7 : k55.R 55 w base ok v7 x.f2.f3) {v8 : Value} (g8 : k109.R 109 w base ok v8 x.f3) {v9 : Value} (g9 : k109.R 109 w base ok v9 x.f4) : k109.M w base ok x [.int .i64 x.f0, .int .i64 x.f1.f0, .int .i64 x.f1.f1, .int .i64 x.f2.f0, .int .i64 x.f2.f1, .int .i64 x.f2.f2.f0, .int .i64 x.f2.f2.f1, v7, v8, v9] := by
  obtain ⟨n8, q8⟩ := Kd.fix_R_back mono109 g8
  obtain ⟨n9, q9⟩ := Kd.fix_R_back mono109 g9
  have r8 := Kd.upto_R_le mono109 sz109 (show n8 ≤ (max n8 n9) by omega) q8
  have r9 := Kd.upto_R_le mono109 sz109 (show n9 ≤ (max n8 n9) by omega) q9
  exact ⟨(max n8 n9) + 1, ⟨[.int .i64 x.f0], [.int .i64 x.f1.f0, .int .i64 x.f1.f1, .int .i64 x.f2.f0, .int .i64 x.f2.f1, .int .i64 x.f2.f2.f0, .int .i64 x.f2.f2.f1, v7, v8, v9], rfl, rfl, ⟨[.int .i64 x.f1.f0, .int .i64 x.f1.f1], [.int .i64 x.f2.f0, .int .i64 x.f2.f1, .int .i64 x.f2.f2.f0, .int .i64 x.f2.f2.f1, v7, v8, v9], rfl, (k52_mkM w base ok x.f1 ), ⟨[.int .i64 x.f2.f0, .int .i64 x.f2.f1, .int .i64 x.f2.f2.f0, .int .i64 x.f2.f2.f1, v7], [v8, v9], rfl, (k55_mkM w base ok x.f2 g7), ⟨[v8], [v9], rfl, ⟨v8, rfl, r8⟩, ⟨v9, rfl, r9⟩⟩⟩⟩⟩⟩
def rd_T109 (xs : List S109) (i : Int) : S109 := xs.getD i.toNat z109
theorem at_T109 {w : World} {A : Option Addr} {n : Nat} {xs : List S109} (h : Kd.C k109 w A n xs) (i : Int) (h0 : 0 ≤ i) (h1 : i < n) : ∃ ad A7 c7 A8 c8 A9 c9, A = some ad ∧ w.cell? (ad.add (i.toNat * 10)) = some (.int .i64 (rd_T109 xs i).f0) ∧ w.cell? ⟨(ad.add (i.toNat * 10)).block, (ad.add (i.toNat * 10)).off + 1, none⟩ = some (.int .i64 (rd_T109 xs i).f1.f0) ∧ w.cell? ⟨(ad.add (i.toNat * 10)).block, (ad.add (i.toNat * 10)).off + 2, none⟩ = some (.int .i64 (rd_T109 xs i).f1.f1) ∧ w.cell? ⟨(ad.add (i.toNat * 10)).block, (ad.add (i.toNat * 10)).off + 3, none⟩ = some (.int .i64 (rd_T109 xs i).f2.f0) ∧ w.cell? ⟨(ad.add (i.toNat * 10)).block, (ad.add (i.toNat * 10)).off + 4, none⟩ = some (.int .i64 (rd_T109 xs i).f2.f1) ∧ w.cell? ⟨(ad.add (i.toNat * 10)).block, (ad.add (i.toNat * 10)).off + 5, none⟩ = some (.int .i64 (rd_T109 xs i).f2.f2.f0) ∧ w.cell? ⟨(ad.add (i.toNat * 10)).block, (ad.add (i.toNat * 10)).off + 6, none⟩ = some (.int .i64 (rd_T109 xs i).f2.f2.f1) ∧ w.cell? ⟨(ad.add (i.toNat * 10)).block, (ad.add (i.toNat * 10)).off + 7, none⟩ = some (.slice A7 (rd_T109 xs i).f2.f3.length c7) ∧ w.cell? ⟨(ad.add (i.toNat * 10)).block, (ad.add (i.toNat * 10)).off + 8, none⟩ = some (.slice A8 (rd_T109 xs i).f3.length c8) ∧ w.cell? ⟨(ad.add (i.toNat * 10)).block, (ad.add (i.toNat * 10)).off + 9, none⟩ = some (.slice A9 (rd_T109 xs i).f4.length c9) ∧ (rd_T109 xs i).f2.f3.length ≤ c7 ∧ k55.C w A7 (rd_T109 xs i).f2.f3.length (rd_T109 xs i).f2.f3 ∧ (rd_T109 xs i).f3.length ≤ c8 ∧ k109.C w A8 (rd_T109 xs i).f3.length (rd_T109 xs i).f3 ∧ (rd_T109 xs i).f4.length ≤ c9 ∧ k109.C w A9 (rd_T109 xs i).f4.length (rd_T109 xs i).f4 := by
  obtain ⟨ad, c, e, _, hK, hc0⟩ := Kd.C_get h z109 i h0 h1
  have hc : ∀ j u, c[j]? = some u → w.cell? (ad.add (i.toNat * 10 + j)) = some u := hc0
  obtain ⟨A7, c7, A8, c8, A9, c9, rfl, l7, g7, l8, g8, l9, g9⟩ := k109_open hK
  exact ⟨ad, A7, c7, A8, c8, A9, c9, e, hc 0 _ rfl, by rw [← add_field _ _ 1 (by omega)]; exact hc 1 _ rfl, by rw [← add_field _ _ 2 (by omega)]; exact hc 2 _ rfl, by rw [← add_field _ _ 3 (by omega)]; exact hc 3 _ rfl, by rw [← add_field _ _ 4 (by omega)]; exact hc 4 _ rfl, by rw [← add_field _ _ 5 (by omega)]; exact hc 5 _ rfl, by rw [← add_field _ _ 6 (by omega)]; exact hc 6 _ rfl, by rw [← add_field _ _ 7 (by omega)]; exact hc 7 _ rfl, by rw [← add_field _ _ 8 (by omega)]; exact hc 8 _ rfl, by rw [← add_field _ _ 9 (by omega)]; exact hc 9 _ rfl, l7, g7, l8, g8, l9, g9⟩

end Go.Proofs.Ytcigooccnlbkjaa.PFnExactStmtsSame
