-- Made by a program of this session (hp.py) over the kit's print: functions told by hand stand beside printed ones. Lean checks it.
import Derived.Test.YtjamfddhcigchaaGreatDoorProg
import Derived.Test.YtjamfddhcigchaaGreatDoorTFnCodeBentWWords
namespace Go.Proofs.YtjamfddhcigchaaGreatDoor.HFnCodeBent
open Go.RowKit Go.Proofs.YtjamfddhcigchaaGreatDoorW.PrintWords Go.Proofs.YtjamfddhcigchaaGreatDoorW.PrintLast Go.Proofs.YtjamfddhcigchaaGreatDoorW.PrintMore
attribute [local go_sem] max2_int min2_int max_two min_two max_three min_three max_four min_four
set_option linter.unusedVariables false
set_option linter.unusedSimpArgs false
def errW : Option Int → Value
  | none => .nilIface
  | some c => .iface 0 (.int .i64 c)
theorem errW_none : errW none = .nilIface := rfl
theorem errW_some (c : Int) : errW (some c) = .iface 0 (.int .i64 c) := rfl
theorem info3 : (Tryz.prog.info? 3).map (fun i => (i.zero, i.size, i.bytes)) = some (some (.int .i64 0), 1, 8) := by kernel_rfl
theorem info5 : (Tryz.prog.info? 5).map (fun i => (i.zero, i.size, i.bytes)) = some (some (.int .u8 0), 1, 1) := by kernel_rfl
theorem info30 : (Tryz.prog.info? 30).map (fun i => (i.zero, i.size, i.bytes)) = some (some (.agg #[(.int .i64 0), (.int .i64 0), (.int .i64 0), (.int .i64 0)]), 4, 32) := by kernel_rfl
theorem info120 : (Tryz.prog.info? 120).map (fun i => (i.zero, i.size, i.bytes)) = some (some (.agg #[(.int .i64 0), (.int .i64 0), (.int .i64 0), (.int .i64 0), (.slice none 0 0)]), 5, 56) := by kernel_rfl
theorem info122 : (Tryz.prog.info? 122).map (fun i => (i.zero, i.size, i.bytes)) = some (some (.agg #[(.int .i64 0), (.int .i64 0), (.int .i64 0), (.int .i64 0), (.int .i64 0), (.int .i64 0), (.int .i64 0), (.slice none 0 0), (.slice none 0 0), (.slice none 0 0)]), 10, 128) := by kernel_rfl
structure S28 where
  f0 : Int
  f1 : Int
def z28 : S28 := ⟨(0 : Int), (0 : Int)⟩
def k28 : Kd S28 := Kd.iso (Kd.pair (Kd.int .i64) (Kd.int .i64)) (fun x : S28 => (x.f0, x.f1))
theorem k28_open {w : World} {x : S28} {cs : List Value} (h : k28.K w x cs) : cs = [.int .i64 x.f0, .int .i64 x.f1] := by
  obtain ⟨_, _, rfl, rfl, rfl⟩ := h
  exact rfl
theorem k28_openM {w : World} {base : Nat} {ok : Nat → Prop} {x : S28} {cs : List Value} (h : k28.M w base ok x cs) : cs = [.int .i64 x.f0, .int .i64 x.f1] := by
  obtain ⟨_, _, rfl, rfl, rfl⟩ := h
  exact rfl
theorem k28_mk (w : World) (x : S28)  : k28.K w x [.int .i64 x.f0, .int .i64 x.f1] := ⟨[.int .i64 x.f0], [.int .i64 x.f1], rfl, rfl, rfl⟩
theorem k28_mkM (w : World) (base : Nat) (ok : Nat → Prop) (x : S28)  : k28.M w base ok x [.int .i64 x.f0, .int .i64 x.f1] := ⟨[.int .i64 x.f0], [.int .i64 x.f1], rfl, rfl, rfl⟩
structure S120 where
  f0 : Int
  f1 : Int
  f2 : S28
  f3 : (List S120)
def z120 : S120 := ⟨(0 : Int), (0 : Int), z28, ([] : List S120)⟩
def F120 (d : Kd S120) : Kd S120 := Kd.iso (Kd.pair (Kd.int .i64) (Kd.pair (Kd.int .i64) (Kd.pair k28 (Kd.slice 120 d)))) (fun x : S120 => (x.f0, x.f1, x.f2, x.f3))
theorem mono120 : Kd.Mono F120 := Kd.mono_iso _ (Kd.mono_pair (Kd.mono_const _) (Kd.mono_pair (Kd.mono_const _) (Kd.mono_pair (Kd.mono_const _) (Kd.mono_slice 120 Kd.mono_id))))
theorem sub120 : Kd.Sub F120 [120] := Kd.sub_iso _ (Kd.sub_pair (Kd.sub_const _ (by decide)) (Kd.sub_pair (Kd.sub_const _ (by decide)) (Kd.sub_pair (Kd.sub_const _ (by decide)) (Kd.sub_slice 120 (by decide) Kd.sub_id))))
theorem sz120 : ∀ n, (Kd.upto F120 5 [120] n).sz = 5 := Kd.upto_sz (fun _ => rfl)
def k120 : Kd S120 := Kd.fix F120 5 [120] sz120 (Kd.upto_E sub120)
theorem k120_open {w : World} {x : S120} {cs : List Value} (h : k120.K w x cs) : ∃ A4 c4, cs = [.int .i64 x.f0, .int .i64 x.f1, .int .i64 x.f2.f0, .int .i64 x.f2.f1, .slice A4 x.f3.length c4] ∧ x.f3.length ≤ c4 ∧ k120.C w A4 x.f3.length x.f3 := by
  obtain ⟨n, h⟩ := h
  cases n with
  | zero => exact h.elim
  | succ n =>
    obtain ⟨_, _, rfl, rfl, ⟨_, _, rfl, rfl, ⟨_, _, rfl, s2, ⟨A4, c4, rfl, l4, g4⟩⟩⟩⟩ := h
    obtain rfl := k28_open s2
    exact ⟨A4, c4, rfl, l4, Kd.fix_C g4⟩
theorem k120_mk (w : World) (x : S120) {A4 : Option Addr} {c4 : Nat} (l4 : x.f3.length ≤ c4) (g4 : k120.C w A4 x.f3.length x.f3) : k120.K w x [.int .i64 x.f0, .int .i64 x.f1, .int .i64 x.f2.f0, .int .i64 x.f2.f1, .slice A4 x.f3.length c4] := by
  obtain ⟨n4, q4⟩ := Kd.fix_C_back mono120 g4
  have r4 := Kd.upto_C_le mono120 sz120 (show n4 ≤ n4 by omega) q4
  exact ⟨n4 + 1, ⟨[.int .i64 x.f0], [.int .i64 x.f1, .int .i64 x.f2.f0, .int .i64 x.f2.f1, .slice A4 x.f3.length c4], rfl, rfl, ⟨[.int .i64 x.f1], [.int .i64 x.f2.f0, .int .i64 x.f2.f1, .slice A4 x.f3.length c4], rfl, rfl, ⟨[.int .i64 x.f2.f0, .int .i64 x.f2.f1], [.slice A4 x.f3.length c4], rfl, (k28_mk w x.f2 ), ⟨A4, c4, rfl, l4, r4⟩⟩⟩⟩⟩
theorem k120_mkM (w : World) (base : Nat) (ok : Nat → Prop) (x : S120) {v4 : Value} (g4 : k120.R 120 w base ok v4 x.f3) : k120.M w base ok x [.int .i64 x.f0, .int .i64 x.f1, .int .i64 x.f2.f0, .int .i64 x.f2.f1, v4] := by
  obtain ⟨n4, q4⟩ := Kd.fix_R_back mono120 g4
  have r4 := Kd.upto_R_le mono120 sz120 (show n4 ≤ n4 by omega) q4
  exact ⟨n4 + 1, ⟨[.int .i64 x.f0], [.int .i64 x.f1, .int .i64 x.f2.f0, .int .i64 x.f2.f1, v4], rfl, rfl, ⟨[.int .i64 x.f1], [.int .i64 x.f2.f0, .int .i64 x.f2.f1, v4], rfl, rfl, ⟨[.int .i64 x.f2.f0, .int .i64 x.f2.f1], [v4], rfl, (k28_mkM w base ok x.f2 ), ⟨v4, rfl, r4⟩⟩⟩⟩⟩
def rd_T120 (xs : List S120) (i : Int) : S120 := xs.getD i.toNat z120
theorem at_T120 {w : World} {A : Option Addr} {n : Nat} {xs : List S120} (h : Kd.C k120 w A n xs) (i : Int) (h0 : 0 ≤ i) (h1 : i < n) : ∃ ad A4 c4, A = some ad ∧ w.cell? (ad.add (i.toNat * 5)) = some (.int .i64 (rd_T120 xs i).f0) ∧ w.cell? ⟨(ad.add (i.toNat * 5)).block, (ad.add (i.toNat * 5)).off + 1, none⟩ = some (.int .i64 (rd_T120 xs i).f1) ∧ w.cell? ⟨(ad.add (i.toNat * 5)).block, (ad.add (i.toNat * 5)).off + 2, none⟩ = some (.int .i64 (rd_T120 xs i).f2.f0) ∧ w.cell? ⟨(ad.add (i.toNat * 5)).block, (ad.add (i.toNat * 5)).off + 3, none⟩ = some (.int .i64 (rd_T120 xs i).f2.f1) ∧ w.cell? ⟨(ad.add (i.toNat * 5)).block, (ad.add (i.toNat * 5)).off + 4, none⟩ = some (.slice A4 (rd_T120 xs i).f3.length c4) ∧ (rd_T120 xs i).f3.length ≤ c4 ∧ k120.C w A4 (rd_T120 xs i).f3.length (rd_T120 xs i).f3 := by
  obtain ⟨ad, c, e, _, hK, hc0⟩ := Kd.C_get h z120 i h0 h1
  have hc : ∀ j u, c[j]? = some u → w.cell? (ad.add (i.toNat * 5 + j)) = some u := hc0
  obtain ⟨A4, c4, rfl, l4, g4⟩ := k120_open hK
  exact ⟨ad, A4, c4, e, hc 0 _ rfl, by rw [← add_field _ _ 1 (by omega)]; exact hc 1 _ rfl, by rw [← add_field _ _ 2 (by omega)]; exact hc 2 _ rfl, by rw [← add_field _ _ 3 (by omega)]; exact hc 3 _ rfl, by rw [← add_field _ _ 4 (by omega)]; exact hc 4 _ rfl, l4, g4⟩
structure S30 where
  f0 : Int
  f1 : Int
  f2 : S28
def z30 : S30 := ⟨(0 : Int), (0 : Int), z28⟩
def k30 : Kd S30 := Kd.iso (Kd.pair (Kd.int .i64) (Kd.pair (Kd.int .i64) k28)) (fun x : S30 => (x.f0, x.f1, x.f2))
theorem k30_open {w : World} {x : S30} {cs : List Value} (h : k30.K w x cs) : cs = [.int .i64 x.f0, .int .i64 x.f1, .int .i64 x.f2.f0, .int .i64 x.f2.f1] := by
  obtain ⟨_, _, rfl, rfl, ⟨_, _, rfl, rfl, s2⟩⟩ := h
  obtain rfl := k28_open s2
  exact rfl
theorem k30_openM {w : World} {base : Nat} {ok : Nat → Prop} {x : S30} {cs : List Value} (h : k30.M w base ok x cs) : cs = [.int .i64 x.f0, .int .i64 x.f1, .int .i64 x.f2.f0, .int .i64 x.f2.f1] := by
  obtain ⟨_, _, rfl, rfl, ⟨_, _, rfl, rfl, s2⟩⟩ := h
  obtain rfl := k28_openM s2
  exact rfl
theorem k30_mkM (w : World) (base : Nat) (ok : Nat → Prop) (x : S30)  : k30.M w base ok x [.int .i64 x.f0, .int .i64 x.f1, .int .i64 x.f2.f0, .int .i64 x.f2.f1] := ⟨[.int .i64 x.f0], [.int .i64 x.f1, .int .i64 x.f2.f0, .int .i64 x.f2.f1], rfl, rfl, ⟨[.int .i64 x.f1], [.int .i64 x.f2.f0, .int .i64 x.f2.f1], rfl, rfl, (k28_mkM w base ok x.f2 )⟩⟩
def rd_T30 (xs : List S30) (i : Int) : S30 := xs.getD i.toNat z30
theorem at_T30 {w : World} {A : Option Addr} {n : Nat} {xs : List S30} (h : Kd.C k30 w A n xs) (i : Int) (h0 : 0 ≤ i) (h1 : i < n) : ∃ ad , A = some ad ∧ w.cell? (ad.add (i.toNat * 4)) = some (.int .i64 (rd_T30 xs i).f0) ∧ w.cell? ⟨(ad.add (i.toNat * 4)).block, (ad.add (i.toNat * 4)).off + 1, none⟩ = some (.int .i64 (rd_T30 xs i).f1) ∧ w.cell? ⟨(ad.add (i.toNat * 4)).block, (ad.add (i.toNat * 4)).off + 2, none⟩ = some (.int .i64 (rd_T30 xs i).f2.f0) ∧ w.cell? ⟨(ad.add (i.toNat * 4)).block, (ad.add (i.toNat * 4)).off + 3, none⟩ = some (.int .i64 (rd_T30 xs i).f2.f1) := by
  obtain ⟨ad, c, e, _, hK, hc0⟩ := Kd.C_get h z30 i h0 h1
  have hc : ∀ j u, c[j]? = some u → w.cell? (ad.add (i.toNat * 4 + j)) = some u := hc0
  obtain rfl := k30_open hK
  exact ⟨ad, e, hc 0 _ rfl, by rw [← add_field _ _ 1 (by omega)]; exact hc 1 _ rfl, by rw [← add_field _ _ 2 (by omega)]; exact hc 2 _ rfl, by rw [← add_field _ _ 3 (by omega)]; exact hc 3 _ rfl⟩
structure S122 where
  f0 : Int
  f1 : S28
  f2 : S120
  f3 : (List S122)
  f4 : (List S122)
def z122 : S122 := ⟨(0 : Int), z28, z120, ([] : List S122), ([] : List S122)⟩
def F122 (d : Kd S122) : Kd S122 := Kd.iso (Kd.pair (Kd.int .i64) (Kd.pair k28 (Kd.pair k120 (Kd.pair (Kd.slice 122 d) (Kd.slice 122 d))))) (fun x : S122 => (x.f0, x.f1, x.f2, x.f3, x.f4))
theorem mono122 : Kd.Mono F122 := Kd.mono_iso _ (Kd.mono_pair (Kd.mono_const _) (Kd.mono_pair (Kd.mono_const _) (Kd.mono_pair (Kd.mono_const _) (Kd.mono_pair (Kd.mono_slice 122 Kd.mono_id) (Kd.mono_slice 122 Kd.mono_id)))))
theorem sub122 : Kd.Sub F122 [120, 122] := Kd.sub_iso _ (Kd.sub_pair (Kd.sub_const _ (by decide)) (Kd.sub_pair (Kd.sub_const _ (by decide)) (Kd.sub_pair (Kd.sub_const _ (by decide)) (Kd.sub_pair (Kd.sub_slice 122 (by decide) Kd.sub_id) (Kd.sub_slice 122 (by decide) Kd.sub_id)))))
theorem sz122 : ∀ n, (Kd.upto F122 10 [120, 122] n).sz = 10 := Kd.upto_sz (fun _ => rfl)
def k122 : Kd S122 := Kd.fix F122 10 [120, 122] sz122 (Kd.upto_E sub122)
theorem k122_open {w : World} {x : S122} {cs : List Value} (h : k122.K w x cs) : ∃ A7 c7 A8 c8 A9 c9, cs = [.int .i64 x.f0, .int .i64 x.f1.f0, .int .i64 x.f1.f1, .int .i64 x.f2.f0, .int .i64 x.f2.f1, .int .i64 x.f2.f2.f0, .int .i64 x.f2.f2.f1, .slice A7 x.f2.f3.length c7, .slice A8 x.f3.length c8, .slice A9 x.f4.length c9] ∧ x.f2.f3.length ≤ c7 ∧ k120.C w A7 x.f2.f3.length x.f2.f3 ∧ x.f3.length ≤ c8 ∧ k122.C w A8 x.f3.length x.f3 ∧ x.f4.length ≤ c9 ∧ k122.C w A9 x.f4.length x.f4 := by
  obtain ⟨n, h⟩ := h
  cases n with
  | zero => exact h.elim
  | succ n =>
    obtain ⟨_, _, rfl, rfl, ⟨_, _, rfl, s1, ⟨_, _, rfl, s3, ⟨_, _, rfl, ⟨A8, c8, rfl, l8, g8⟩, ⟨A9, c9, rfl, l9, g9⟩⟩⟩⟩⟩ := h
    obtain rfl := k28_open s1
    obtain ⟨A7, c7, rfl, l7, g7⟩ := k120_open s3
    exact ⟨A7, c7, A8, c8, A9, c9, rfl, l7, g7, l8, Kd.fix_C g8, l9, Kd.fix_C g9⟩
theorem k122_mk (w : World) (x : S122) {A7 : Option Addr} {c7 : Nat} (l7 : x.f2.f3.length ≤ c7) (g7 : k120.C w A7 x.f2.f3.length x.f2.f3) {A8 : Option Addr} {c8 : Nat} (l8 : x.f3.length ≤ c8) (g8 : k122.C w A8 x.f3.length x.f3) {A9 : Option Addr} {c9 : Nat} (l9 : x.f4.length ≤ c9) (g9 : k122.C w A9 x.f4.length x.f4) : k122.K w x [.int .i64 x.f0, .int .i64 x.f1.f0, .int .i64 x.f1.f1, .int .i64 x.f2.f0, .int .i64 x.f2.f1, .int .i64 x.f2.f2.f0, .int .i64 x.f2.f2.f1, .slice A7 x.f2.f3.length c7, .slice A8 x.f3.length c8, .slice A9 x.f4.length c9] := by
  obtain ⟨n8, q8⟩ := Kd.fix_C_back mono122 g8
  obtain ⟨n9, q9⟩ := Kd.fix_C_back mono122 g9
  have r8 := Kd.upto_C_le mono122 sz122 (show n8 ≤ (max n8 n9) by omega) q8
  have r9 := Kd.upto_C_le mono122 sz122 (show n9 ≤ (max n8 n9) by omega) q9
  exact ⟨(max n8 n9) + 1, ⟨[.int .i64 x.f0], [.int .i64 x.f1.f0, .int .i64 x.f1.f1, .int .i64 x.f2.f0, .int .i64 x.f2.f1, .int .i64 x.f2.f2.f0, .int .i64 x.f2.f2.f1, .slice A7 x.f2.f3.length c7, .slice A8 x.f3.length c8, .slice A9 x.f4.length c9], rfl, rfl, ⟨[.int .i64 x.f1.f0, .int .i64 x.f1.f1], [.int .i64 x.f2.f0, .int .i64 x.f2.f1, .int .i64 x.f2.f2.f0, .int .i64 x.f2.f2.f1, .slice A7 x.f2.f3.length c7, .slice A8 x.f3.length c8, .slice A9 x.f4.length c9], rfl, (k28_mk w x.f1 ), ⟨[.int .i64 x.f2.f0, .int .i64 x.f2.f1, .int .i64 x.f2.f2.f0, .int .i64 x.f2.f2.f1, .slice A7 x.f2.f3.length c7], [.slice A8 x.f3.length c8, .slice A9 x.f4.length c9], rfl, (k120_mk w x.f2 l7 g7), ⟨[.slice A8 x.f3.length c8], [.slice A9 x.f4.length c9], rfl, ⟨A8, c8, rfl, l8, r8⟩, ⟨A9, c9, rfl, l9, r9⟩⟩⟩⟩⟩⟩
theorem k122_mkM (w : World) (base : Nat) (ok : Nat → Prop) (x : S122) {v7 : Value} (g7 : k120.R 120 w base ok v7 x.f2.f3) {v8 : Value} (g8 : k122.R 122 w base ok v8 x.f3) {v9 : Value} (g9 : k122.R 122 w base ok v9 x.f4) : k122.M w base ok x [.int .i64 x.f0, .int .i64 x.f1.f0, .int .i64 x.f1.f1, .int .i64 x.f2.f0, .int .i64 x.f2.f1, .int .i64 x.f2.f2.f0, .int .i64 x.f2.f2.f1, v7, v8, v9] := by
  obtain ⟨n8, q8⟩ := Kd.fix_R_back mono122 g8
  obtain ⟨n9, q9⟩ := Kd.fix_R_back mono122 g9
  have r8 := Kd.upto_R_le mono122 sz122 (show n8 ≤ (max n8 n9) by omega) q8
  have r9 := Kd.upto_R_le mono122 sz122 (show n9 ≤ (max n8 n9) by omega) q9
  exact ⟨(max n8 n9) + 1, ⟨[.int .i64 x.f0], [.int .i64 x.f1.f0, .int .i64 x.f1.f1, .int .i64 x.f2.f0, .int .i64 x.f2.f1, .int .i64 x.f2.f2.f0, .int .i64 x.f2.f2.f1, v7, v8, v9], rfl, rfl, ⟨[.int .i64 x.f1.f0, .int .i64 x.f1.f1], [.int .i64 x.f2.f0, .int .i64 x.f2.f1, .int .i64 x.f2.f2.f0, .int .i64 x.f2.f2.f1, v7, v8, v9], rfl, (k28_mkM w base ok x.f1 ), ⟨[.int .i64 x.f2.f0, .int .i64 x.f2.f1, .int .i64 x.f2.f2.f0, .int .i64 x.f2.f2.f1, v7], [v8, v9], rfl, (k120_mkM w base ok x.f2 g7), ⟨[v8], [v9], rfl, ⟨v8, rfl, r8⟩, ⟨v9, rfl, r9⟩⟩⟩⟩⟩⟩
theorem k122_mkF (W : World) (ok : Nat → Prop) (x : S122) {A7 : Option Addr} {c7 : Nat} (l7 : x.f2.f3.length ≤ c7) (g7 : Kd.F k120 W ok A7 x.f2.f3.length x.f2.f3) {A8 : Option Addr} {c8 : Nat} (l8 : x.f3.length ≤ c8) (g8 : Kd.F k122 W ok A8 x.f3.length x.f3) {A9 : Option Addr} {c9 : Nat} (l9 : x.f4.length ≤ c9) (g9 : Kd.F k122 W ok A9 x.f4.length x.f4) : Kd.FK k122 W ok x [.int .i64 x.f0, .int .i64 x.f1.f0, .int .i64 x.f1.f1, .int .i64 x.f2.f0, .int .i64 x.f2.f1, .int .i64 x.f2.f2.f0, .int .i64 x.f2.f2.f1, .slice A7 x.f2.f3.length c7, .slice A8 x.f3.length c8, .slice A9 x.f4.length c9] := fun W2 hW => k122_mk W2 x l7 (g7 W2 hW) l8 (g8 W2 hW) l9 (g9 W2 hW)
def rd_T122 (xs : List S122) (i : Int) : S122 := xs.getD i.toNat z122
theorem at_T122 {w : World} {A : Option Addr} {n : Nat} {xs : List S122} (h : Kd.C k122 w A n xs) (i : Int) (h0 : 0 ≤ i) (h1 : i < n) : ∃ ad A7 c7 A8 c8 A9 c9, A = some ad ∧ w.cell? (ad.add (i.toNat * 10)) = some (.int .i64 (rd_T122 xs i).f0) ∧ w.cell? ⟨(ad.add (i.toNat * 10)).block, (ad.add (i.toNat * 10)).off + 1, none⟩ = some (.int .i64 (rd_T122 xs i).f1.f0) ∧ w.cell? ⟨(ad.add (i.toNat * 10)).block, (ad.add (i.toNat * 10)).off + 2, none⟩ = some (.int .i64 (rd_T122 xs i).f1.f1) ∧ w.cell? ⟨(ad.add (i.toNat * 10)).block, (ad.add (i.toNat * 10)).off + 3, none⟩ = some (.int .i64 (rd_T122 xs i).f2.f0) ∧ w.cell? ⟨(ad.add (i.toNat * 10)).block, (ad.add (i.toNat * 10)).off + 4, none⟩ = some (.int .i64 (rd_T122 xs i).f2.f1) ∧ w.cell? ⟨(ad.add (i.toNat * 10)).block, (ad.add (i.toNat * 10)).off + 5, none⟩ = some (.int .i64 (rd_T122 xs i).f2.f2.f0) ∧ w.cell? ⟨(ad.add (i.toNat * 10)).block, (ad.add (i.toNat * 10)).off + 6, none⟩ = some (.int .i64 (rd_T122 xs i).f2.f2.f1) ∧ w.cell? ⟨(ad.add (i.toNat * 10)).block, (ad.add (i.toNat * 10)).off + 7, none⟩ = some (.slice A7 (rd_T122 xs i).f2.f3.length c7) ∧ w.cell? ⟨(ad.add (i.toNat * 10)).block, (ad.add (i.toNat * 10)).off + 8, none⟩ = some (.slice A8 (rd_T122 xs i).f3.length c8) ∧ w.cell? ⟨(ad.add (i.toNat * 10)).block, (ad.add (i.toNat * 10)).off + 9, none⟩ = some (.slice A9 (rd_T122 xs i).f4.length c9) ∧ (rd_T122 xs i).f2.f3.length ≤ c7 ∧ k120.C w A7 (rd_T122 xs i).f2.f3.length (rd_T122 xs i).f2.f3 ∧ (rd_T122 xs i).f3.length ≤ c8 ∧ k122.C w A8 (rd_T122 xs i).f3.length (rd_T122 xs i).f3 ∧ (rd_T122 xs i).f4.length ≤ c9 ∧ k122.C w A9 (rd_T122 xs i).f4.length (rd_T122 xs i).f4 := by
  obtain ⟨ad, c, e, _, hK, hc0⟩ := Kd.C_get h z122 i h0 h1
  have hc : ∀ j u, c[j]? = some u → w.cell? (ad.add (i.toNat * 10 + j)) = some u := hc0
  obtain ⟨A7, c7, A8, c8, A9, c9, rfl, l7, g7, l8, g8, l9, g9⟩ := k122_open hK
  exact ⟨ad, A7, c7, A8, c8, A9, c9, e, hc 0 _ rfl, by rw [← add_field _ _ 1 (by omega)]; exact hc 1 _ rfl, by rw [← add_field _ _ 2 (by omega)]; exact hc 2 _ rfl, by rw [← add_field _ _ 3 (by omega)]; exact hc 3 _ rfl, by rw [← add_field _ _ 4 (by omega)]; exact hc 4 _ rfl, by rw [← add_field _ _ 5 (by omega)]; exact hc 5 _ rfl, by rw [← add_field _ _ 6 (by omega)]; exact hc 6 _ rfl, by rw [← add_field _ _ 7 (by omega)]; exact hc 7 _ rfl, by rw [← add_field _ _ 8 (by omega)]; exact hc 8 _ rfl, by rw [← add_field _ _ 9 (by omega)]; exact hc 9 _ rfl, l7, g7, l8, g8, l9, g9⟩
theorem cells10 {w : World} {g : Nat} {t : TypeId} {v0 v1 v2 v3 v4 v5 v6 v7 v8 v9 : Value} (h : w.heap[g]? = some (.cells #[v0, v1, v2, v3, v4, v5, v6, v7, v8, v9] t (0, 0))) : w.cell? ⟨g, 0, none⟩ = some v0 ∧ w.cell? ⟨g, 1, none⟩ = some v1 ∧ w.cell? ⟨g, 2, none⟩ = some v2 ∧ w.cell? ⟨g, 3, none⟩ = some v3 ∧ w.cell? ⟨g, 4, none⟩ = some v4 ∧ w.cell? ⟨g, 5, none⟩ = some v5 ∧ w.cell? ⟨g, 6, none⟩ = some v6 ∧ w.cell? ⟨g, 7, none⟩ = some v7 ∧ w.cell? ⟨g, 8, none⟩ = some v8 ∧ w.cell? ⟨g, 9, none⟩ = some v9 := ⟨(blk_cell h 0).trans rfl, (blk_cell h 1).trans rfl, (blk_cell h 2).trans rfl, (blk_cell h 3).trans rfl, (blk_cell h 4).trans rfl, (blk_cell h 5).trans rfl, (blk_cell h 6).trans rfl, (blk_cell h 7).trans rfl, (blk_cell h 8).trans rfl, (blk_cell h 9).trans rfl⟩
theorem cells2 {w : World} {g : Nat} {t : TypeId} {v0 v1 : Value} (h : w.heap[g]? = some (.cells #[v0, v1] t (0, 0))) : w.cell? ⟨g, 0, none⟩ = some v0 ∧ w.cell? ⟨g, 1, none⟩ = some v1 := ⟨(blk_cell h 0).trans rfl, (blk_cell h 1).trans rfl⟩
theorem cells3 {w : World} {g : Nat} {t : TypeId} {v0 v1 v2 : Value} (h : w.heap[g]? = some (.cells #[v0, v1, v2] t (0, 0))) : w.cell? ⟨g, 0, none⟩ = some v0 ∧ w.cell? ⟨g, 1, none⟩ = some v1 ∧ w.cell? ⟨g, 2, none⟩ = some v2 := ⟨(blk_cell h 0).trans rfl, (blk_cell h 1).trans rfl, (blk_cell h 2).trans rfl⟩
theorem cells4 {w : World} {g : Nat} {t : TypeId} {v0 v1 v2 v3 : Value} (h : w.heap[g]? = some (.cells #[v0, v1, v2, v3] t (0, 0))) : w.cell? ⟨g, 0, none⟩ = some v0 ∧ w.cell? ⟨g, 1, none⟩ = some v1 ∧ w.cell? ⟨g, 2, none⟩ = some v2 ∧ w.cell? ⟨g, 3, none⟩ = some v3 := ⟨(blk_cell h 0).trans rfl, (blk_cell h 1).trans rfl, (blk_cell h 2).trans rfl, (blk_cell h 3).trans rfl⟩
theorem cells5 {w : World} {g : Nat} {t : TypeId} {v0 v1 v2 v3 v4 : Value} (h : w.heap[g]? = some (.cells #[v0, v1, v2, v3, v4] t (0, 0))) : w.cell? ⟨g, 0, none⟩ = some v0 ∧ w.cell? ⟨g, 1, none⟩ = some v1 ∧ w.cell? ⟨g, 2, none⟩ = some v2 ∧ w.cell? ⟨g, 3, none⟩ = some v3 ∧ w.cell? ⟨g, 4, none⟩ = some v4 := ⟨(blk_cell h 0).trans rfl, (blk_cell h 1).trans rfl, (blk_cell h 2).trans rfl, (blk_cell h 3).trans rfl, (blk_cell h 4).trans rfl⟩
theorem frozen10 {w : World} {g : Nat} {t : TypeId} {cs : Array Value} (h : w.heap[g]? = some (.cells cs t (0, 0))) : w.frozen? ⟨g, 0, none⟩ = false ∧ w.frozen? ⟨g, 1, none⟩ = false ∧ w.frozen? ⟨g, 2, none⟩ = false ∧ w.frozen? ⟨g, 3, none⟩ = false ∧ w.frozen? ⟨g, 4, none⟩ = false ∧ w.frozen? ⟨g, 5, none⟩ = false ∧ w.frozen? ⟨g, 6, none⟩ = false ∧ w.frozen? ⟨g, 7, none⟩ = false ∧ w.frozen? ⟨g, 8, none⟩ = false ∧ w.frozen? ⟨g, 9, none⟩ = false := ⟨blk_frozen h 0, blk_frozen h 1, blk_frozen h 2, blk_frozen h 3, blk_frozen h 4, blk_frozen h 5, blk_frozen h 6, blk_frozen h 7, blk_frozen h 8, blk_frozen h 9⟩
theorem frozen2 {w : World} {g : Nat} {t : TypeId} {cs : Array Value} (h : w.heap[g]? = some (.cells cs t (0, 0))) : w.frozen? ⟨g, 0, none⟩ = false ∧ w.frozen? ⟨g, 1, none⟩ = false := ⟨blk_frozen h 0, blk_frozen h 1⟩
theorem frozen3 {w : World} {g : Nat} {t : TypeId} {cs : Array Value} (h : w.heap[g]? = some (.cells cs t (0, 0))) : w.frozen? ⟨g, 0, none⟩ = false ∧ w.frozen? ⟨g, 1, none⟩ = false ∧ w.frozen? ⟨g, 2, none⟩ = false := ⟨blk_frozen h 0, blk_frozen h 1, blk_frozen h 2⟩
theorem frozen4 {w : World} {g : Nat} {t : TypeId} {cs : Array Value} (h : w.heap[g]? = some (.cells cs t (0, 0))) : w.frozen? ⟨g, 0, none⟩ = false ∧ w.frozen? ⟨g, 1, none⟩ = false ∧ w.frozen? ⟨g, 2, none⟩ = false ∧ w.frozen? ⟨g, 3, none⟩ = false := ⟨blk_frozen h 0, blk_frozen h 1, blk_frozen h 2, blk_frozen h 3⟩
theorem frozen5 {w : World} {g : Nat} {t : TypeId} {cs : Array Value} (h : w.heap[g]? = some (.cells cs t (0, 0))) : w.frozen? ⟨g, 0, none⟩ = false ∧ w.frozen? ⟨g, 1, none⟩ = false ∧ w.frozen? ⟨g, 2, none⟩ = false ∧ w.frozen? ⟨g, 3, none⟩ = false ∧ w.frozen? ⟨g, 4, none⟩ = false := ⟨blk_frozen h 0, blk_frozen h 1, blk_frozen h 2, blk_frozen h 3, blk_frozen h 4⟩
abbrev T_ : Bool := true
abbrev F_ : Bool := false
theorem sA_ : type_of% @List.setIfInBounds_toArray := @List.setIfInBounds_toArray
theorem sB_ : type_of% @List.set_cons_zero := @List.set_cons_zero
theorem sC_ : type_of% @List.set_cons_succ := @List.set_cons_succ
theorem aM_ : type_of% @Aside0.mk := @Aside0.mk
theorem bL_ : type_of% @World.block_lt_of_cell? := @World.block_lt_of_cell?
theorem bN_ : type_of% @pw_below_drewN := @pw_below_drewN
theorem b1_ : type_of% @below_drew1 := @below_drew1
theorem bA_ : type_of% @below_alloc := @below_alloc
theorem kC_ : type_of% @blk_cell := @blk_cell
theorem kA_ : type_of% @blk_alloc := @blk_alloc
theorem bS_ : type_of% @below_set := @below_set
theorem kN_ : type_of% @blk_drewN := @blk_drewN
theorem kD_ : type_of% @blk_drew := @blk_drew
theorem oD_ : type_of% @of_decide_eq_true := @of_decide_eq_true
theorem dT_ : type_of% @decide_eq_true := @decide_eq_true
theorem dF_ : type_of% @decide_eq_false := @decide_eq_false
theorem rA_ : type_of% @Kd.R_alloc := @Kd.R_alloc
theorem rD_ : type_of% @Kd.R_drew := @Kd.R_drew
theorem rF_ : type_of% @Kd.R_far := @Kd.R_far
theorem mA_ : type_of% @List.map_toArray := @List.map_toArray
theorem lT_ : type_of% @List.length_take := @List.length_take
theorem lD_ : type_of% @List.length_drop := @List.length_drop
theorem oI_ : type_of% @Option.some.inj := @Option.some.inj
theorem kS_ : type_of% @KeepBut.set_ := @KeepBut.set_
theorem pN_ : type_of% @keep_drewN := @keep_drewN
theorem pD_ : type_of% @keep_drew := @keep_drew
theorem pF_ : type_of% @keep_far := @keep_far
theorem bT_ : type_of% @below_step := @below_step
theorem bZ_ : type_of% @below_size := @below_size
theorem kP_ : type_of% @blk_put := @blk_put
theorem mT_ : type_of% @List.Mem.tail := @List.Mem.tail
theorem mH_ : type_of% @List.Mem.head := @List.Mem.head
theorem oB_ {α β : Type} {o : Option α} {f : α → Option β} {b : β} (h : o.bind f = some b) : ∃ a, o = some a ∧ f a = some b := Option.bind_eq_some_iff.mp h
theorem qB {b : Nat} {w W W' : World} (h : Aside0 (Below b w W)) (k : Below b w W → Below b w W' := by (intro hh_; repeat (first | (with_reducible first | exact hh_ | apply bA_ | apply bN_ | apply b1_ | refine bS_ ?_ (Aside0.out (by assumption))) | exact hh_))) : Below b w W' := k h.out
theorem qK {w W W' : World} {g : Nat} {r : Option Nat} (h : Aside0 (KeepBut w W g r)) (k : KeepBut w W g r → KeepBut w W' g r := by (intro hh_; repeat (first | (with_reducible first | exact hh_ | apply kS_ | apply pN_ | apply pD_ | apply pA_ | refine pF_ ?_ (Aside0.out (by assumption)) _) | exact hh_))) : KeepBut w W' g r := k h.out
theorem qk {W : World} {g : Nat} {o : Obj} (k : W.heap[g]? = some o := by (with_reducible repeat (first | refine kN_ ?_ _ | refine kD_ ?_ | refine kA_ ?_ _)); exact Aside0.out (by assumption)) : W.heap[g]? = some o := k
theorem qR {α : Type} {d : Kd α} {e base : Nat} {ok : Nat → Prop} {v : Value} {xs : List α} {W W' : World} (h : Aside0 (Kd.R d e W base ok v xs)) (k : Kd.R d e W base ok v xs → Kd.R d e W' base ok v xs := by (intro hh_; (with_reducible repeat (first | apply rA_ | apply rN_ | apply rD_)); exact hh_)) : Kd.R d e W' base ok v xs := k h.out
theorem qE {p : Prop} (h : p := by first | rfl | (simp [errW_none, errW_some] <;> rfl) | (simp [*, errW_none, errW_some] <;> rfl)) : p := h
theorem qc {w w' : World} {a : Addr} {v : Value} (B : Aside0 (Below w.heap.size w w')) (h : w.cell? a = some v) : w'.cell? a = some v := (B.out.cell (World.block_lt_of_cell? _ _ h)).trans h
theorem qC {α : Type} {d : Kd α} {A : Option Addr} {n : Nat} {xs : List α} {W W' : World} (h : Kd.C d W A n xs) (k : Kd.C d W A n xs → Kd.C d W' A n xs := by (intro hh_; repeat (first | exact hh_ | (with_reducible refine Kd.C_alloc ?_ _) | (with_reducible refine Kd.C_drewN ?_ _) | (with_reducible refine Kd.C_drew ?_)))) : Kd.C d W' A n xs := k h
theorem qr {α : Type} {d : Kd α} {e base : Nat} {ok : Nat → Prop} {v : Value} {xs : List α} {W W' : World} (h : Kd.R d e W base ok v xs) (k : Kd.R d e W base ok v xs → Kd.R d e W' base ok v xs := by (intro hh_; (with_reducible repeat (first | apply rA_ | apply rN_ | apply rD_)); exact hh_)) : Kd.R d e W' base ok v xs := k h
theorem qN {α : Type} {d : Kd α} {e base : Nat} {ok : Nat → Prop} {v : Value} {xs : List α} {W W' : World} (h : Kd.N d e W base ok v xs) (k : Kd.N d e W base ok v xs → Kd.N d e W' base ok v xs := by (intro hh_; (with_reducible repeat (first | apply Kd.N_alloc | apply Kd.N_drewN | apply Kd.N_drew)); exact hh_)) : Kd.N d e W' base ok v xs := k h
theorem qF {p : Prop} (h : p := by first | rfl | (simp; done) | (simp [*]; done)) : p := h
end Go.Proofs.YtjamfddhcigchaaGreatDoor.HFnCodeBent
namespace Go.Proofs.YtjamfddhcigchaaGreatDoor.HFnCodeBent
open Go.RowKit Go.Proofs.YtjamfddhcigchaaGreatDoorW.PrintWords Go.Proofs.YtjamfddhcigchaaGreatDoorW.PrintLast Go.Proofs.YtjamfddhcigchaaGreatDoorW.PrintMore
attribute [local go_sem] max2_int min2_int max_two min_two max_three min_three max_four min_four
set_option linter.unusedVariables false
set_option linter.unusedSimpArgs false
theorem eqA28 (d : Nat) (w : World) (x0 y0 : Int) (x1 y1 : Int) :
    (Op.equalIn (d + 2) 28 (.agg #[.int .i64 x0, .int .i64 x1]) (.agg #[.int .i64 y0, .int .i64 y1])).run Tryz.prog w = .ok (x0 == y0 && (x1 == y1)) w := by
  refine eqA_of Tryz.underlying28 (by kernel_rfl) ?_
  refine eqf_cons (by rfl) (by go_simp; rfl) (by go_simp; rfl) (by go_simp) ?_
  exact eqf_last (by rfl) (by go_simp; rfl) (by go_simp; rfl) (by go_simp)
end Go.Proofs.YtjamfddhcigchaaGreatDoor.HFnCodeBent
namespace Go.Proofs.YtjamfddhcigchaaGreatDoor.HFnCodeBent
open Go.RowKit Go.Proofs.YtjamfddhcigchaaGreatDoorW.PrintWords Go.Proofs.YtjamfddhcigchaaGreatDoorW.PrintLast Go.Proofs.YtjamfddhcigchaaGreatDoorW.PrintMore
attribute [local go_sem] max2_int min2_int max_two min_two max_three min_three max_four min_four
set_option linter.unusedVariables false
set_option linter.unusedSimpArgs false
theorem eqA30 (d : Nat) (w : World) (x0 y0 : Int) (x1 y1 : Int) (x2 y2 : Int) (x3 y3 : Int) :
    (Op.equalIn (d + 3) 30 (.agg #[.int .i64 x0, .int .i64 x1, .int .i64 x2, .int .i64 x3]) (.agg #[.int .i64 y0, .int .i64 y1, .int .i64 y2, .int .i64 y3])).run Tryz.prog w = .ok (x0 == y0 && (x1 == y1 && ((x2 == y2 && (x3 == y3))))) w := by
  refine eqA_of Tryz.underlying30 (by kernel_rfl) ?_
  refine eqf_cons (by rfl) (by go_simp; rfl) (by go_simp; rfl) (by go_simp) ?_
  refine eqf_cons (by rfl) (by go_simp; rfl) (by go_simp; rfl) (by go_simp) ?_
  exact eqf_last (by rfl) (by go_simp) (by go_simp) (eqA28 (d + 0) w _ _ _ _)
end Go.Proofs.YtjamfddhcigchaaGreatDoor.HFnCodeBent
namespace Go.Proofs.YtjamfddhcigchaaGreatDoor.HFnCodeBent
open Go.RowKit Go.Proofs.YtjamfddhcigchaaGreatDoorW.PrintWords Go.Proofs.YtjamfddhcigchaaGreatDoorW.PrintLast Go.Proofs.YtjamfddhcigchaaGreatDoorW.PrintMore
attribute [local go_sem] max2_int min2_int max_two min_two max_three min_three max_four min_four
set_option linter.unusedVariables false
set_option linter.unusedSimpArgs false
attribute [local go_sem high] eqA28 eqA30
def bits_Mul32.f (a0 : Int) (a1 : Int) : Option (Int × Int) := some (((IntKind.u64.wrap ((IntKind.u64.wrap (a0)) * (IntKind.u64.wrap (a1)))) / 4294967296) % 4294967296, (IntKind.u64.wrap ((IntKind.u64.wrap (a0)) * (IntKind.u64.wrap (a1)))) % 4294967296)
def bits_Mul64.f (a0 : Int) (a1 : Int) : Option (Int × Int) := some (IntKind.u64.wrap ((IntKind.u64.wrap ((IntKind.u64.wrap ((a0 / 4294967296) * (a1 / 4294967296))) + ((IntKind.u64.wrap ((IntKind.u64.wrap ((a0 / 4294967296) * (Go.bits .and .u64 a1 4294967295))) + ((IntKind.u64.wrap ((Go.bits .and .u64 a0 4294967295) * (Go.bits .and .u64 a1 4294967295))) / 4294967296))) / 4294967296))) + ((IntKind.u64.wrap ((Go.bits .and .u64 (IntKind.u64.wrap ((IntKind.u64.wrap ((a0 / 4294967296) * (Go.bits .and .u64 a1 4294967295))) + ((IntKind.u64.wrap ((Go.bits .and .u64 a0 4294967295) * (Go.bits .and .u64 a1 4294967295))) / 4294967296))) 4294967295) + (IntKind.u64.wrap ((Go.bits .and .u64 a0 4294967295) * (a1 / 4294967296))))) / 4294967296)), IntKind.u64.wrap (a0 * a1))
set_option maxHeartbeats 8000000 in
set_option maxRecDepth 100000 in
theorem bits_Mul64.calls (a0 : Int) (a1 : Int) (r1 : Int) (r2 : Int) (w : World) (h : bits_Mul64.f a0 a1 = some (r1, r2)) :
    Calls Tryz.prog 129 #[.int .u64 a0, .int .u64 a1] w fun e w' => e = .returned (.tuple #[.int .u64 r1, .int .u64 r2]) ∧ Drawn0 w w' := by
 have H : (some (IntKind.u64.wrap ((IntKind.u64.wrap ((IntKind.u64.wrap ((a0 / 4294967296) * (a1 / 4294967296))) + ((IntKind.u64.wrap ((IntKind.u64.wrap ((a0 / 4294967296) * (Go.bits .and .u64 a1 4294967295))) + ((IntKind.u64.wrap ((Go.bits .and .u64 a0 4294967295) * (Go.bits .and .u64 a1 4294967295))) / 4294967296))) / 4294967296))) + ((IntKind.u64.wrap ((Go.bits .and .u64 (IntKind.u64.wrap ((IntKind.u64.wrap ((a0 / 4294967296) * (Go.bits .and .u64 a1 4294967295))) + ((IntKind.u64.wrap ((Go.bits .and .u64 a0 4294967295) * (Go.bits .and .u64 a1 4294967295))) / 4294967296))) 4294967295) + (IntKind.u64.wrap ((Go.bits .and .u64 a0 4294967295) * (a1 / 4294967296))))) / 4294967296)), IntKind.u64.wrap (a0 * a1))) = some (r1, r2) := h
 clear h
 simp only [Option.some.injEq, Prod.mk.injEq] at H
 obtain ⟨rfl, rfl⟩ := H
 go_enter Tryz.func129, Tryz.ntmps129
 go_wp2
 go_ret2
 exact ⟨qF, by repeat (first | exact Drawn0.refl _ | apply Drawn0.step)⟩
def bits_Mul.f (a0 : Int) (a1 : Int) : Option (Int × Int) := (bits_Mul64.f a0 a1).bind fun bt101 => (some (bt101.1, bt101.2))
set_option maxHeartbeats 8000000 in
set_option maxRecDepth 100000 in
theorem bits_Mul.calls (a0 : Int) (a1 : Int) (r1 : Int) (r2 : Int) (w : World) (h : bits_Mul.f a0 a1 = some (r1, r2)) :
    Calls Tryz.prog 109 #[.int .u64 a0, .int .u64 a1] w fun e w' => e = .returned (.tuple #[.int .u64 r1, .int .u64 r2]) ∧ Drawn0 w w' := by
 have H : ((bits_Mul64.f a0 a1).bind fun bt101 => (some (bt101.1, bt101.2))) = some (r1, r2) := h
 clear h
 replace H := oB_ H
 obtain ⟨⟨t101, t102⟩, A30, H⟩ := H
 replace H : (some (t101, t102)) = some (r1, r2) := H
 have A3 := aM_ A30
 clear A30
 simp only [Option.some.injEq, Prod.mk.injEq] at H
 obtain ⟨rfl, rfl⟩ := H
 go_enter Tryz.func109, Tryz.ntmps109
 go_wp2_with (first | ((with_reducible refine gate_callee (f := 129) rfl ?_); refine goesL_ (some 25) rfl rfl Tryz.func129 (by kernel_rfl) rfl #[.int .u64 a0, .int .u64 a1] rfl (by (try simp only [mA_, List.map_cons, List.map_nil]); first | done | rfl | (simp only [lD_, lT_]; rfl)) ?_; (with_reducible refine (bits_Mul64.calls a0 a1 t101 t102 _ A3.out).mono ?_); rintro e w' ⟨rfl, ⟨nd, rfl⟩⟩; refine ⟨_, rfl, ?_⟩))
 go_ret2
 exact ⟨qF, by repeat (first | exact Drawn0.refl _ | apply Drawn0.step)⟩
def impl_isNum.f (a0 : Int) : Option (Bool) := if a0 ≥ (-1000000) then (some (decide (a0 ≤ 1000000))) else (some false)
set_option maxHeartbeats 8000000 in
set_option maxRecDepth 100000 in
theorem impl_isNum.calls (a0 : Int) (r : Bool) (w : World) (h : impl_isNum.f a0 = some r) :
    Calls Tryz.prog 63 #[.int .i64 a0] w fun e w' => e = .returned (.bool r) ∧ Drawn0 w w' := by
 have H : (if a0 ≥ (-1000000) then (some (decide (a0 ≤ 1000000))) else (some false)) = some r := h
 clear h
 by_cases c2 : a0 ≥ (-1000000)
 · rw [if_pos c2] at H
   have c2b0 : decide ((-1000000) ≤ a0) = true := dT_ c2
   clear c2
   obtain rfl := oI_ H
   go_enter Tryz.func63, Tryz.ntmps63
   go_wp2
   go_ret
   exact ⟨qF, by repeat (first | exact Drawn0.refl _ | apply Drawn0.step)⟩
 rw [if_neg c2] at H
 have c2b0 : decide ((-1000000) ≤ a0) = false := dF_ c2
 clear c2
 obtain rfl := oI_ H
 go_enter Tryz.func63, Tryz.ntmps63
 go_wp2
 go_ret
 exact ⟨qF, by repeat (first | exact Drawn0.refl _ | apply Drawn0.step)⟩
def impl_AddrOk.f (a0_0 : Int) (a0_1 : Int) : Option (Bool) := if a0_0 ≥ 1 then (if a0_0 ≤ 3 then (if a0_1 ≥ 0 then (some (decide (a0_1 < 6))) else (some false)) else (some false)) else (some false)
set_option maxHeartbeats 8000000 in
set_option maxRecDepth 100000 in
theorem impl_AddrOk.calls (a0_0 : Int) (a0_1 : Int) (r : Bool) (w : World) (h : impl_AddrOk.f a0_0 a0_1 = some r) :
    Calls Tryz.prog 110 #[.agg #[.int .i64 a0_0, .int .i64 a0_1]] w fun e w' => e = .returned (.bool r) ∧ Below w.heap.size w w' := by
 have hu28 := Tryz.underlying28
 have HB := aM_ (Below.refl w.heap.size w)
 have H : (if a0_0 ≥ 1 then (if a0_0 ≤ 3 then (if a0_1 ≥ 0 then (some (decide (a0_1 < 6))) else (some false)) else (some false)) else (some false)) = some r := h
 clear h
 by_cases c2 : a0_0 ≥ 1
 rotate_left
 · rw [if_neg c2] at H
   have c2b0 : decide (1 ≤ a0_0) = false := dF_ c2
   clear c2
   obtain rfl := oI_ H
   go_enter Tryz.func110, Tryz.ntmps110
   go_wp2_with (first | ((with_reducible refine gate_dst (N := 1) rfl ?_); refine box_event ?hg (N := 1) ?hd (cs := #[.int .i64 a0_0, .int .i64 a0_1]) (t := 28) ?hr ?_; (case hd => rfl); (case hg => rfl); (case hr => first | (go_simp; done) | (go_simp; rfl)); intro gb103 hg w11 hbox hb; have n0_ := aM_ (bT_ (qB HB) hb); have n1_ := aM_ (hbox); have n2_ := aM_ ((by rw [hg]; exact (bZ_ (qB HB)) : w.heap.size ≤ gb103)); have n3_ := aM_ ((by rw [hg]; exact (bZ_ (qB HB)) : w.heap.size ≤ gb103)); clear HB; have HB := n0_; have BK103 := n1_; have GW103 := n2_; have GE103 := n3_; clear n0_ n1_ n2_ n3_ hb hbox hg; (obtain ⟨hcz12_0, hcz12_1⟩ := cells2 BK103.out); (obtain ⟨hfz12_0, hfz12_1⟩ := frozen2 BK103.out)))
   go_ret
   exact ⟨qE, qB HB⟩
 rw [if_pos c2] at H
 have c2b0 : decide (1 ≤ a0_0) = true := dT_ c2
 clear c2
 by_cases c3 : a0_0 ≤ 3
 rotate_left
 · rw [if_neg c3] at H
   have c3b0 : decide (a0_0 ≤ 3) = false := dF_ c3
   clear c3
   obtain rfl := oI_ H
   go_enter Tryz.func110, Tryz.ntmps110
   go_wp2_with (first | ((with_reducible refine gate_dst (N := 1) rfl ?_); refine box_event ?hg (N := 1) ?hd (cs := #[.int .i64 a0_0, .int .i64 a0_1]) (t := 28) ?hr ?_; (case hd => rfl); (case hg => rfl); (case hr => first | (go_simp; done) | (go_simp; rfl)); intro gb103 hg w9 hbox hb; have n0_ := aM_ (bT_ (qB HB) hb); have n1_ := aM_ (hbox); have n2_ := aM_ ((by rw [hg]; exact (bZ_ (qB HB)) : w.heap.size ≤ gb103)); have n3_ := aM_ ((by rw [hg]; exact (bZ_ (qB HB)) : w.heap.size ≤ gb103)); clear HB; have HB := n0_; have BK103 := n1_; have GW103 := n2_; have GE103 := n3_; clear n0_ n1_ n2_ n3_ hb hbox hg; (obtain ⟨hcz10_0, hcz10_1⟩ := cells2 BK103.out); (obtain ⟨hfz10_0, hfz10_1⟩ := frozen2 BK103.out)))
   go_ret
   exact ⟨qE, qB HB⟩
 rw [if_pos c3] at H
 have c3b0 : decide (a0_0 ≤ 3) = true := dT_ c3
 clear c3
 by_cases c4 : a0_1 ≥ 0
 · rw [if_pos c4] at H
   have c4b0 : decide (0 ≤ a0_1) = true := dT_ c4
   clear c4
   obtain rfl := oI_ H
   go_enter Tryz.func110, Tryz.ntmps110
   go_wp2_with (first | ((with_reducible refine gate_dst (N := 1) rfl ?_); refine box_event ?hg (N := 1) ?hd (cs := #[.int .i64 a0_0, .int .i64 a0_1]) (t := 28) ?hr ?_; (case hd => rfl); (case hg => rfl); (case hr => first | (go_simp; done) | (go_simp; rfl)); intro gb103 hg w5 hbox hb; have n0_ := aM_ (bT_ (qB HB) hb); have n1_ := aM_ (hbox); have n2_ := aM_ ((by rw [hg]; exact (bZ_ (qB HB)) : w.heap.size ≤ gb103)); have n3_ := aM_ ((by rw [hg]; exact (bZ_ (qB HB)) : w.heap.size ≤ gb103)); clear HB; have HB := n0_; have BK103 := n1_; have GW103 := n2_; have GE103 := n3_; clear n0_ n1_ n2_ n3_ hb hbox hg; (obtain ⟨hcz6_0, hcz6_1⟩ := cells2 BK103.out); (obtain ⟨hfz6_0, hfz6_1⟩ := frozen2 BK103.out)))
   go_ret
   exact ⟨qE, qB HB⟩
 rw [if_neg c4] at H
 have c4b0 : decide (0 ≤ a0_1) = false := dF_ c4
 clear c4
 obtain rfl := oI_ H
 go_enter Tryz.func110, Tryz.ntmps110
 go_wp2_with (first | ((with_reducible refine gate_dst (N := 1) rfl ?_); refine box_event ?hg (N := 1) ?hd (cs := #[.int .i64 a0_0, .int .i64 a0_1]) (t := 28) ?hr ?_; (case hd => rfl); (case hg => rfl); (case hr => first | (go_simp; done) | (go_simp; rfl)); intro gb103 hg w7 hbox hb; have n0_ := aM_ (bT_ (qB HB) hb); have n1_ := aM_ (hbox); have n2_ := aM_ ((by rw [hg]; exact (bZ_ (qB HB)) : w.heap.size ≤ gb103)); have n3_ := aM_ ((by rw [hg]; exact (bZ_ (qB HB)) : w.heap.size ≤ gb103)); clear HB; have HB := n0_; have BK103 := n1_; have GW103 := n2_; have GE103 := n3_; clear n0_ n1_ n2_ n3_ hb hbox hg; (obtain ⟨hcz8_0, hcz8_1⟩ := cells2 BK103.out); (obtain ⟨hfz8_0, hfz8_1⟩ := frozen2 BK103.out)))
 go_ret
 exact ⟨qE, qB HB⟩
def impl_puts.f (a0_0 : Int) (a0_1 : Int) : Option (Bool) := (impl_AddrOk.f a0_0 a0_1).bind fun t105 => (if t105 = true then (some (a0_0 != 1)) else (some false))
set_option maxHeartbeats 8000000 in
set_option maxRecDepth 100000 in
theorem impl_puts.calls (a0_0 : Int) (a0_1 : Int) (r : Bool) (w : World) (h : impl_puts.f a0_0 a0_1 = some r) :
    Calls Tryz.prog 111 #[.agg #[.int .i64 a0_0, .int .i64 a0_1]] w fun e w' => e = .returned (.bool r) ∧ Below w.heap.size w w' := by
 have hu28 := Tryz.underlying28
 have HB := aM_ (Below.refl w.heap.size w)
 have H : ((impl_AddrOk.f a0_0 a0_1).bind fun t105 => (if t105 = true then (some (a0_0 != 1)) else (some false))) = some r := h
 clear h
 replace H := oB_ H
 obtain ⟨t105, A20, H⟩ := H
 replace H : (if t105 = true then (some (a0_0 != 1)) else (some false)) = some r := H
 have A2 := aM_ A20
 clear A20
 by_cases c3 : t105 = true
 rotate_left
 · replace c3 := Bool.eq_false_iff.mpr c3
   subst c3
   have H1 : (some false) = some r := by rw [if_neg (show ¬ (false = true) by decide)] at H; exact H
   clear H
   have H := H1
   clear H1
   obtain rfl := oI_ H
   go_enter Tryz.func111, Tryz.ntmps111
   go_wp2_with (first | ((with_reducible refine gate_dst (N := 1) rfl ?_); refine box_event ?hg (N := 1) ?hd (cs := #[.int .i64 a0_0, .int .i64 a0_1]) (t := 28) ?hr ?_; (case hd => rfl); (case hg => rfl); (case hr => first | (go_simp; done) | (go_simp; rfl)); intro gb104 hg w8 hbox hb; have n0_ := aM_ (bT_ (qB HB) hb); have n1_ := aM_ (hbox); have n2_ := aM_ ((by rw [hg]; exact (bZ_ (qB HB)) : w.heap.size ≤ gb104)); have n3_ := aM_ ((by rw [hg]; exact (bZ_ (qB HB)) : w.heap.size ≤ gb104)); clear HB; have HB := n0_; have BK104 := n1_; have GW104 := n2_; have GE104 := n3_; clear n0_ n1_ n2_ n3_ hb hbox hg; (obtain ⟨hcz9_0, hcz9_1⟩ := cells2 BK104.out); (obtain ⟨hfz9_0, hfz9_1⟩ := frozen2 BK104.out)) | ((with_reducible refine gate_callee (f := 110) rfl ?_); refine goesL_ (some 4) rfl rfl Tryz.func110 (by kernel_rfl) rfl #[.agg #[.int .i64 a0_0, .int .i64 a0_1]] rfl (by (try simp only [mA_, List.map_cons, List.map_nil]); first | done | rfl | (simp only [lD_, lT_]; rfl)) ?_; (with_reducible refine (impl_AddrOk.calls a0_0 a0_1 false _ A2.out).mono ?_); rintro e w10 ⟨rfl, hb⟩; refine ⟨_, rfl, ?_⟩; have n0_ := aM_ (blk_below (g := gb104) (o := .cells #[.int .i64 a0_0, .int .i64 a0_1] 28 (0, 0)) qk hb); have n1_ := aM_ (bT_ (qB HB) hb); clear BK104 HB; revert n0_ n1_; intro BK104 HB; (try clear hb); (try clear hb2); (try clear hk); (try clear hi)))
   go_ret
   exact ⟨qE, qB HB⟩
 subst c3
 have H1 : (some (a0_0 != 1)) = some r := by rw [if_pos rfl] at H; exact H
 clear H
 have H := H1
 clear H1
 obtain rfl := oI_ H
 go_enter Tryz.func111, Tryz.ntmps111
 go_wp2_with (first | ((with_reducible refine gate_dst (N := 1) rfl ?_); refine box_event ?hg (N := 1) ?hd (cs := #[.int .i64 a0_0, .int .i64 a0_1]) (t := 28) ?hr ?_; (case hd => rfl); (case hg => rfl); (case hr => first | (go_simp; done) | (go_simp; rfl)); intro gb104 hg w4 hbox hb; have n0_ := aM_ (bT_ (qB HB) hb); have n1_ := aM_ (hbox); have n2_ := aM_ ((by rw [hg]; exact (bZ_ (qB HB)) : w.heap.size ≤ gb104)); have n3_ := aM_ ((by rw [hg]; exact (bZ_ (qB HB)) : w.heap.size ≤ gb104)); clear HB; have HB := n0_; have BK104 := n1_; have GW104 := n2_; have GE104 := n3_; clear n0_ n1_ n2_ n3_ hb hbox hg; (obtain ⟨hcz5_0, hcz5_1⟩ := cells2 BK104.out); (obtain ⟨hfz5_0, hfz5_1⟩ := frozen2 BK104.out)) | ((with_reducible refine gate_callee (f := 110) rfl ?_); refine goesL_ (some 4) rfl rfl Tryz.func110 (by kernel_rfl) rfl #[.agg #[.int .i64 a0_0, .int .i64 a0_1]] rfl (by (try simp only [mA_, List.map_cons, List.map_nil]); first | done | rfl | (simp only [lD_, lT_]; rfl)) ?_; (with_reducible refine (impl_AddrOk.calls a0_0 a0_1 true _ A2.out).mono ?_); rintro e w6 ⟨rfl, hb⟩; refine ⟨_, rfl, ?_⟩; have n0_ := aM_ (blk_below (g := gb104) (o := .cells #[.int .i64 a0_0, .int .i64 a0_1] 28 (0, 0)) qk hb); have n1_ := aM_ (bT_ (qB HB) hb); clear BK104 HB; revert n0_ n1_; intro BK104 HB; (try clear hb); (try clear hb2); (try clear hk); (try clear hi); (obtain ⟨hcz7_0, hcz7_1⟩ := cells2 BK104.out); (obtain ⟨hfz7_0, hfz7_1⟩ := frozen2 BK104.out)))
 go_ret
 exact ⟨qE, qB HB⟩
def impl_isTwo.f (a0 : Int) : Option (Bool) := if a0 ≥ 3 then (some (decide (a0 ≤ 9))) else (some false)
set_option maxHeartbeats 8000000 in
set_option maxRecDepth 100000 in
theorem impl_isTwo.calls (a0 : Int) (r : Bool) (w : World) (h : impl_isTwo.f a0 = some r) :
    Calls Tryz.prog 112 #[.int .i64 a0] w fun e w' => e = .returned (.bool r) ∧ Drawn0 w w' := by
 have H : (if a0 ≥ 3 then (some (decide (a0 ≤ 9))) else (some false)) = some r := h
 clear h
 by_cases c2 : a0 ≥ 3
 · rw [if_pos c2] at H
   have c2b0 : decide (3 ≤ a0) = true := dT_ c2
   clear c2
   obtain rfl := oI_ H
   go_enter Tryz.func112, Tryz.ntmps112
   go_wp2
   go_ret
   exact ⟨qF, by repeat (first | exact Drawn0.refl _ | apply Drawn0.step)⟩
 rw [if_neg c2] at H
 have c2b0 : decide (3 ≤ a0) = false := dF_ c2
 clear c2
 obtain rfl := oI_ H
 go_enter Tryz.func112, Tryz.ntmps112
 go_wp2
 go_ret
 exact ⟨qF, by repeat (first | exact Drawn0.refl _ | apply Drawn0.step)⟩
def impl_Ins_ok.j0 : Nat → Int → Int → Int → Bool → Int → Int → Int → Int → Option (Bool)
  | 0, _, _, _, _, _, _, _, _ => none
  | k + 1, x1, x2, x8, x56, x107000, x107001, x107002, x107003 => if x56 = true then (if x107001 > x1 then (if x107001 ≤ x2 then (some (x107002 == 0 && (x107003 == 0))) else (some false)) else (some false)) else (if x8 = 8 then (if x107001 ≥ 0 then (if x107001 < x1 then (some (x107002 == 0 && (x107003 == 0))) else (some false)) else (some false)) else (some false))
def impl_Ins_ok.f (k : Nat) (a0_0 : Int) (a0_1 : Int) (a0_2 : Int) (a0_3 : Int) (a1 : Int) (a2 : Int) : Option (Bool) := if a0_0 = 1 then ((impl_isNum.f a0_1).bind fun t107 => (if t107 = true then (some (a0_2 == 0 && (a0_3 == 0))) else (some false))) else (if a0_0 = 2 then (if a0_1 = 0 then ((impl_AddrOk.f a0_2 a0_3).bind fun t108 => (some t108)) else (some false)) else (if a0_0 = 3 then (if a0_1 = 0 then ((impl_puts.f a0_2 a0_3).bind fun t109 => (some t109)) else (some false)) else (if a0_0 = 4 then ((impl_isTwo.f a0_1).bind fun t110 => (if t110 = true then (some (a0_2 == 0 && (a0_3 == 0))) else (some false))) else (if a0_0 = 5 then (some (a0_0 == 5 && (a0_1 == 0 && ((a0_2 == 0 && (a0_3 == 0)))))) else (if a0_0 = 6 then (impl_Ins_ok.j0 k a1 a2 a0_0 (a0_0 == 6) a0_0 a0_1 a0_2 a0_3) else (impl_Ins_ok.j0 k a1 a2 a0_0 (a0_0 == 7) a0_0 a0_1 a0_2 a0_3))))))
set_option maxHeartbeats 8000000 in
set_option maxRecDepth 100000 in
theorem impl_Ins_ok.calls (k : Nat) (a0_0 : Int) (a0_1 : Int) (a0_2 : Int) (a0_3 : Int) (a1 : Int) (a2 : Int) (r : Bool) (w : World) (h : impl_Ins_ok.f k a0_0 a0_1 a0_2 a0_3 a1 a2 = some r) :
    Calls Tryz.prog 68 #[.agg #[.int .i64 a0_0, .int .i64 a0_1, .int .i64 a0_2, .int .i64 a0_3], .int .i64 a1, .int .i64 a2] w fun e w' => e = .returned (.bool r) ∧ Below w.heap.size w w' := by
 have hu30 := Tryz.underlying30
 have hu28 := Tryz.underlying28
 have HB := aM_ (Below.refl w.heap.size w)
 have H : (if a0_0 = 1 then ((impl_isNum.f a0_1).bind fun t107 => (if t107 = true then (some (a0_2 == 0 && (a0_3 == 0))) else (some false))) else (if a0_0 = 2 then (if a0_1 = 0 then ((impl_AddrOk.f a0_2 a0_3).bind fun t108 => (some t108)) else (some false)) else (if a0_0 = 3 then (if a0_1 = 0 then ((impl_puts.f a0_2 a0_3).bind fun t109 => (some t109)) else (some false)) else (if a0_0 = 4 then ((impl_isTwo.f a0_1).bind fun t110 => (if t110 = true then (some (a0_2 == 0 && (a0_3 == 0))) else (some false))) else (if a0_0 = 5 then (some (a0_0 == 5 && (a0_1 == 0 && ((a0_2 == 0 && (a0_3 == 0)))))) else (if a0_0 = 6 then (impl_Ins_ok.j0 k a1 a2 a0_0 (a0_0 == 6) a0_0 a0_1 a0_2 a0_3) else (impl_Ins_ok.j0 k a1 a2 a0_0 (a0_0 == 7) a0_0 a0_1 a0_2 a0_3))))))) = some r := h
 clear h
 by_cases c4 : a0_0 = 1
 · rw [if_pos c4] at H
   have c4b0 : (a0_0 == 1) = true := beq_iff_eq.mpr c4
   have c4b1 : (a0_0 != 1) = false := bne_eq_false_iff_eq.mpr c4
   clear c4
   replace H := oB_ H
   obtain ⟨t107, A50, H⟩ := H
   replace H : (if t107 = true then (some (a0_2 == 0 && (a0_3 == 0))) else (some false)) = some r := H
   have A5 := aM_ A50
   clear A50
   by_cases c6 : t107 = true
   · subst c6
     have H1 : (some (a0_2 == 0 && (a0_3 == 0))) = some r := by rw [if_pos rfl] at H; exact H
     clear H
     have H := H1
     clear H1
     obtain rfl := oI_ H
     go_enter Tryz.func68, Tryz.ntmps68
     go_wp2_with (first | ((with_reducible refine gate_dst (N := 3) rfl ?_); refine box_event ?hg (N := 3) ?hd (cs := #[.int .i64 a0_0, .int .i64 a0_1, .int .i64 a0_2, .int .i64 a0_3]) (t := 30) ?hr ?_; (case hd => rfl); (case hg => rfl); (case hr => first | (go_simp; done) | (go_simp; rfl)); intro gb106 hg w7 hbox hb; have n0_ := aM_ (bT_ (qB HB) hb); have n1_ := aM_ (hbox); have n2_ := aM_ ((by rw [hg]; exact (bZ_ (qB HB)) : w.heap.size ≤ gb106)); have n3_ := aM_ ((by rw [hg]; exact (bZ_ (qB HB)) : w.heap.size ≤ gb106)); clear HB; have HB := n0_; have BK106 := n1_; have GW106 := n2_; have GE106 := n3_; clear n0_ n1_ n2_ n3_ hb hbox hg; (obtain ⟨hcz8_0, hcz8_1, hcz8_2, hcz8_3⟩ := cells4 BK106.out); (obtain ⟨hfz8_0, hfz8_1, hfz8_2, hfz8_3⟩ := frozen4 BK106.out)) | ((with_reducible refine gate_callee (f := 63) rfl ?_); refine goesL_ (some 13) rfl rfl Tryz.func63 (by kernel_rfl) rfl #[.int .i64 a0_1] rfl (by (try simp only [mA_, List.map_cons, List.map_nil]); first | done | rfl | (simp only [lD_, lT_]; rfl)) ?_; (with_reducible refine (impl_isNum.calls a0_1 true _ A5.out).mono ?_); rintro e w' ⟨rfl, ⟨nd, rfl⟩⟩; refine ⟨_, rfl, ?_⟩))
     go_ret
     exact ⟨qE, qB HB⟩
   replace c6 := Bool.eq_false_iff.mpr c6
   subst c6
   have H1 : (some false) = some r := by rw [if_neg (show ¬ (false = true) by decide)] at H; exact H
   clear H
   have H := H1
   clear H1
   obtain rfl := oI_ H
   go_enter Tryz.func68, Tryz.ntmps68
   go_wp2_with (first | ((with_reducible refine gate_dst (N := 3) rfl ?_); refine box_event ?hg (N := 3) ?hd (cs := #[.int .i64 a0_0, .int .i64 a0_1, .int .i64 a0_2, .int .i64 a0_3]) (t := 30) ?hr ?_; (case hd => rfl); (case hg => rfl); (case hr => first | (go_simp; done) | (go_simp; rfl)); intro gb106 hg w9 hbox hb; have n0_ := aM_ (bT_ (qB HB) hb); have n1_ := aM_ (hbox); have n2_ := aM_ ((by rw [hg]; exact (bZ_ (qB HB)) : w.heap.size ≤ gb106)); have n3_ := aM_ ((by rw [hg]; exact (bZ_ (qB HB)) : w.heap.size ≤ gb106)); clear HB; have HB := n0_; have BK106 := n1_; have GW106 := n2_; have GE106 := n3_; clear n0_ n1_ n2_ n3_ hb hbox hg; (obtain ⟨hcz10_0, hcz10_1, hcz10_2, hcz10_3⟩ := cells4 BK106.out); (obtain ⟨hfz10_0, hfz10_1, hfz10_2, hfz10_3⟩ := frozen4 BK106.out)) | ((with_reducible refine gate_callee (f := 63) rfl ?_); refine goesL_ (some 13) rfl rfl Tryz.func63 (by kernel_rfl) rfl #[.int .i64 a0_1] rfl (by (try simp only [mA_, List.map_cons, List.map_nil]); first | done | rfl | (simp only [lD_, lT_]; rfl)) ?_; (with_reducible refine (impl_isNum.calls a0_1 false _ A5.out).mono ?_); rintro e w' ⟨rfl, ⟨nd, rfl⟩⟩; refine ⟨_, rfl, ?_⟩))
   go_ret
   exact ⟨qE, qB HB⟩
 rw [if_neg c4] at H
 have c4b0 : (a0_0 == 1) = false := beq_eq_false_iff_ne.mpr c4
 have c4b1 : (a0_0 != 1) = true := bne_iff_ne.mpr c4
 by_cases c11 : a0_0 = 2
 · rw [if_pos c11] at H
   have c11b0 : (a0_0 == 2) = true := beq_iff_eq.mpr c11
   have c11b1 : (a0_0 != 2) = false := bne_eq_false_iff_eq.mpr c11
   clear c11
   by_cases c12 : a0_1 = 0
   rotate_left
   · rw [if_neg c12] at H
     have c12b0 : (a0_1 == 0) = false := beq_eq_false_iff_ne.mpr c12
     have c12b1 : (a0_1 != 0) = true := bne_iff_ne.mpr c12
     obtain rfl := oI_ H
     go_enter Tryz.func68, Tryz.ntmps68
     go_wp2_with (first | ((with_reducible refine gate_dst (N := 3) rfl ?_); refine box_event ?hg (N := 3) ?hd (cs := #[.int .i64 a0_0, .int .i64 a0_1, .int .i64 a0_2, .int .i64 a0_3]) (t := 30) ?hr ?_; (case hd => rfl); (case hg => rfl); (case hr => first | (go_simp; done) | (go_simp; rfl)); intro gb106 hg w17 hbox hb; have n0_ := aM_ (bT_ (qB HB) hb); have n1_ := aM_ (hbox); have n2_ := aM_ ((by rw [hg]; exact (bZ_ (qB HB)) : w.heap.size ≤ gb106)); have n3_ := aM_ ((by rw [hg]; exact (bZ_ (qB HB)) : w.heap.size ≤ gb106)); clear HB; have HB := n0_; have BK106 := n1_; have GW106 := n2_; have GE106 := n3_; clear n0_ n1_ n2_ n3_ hb hbox hg; (obtain ⟨hcz18_0, hcz18_1, hcz18_2, hcz18_3⟩ := cells4 BK106.out); (obtain ⟨hfz18_0, hfz18_1, hfz18_2, hfz18_3⟩ := frozen4 BK106.out)))
     go_ret
     exact ⟨qE, qB HB⟩
   rw [if_pos c12] at H
   have c12b0 : (a0_1 == 0) = true := beq_iff_eq.mpr c12
   have c12b1 : (a0_1 != 0) = false := bne_eq_false_iff_eq.mpr c12
   clear c12
   replace H := oB_ H
   obtain ⟨t108, A130, H⟩ := H
   replace H : (some t108) = some r := H
   have A13 := aM_ A130
   clear A130
   obtain rfl := oI_ H
   go_enter Tryz.func68, Tryz.ntmps68
   go_wp2_with (first | ((with_reducible refine gate_dst (N := 3) rfl ?_); refine box_event ?hg (N := 3) ?hd (cs := #[.int .i64 a0_0, .int .i64 a0_1, .int .i64 a0_2, .int .i64 a0_3]) (t := 30) ?hr ?_; (case hd => rfl); (case hg => rfl); (case hr => first | (go_simp; done) | (go_simp; rfl)); intro gb106 hg w14 hbox hb; have n0_ := aM_ (bT_ (qB HB) hb); have n1_ := aM_ (hbox); have n2_ := aM_ ((by rw [hg]; exact (bZ_ (qB HB)) : w.heap.size ≤ gb106)); have n3_ := aM_ ((by rw [hg]; exact (bZ_ (qB HB)) : w.heap.size ≤ gb106)); clear HB; have HB := n0_; have BK106 := n1_; have GW106 := n2_; have GE106 := n3_; clear n0_ n1_ n2_ n3_ hb hbox hg; (obtain ⟨hcz15_0, hcz15_1, hcz15_2, hcz15_3⟩ := cells4 BK106.out); (obtain ⟨hfz15_0, hfz15_1, hfz15_2, hfz15_3⟩ := frozen4 BK106.out)) | (go_at_call 110; (with_reducible refine (impl_AddrOk.calls a0_2 a0_3 t108 _ A13.out).mono ?_); rintro e w16 ⟨rfl, hb⟩; have n0_ := aM_ (blk_below (g := gb106) (o := .cells #[.int .i64 a0_0, .int .i64 a0_1, .int .i64 a0_2, .int .i64 a0_3] 30 (0, 0)) qk hb); have n1_ := aM_ (bT_ (qB HB) hb); clear BK106 HB; revert n0_ n1_; intro BK106 HB; (try clear hb); (try clear hb2); (try clear hk); (try clear hi)))
   go_ret
   exact ⟨qE, qB HB⟩
 rw [if_neg c11] at H
 have c11b0 : (a0_0 == 2) = false := beq_eq_false_iff_ne.mpr c11
 have c11b1 : (a0_0 != 2) = true := bne_iff_ne.mpr c11
 by_cases c19 : a0_0 = 3
 · rw [if_pos c19] at H
   have c19b0 : (a0_0 == 3) = true := beq_iff_eq.mpr c19
   have c19b1 : (a0_0 != 3) = false := bne_eq_false_iff_eq.mpr c19
   clear c19
   by_cases c20 : a0_1 = 0
   rotate_left
   · rw [if_neg c20] at H
     have c20b0 : (a0_1 == 0) = false := beq_eq_false_iff_ne.mpr c20
     have c20b1 : (a0_1 != 0) = true := bne_iff_ne.mpr c20
     obtain rfl := oI_ H
     go_enter Tryz.func68, Tryz.ntmps68
     go_wp2_with (first | ((with_reducible refine gate_dst (N := 3) rfl ?_); refine box_event ?hg (N := 3) ?hd (cs := #[.int .i64 a0_0, .int .i64 a0_1, .int .i64 a0_2, .int .i64 a0_3]) (t := 30) ?hr ?_; (case hd => rfl); (case hg => rfl); (case hr => first | (go_simp; done) | (go_simp; rfl)); intro gb106 hg w25 hbox hb; have n0_ := aM_ (bT_ (qB HB) hb); have n1_ := aM_ (hbox); have n2_ := aM_ ((by rw [hg]; exact (bZ_ (qB HB)) : w.heap.size ≤ gb106)); have n3_ := aM_ ((by rw [hg]; exact (bZ_ (qB HB)) : w.heap.size ≤ gb106)); clear HB; have HB := n0_; have BK106 := n1_; have GW106 := n2_; have GE106 := n3_; clear n0_ n1_ n2_ n3_ hb hbox hg; (obtain ⟨hcz26_0, hcz26_1, hcz26_2, hcz26_3⟩ := cells4 BK106.out); (obtain ⟨hfz26_0, hfz26_1, hfz26_2, hfz26_3⟩ := frozen4 BK106.out)))
     go_ret
     exact ⟨qE, qB HB⟩
   rw [if_pos c20] at H
   have c20b0 : (a0_1 == 0) = true := beq_iff_eq.mpr c20
   have c20b1 : (a0_1 != 0) = false := bne_eq_false_iff_eq.mpr c20
   clear c20
   replace H := oB_ H
   obtain ⟨t109, A210, H⟩ := H
   replace H : (some t109) = some r := H
   have A21 := aM_ A210
   clear A210
   obtain rfl := oI_ H
   go_enter Tryz.func68, Tryz.ntmps68
   go_wp2_with (first | ((with_reducible refine gate_dst (N := 3) rfl ?_); refine box_event ?hg (N := 3) ?hd (cs := #[.int .i64 a0_0, .int .i64 a0_1, .int .i64 a0_2, .int .i64 a0_3]) (t := 30) ?hr ?_; (case hd => rfl); (case hg => rfl); (case hr => first | (go_simp; done) | (go_simp; rfl)); intro gb106 hg w22 hbox hb; have n0_ := aM_ (bT_ (qB HB) hb); have n1_ := aM_ (hbox); have n2_ := aM_ ((by rw [hg]; exact (bZ_ (qB HB)) : w.heap.size ≤ gb106)); have n3_ := aM_ ((by rw [hg]; exact (bZ_ (qB HB)) : w.heap.size ≤ gb106)); clear HB; have HB := n0_; have BK106 := n1_; have GW106 := n2_; have GE106 := n3_; clear n0_ n1_ n2_ n3_ hb hbox hg; (obtain ⟨hcz23_0, hcz23_1, hcz23_2, hcz23_3⟩ := cells4 BK106.out); (obtain ⟨hfz23_0, hfz23_1, hfz23_2, hfz23_3⟩ := frozen4 BK106.out)) | (go_at_call 111; (with_reducible refine (impl_puts.calls a0_2 a0_3 t109 _ A21.out).mono ?_); rintro e w24 ⟨rfl, hb⟩; have n0_ := aM_ (blk_below (g := gb106) (o := .cells #[.int .i64 a0_0, .int .i64 a0_1, .int .i64 a0_2, .int .i64 a0_3] 30 (0, 0)) qk hb); have n1_ := aM_ (bT_ (qB HB) hb); clear BK106 HB; revert n0_ n1_; intro BK106 HB; (try clear hb); (try clear hb2); (try clear hk); (try clear hi)))
   go_ret
   exact ⟨qE, qB HB⟩
 rw [if_neg c19] at H
 have c19b0 : (a0_0 == 3) = false := beq_eq_false_iff_ne.mpr c19
 have c19b1 : (a0_0 != 3) = true := bne_iff_ne.mpr c19
 by_cases c27 : a0_0 = 4
 · rw [if_pos c27] at H
   have c27b0 : (a0_0 == 4) = true := beq_iff_eq.mpr c27
   have c27b1 : (a0_0 != 4) = false := bne_eq_false_iff_eq.mpr c27
   clear c27
   replace H := oB_ H
   obtain ⟨t110, A280, H⟩ := H
   replace H : (if t110 = true then (some (a0_2 == 0 && (a0_3 == 0))) else (some false)) = some r := H
   have A28 := aM_ A280
   clear A280
   by_cases c29 : t110 = true
   · subst c29
     have H1 : (some (a0_2 == 0 && (a0_3 == 0))) = some r := by rw [if_pos rfl] at H; exact H
     clear H
     have H := H1
     clear H1
     obtain rfl := oI_ H
     go_enter Tryz.func68, Tryz.ntmps68
     go_wp2_with (first | ((with_reducible refine gate_dst (N := 3) rfl ?_); refine box_event ?hg (N := 3) ?hd (cs := #[.int .i64 a0_0, .int .i64 a0_1, .int .i64 a0_2, .int .i64 a0_3]) (t := 30) ?hr ?_; (case hd => rfl); (case hg => rfl); (case hr => first | (go_simp; done) | (go_simp; rfl)); intro gb106 hg w30 hbox hb; have n0_ := aM_ (bT_ (qB HB) hb); have n1_ := aM_ (hbox); have n2_ := aM_ ((by rw [hg]; exact (bZ_ (qB HB)) : w.heap.size ≤ gb106)); have n3_ := aM_ ((by rw [hg]; exact (bZ_ (qB HB)) : w.heap.size ≤ gb106)); clear HB; have HB := n0_; have BK106 := n1_; have GW106 := n2_; have GE106 := n3_; clear n0_ n1_ n2_ n3_ hb hbox hg; (obtain ⟨hcz31_0, hcz31_1, hcz31_2, hcz31_3⟩ := cells4 BK106.out); (obtain ⟨hfz31_0, hfz31_1, hfz31_2, hfz31_3⟩ := frozen4 BK106.out)) | ((with_reducible refine gate_callee (f := 112) rfl ?_); refine goesL_ (some 44) rfl rfl Tryz.func112 (by kernel_rfl) rfl #[.int .i64 a0_1] rfl (by (try simp only [mA_, List.map_cons, List.map_nil]); first | done | rfl | (simp only [lD_, lT_]; rfl)) ?_; (with_reducible refine (impl_isTwo.calls a0_1 true _ A28.out).mono ?_); rintro e w' ⟨rfl, ⟨nd, rfl⟩⟩; refine ⟨_, rfl, ?_⟩))
     go_ret
     exact ⟨qE, qB HB⟩
   replace c29 := Bool.eq_false_iff.mpr c29
   subst c29
   have H1 : (some false) = some r := by rw [if_neg (show ¬ (false = true) by decide)] at H; exact H
   clear H
   have H := H1
   clear H1
   obtain rfl := oI_ H
   go_enter Tryz.func68, Tryz.ntmps68
   go_wp2_with (first | ((with_reducible refine gate_dst (N := 3) rfl ?_); refine box_event ?hg (N := 3) ?hd (cs := #[.int .i64 a0_0, .int .i64 a0_1, .int .i64 a0_2, .int .i64 a0_3]) (t := 30) ?hr ?_; (case hd => rfl); (case hg => rfl); (case hr => first | (go_simp; done) | (go_simp; rfl)); intro gb106 hg w32 hbox hb; have n0_ := aM_ (bT_ (qB HB) hb); have n1_ := aM_ (hbox); have n2_ := aM_ ((by rw [hg]; exact (bZ_ (qB HB)) : w.heap.size ≤ gb106)); have n3_ := aM_ ((by rw [hg]; exact (bZ_ (qB HB)) : w.heap.size ≤ gb106)); clear HB; have HB := n0_; have BK106 := n1_; have GW106 := n2_; have GE106 := n3_; clear n0_ n1_ n2_ n3_ hb hbox hg; (obtain ⟨hcz33_0, hcz33_1, hcz33_2, hcz33_3⟩ := cells4 BK106.out); (obtain ⟨hfz33_0, hfz33_1, hfz33_2, hfz33_3⟩ := frozen4 BK106.out)) | ((with_reducible refine gate_callee (f := 112) rfl ?_); refine goesL_ (some 44) rfl rfl Tryz.func112 (by kernel_rfl) rfl #[.int .i64 a0_1] rfl (by (try simp only [mA_, List.map_cons, List.map_nil]); first | done | rfl | (simp only [lD_, lT_]; rfl)) ?_; (with_reducible refine (impl_isTwo.calls a0_1 false _ A28.out).mono ?_); rintro e w' ⟨rfl, ⟨nd, rfl⟩⟩; refine ⟨_, rfl, ?_⟩))
   go_ret
   exact ⟨qE, qB HB⟩
 rw [if_neg c27] at H
 have c27b0 : (a0_0 == 4) = false := beq_eq_false_iff_ne.mpr c27
 have c27b1 : (a0_0 != 4) = true := bne_iff_ne.mpr c27
 by_cases c34 : a0_0 = 5
 · rw [if_pos c34] at H
   have c34b0 : (a0_0 == 5) = true := beq_iff_eq.mpr c34
   have c34b1 : (a0_0 != 5) = false := bne_eq_false_iff_eq.mpr c34
   clear c34
   obtain rfl := oI_ H
   go_enter Tryz.func68, Tryz.ntmps68
   go_wp2_with (first | ((with_reducible refine gate_dst (N := 3) rfl ?_); refine box_event ?hg (N := 3) ?hd (cs := #[.int .i64 a0_0, .int .i64 a0_1, .int .i64 a0_2, .int .i64 a0_3]) (t := 30) ?hr ?_; (case hd => rfl); (case hg => rfl); (case hr => first | (go_simp; done) | (go_simp; rfl)); intro gb106 hg w35 hbox hb; have n0_ := aM_ (bT_ (qB HB) hb); have n1_ := aM_ (hbox); have n2_ := aM_ ((by rw [hg]; exact (bZ_ (qB HB)) : w.heap.size ≤ gb106)); have n3_ := aM_ ((by rw [hg]; exact (bZ_ (qB HB)) : w.heap.size ≤ gb106)); clear HB; have HB := n0_; have BK106 := n1_; have GW106 := n2_; have GE106 := n3_; clear n0_ n1_ n2_ n3_ hb hbox hg; (obtain ⟨hcz36_0, hcz36_1, hcz36_2, hcz36_3⟩ := cells4 BK106.out); (obtain ⟨hfz36_0, hfz36_1, hfz36_2, hfz36_3⟩ := frozen4 BK106.out)))
   go_ret
   exact ⟨qE, qB HB⟩
 rw [if_neg c34] at H
 have c34b0 : (a0_0 == 5) = false := beq_eq_false_iff_ne.mpr c34
 have c34b1 : (a0_0 != 5) = true := bne_iff_ne.mpr c34
 have HC37 := aM_ H
 clear H
 go_enter Tryz.func68, Tryz.ntmps68
 go_upto_if 56 with (first | ((with_reducible refine gate_dst (N := 3) rfl ?_); refine box_event ?hg (N := 3) ?hd (cs := #[.int .i64 a0_0, .int .i64 a0_1, .int .i64 a0_2, .int .i64 a0_3]) (t := 30) ?hr ?_; (case hd => rfl); (case hg => rfl); (case hr => first | (go_simp; done) | (go_simp; rfl)); intro gb106 hg w38 hbox hb; have n0_ := aM_ (bT_ (qB HB) hb); have n1_ := aM_ (hbox); have n2_ := aM_ ((by rw [hg]; exact (bZ_ (qB HB)) : w.heap.size ≤ gb106)); have n3_ := aM_ ((by rw [hg]; exact (bZ_ (qB HB)) : w.heap.size ≤ gb106)); clear HB; have HB := n0_; have BK106 := n1_; have GW106 := n2_; have GE106 := n3_; clear n0_ n1_ n2_ n3_ hb hbox hg; (obtain ⟨hcz39_0, hcz39_1, hcz39_2, hcz39_3⟩ := cells4 BK106.out); (obtain ⟨hfz39_0, hfz39_1, hfz39_2, hfz39_3⟩ := frozen4 BK106.out)))
 (try simp only [Act.put, sA_, sB_, sC_])
 go_cut [56] (fun v56 wc => ∃ (kq : Nat) (x56_36 : Bool), v56 = .bool x56_36 ∧ Aside0 (impl_Ins_ok.j0 kq a1 a2 a0_0 x56_36 a0_0 a0_1 a0_2 a0_3 = some r) ∧ Aside0 (kq ≤ k) ∧ Aside0 (wc.heap[gb106]? = some (.cells #[.int .i64 a0_0, .int .i64 a0_1, .int .i64 a0_2, .int .i64 a0_3] 30 (0, 0))) ∧ Aside0 (Below w.heap.size w wc))
 case first =>
  have H := HC37.out
  clear HC37
  by_cases c40 : a0_0 = 6
  rotate_left
  · rw [if_neg c40] at H
    have c40b0 : (a0_0 == 6) = false := beq_eq_false_iff_ne.mpr c40
    have c40b1 : (a0_0 != 6) = true := bne_iff_ne.mpr c40
    (first | rw [c40b0] | (simp only [i64_w, i32_w]; rw [c40b0]) | skip)
    have H' := aM_ H
    clear H
    go_wp2
    go_meet
    case rel => exact ⟨_, ((a0_0 == 7)), qF, H', ⟨by first | omega | exact Nat.le_refl _⟩, ⟨by (with_reducible repeat (first | refine kN_ ?_ _ | refine kD_ ?_ | refine kA_ ?_ _)); exact BK106.out⟩, ⟨qB HB⟩⟩
  rw [if_pos c40] at H
  have c40b0 : (a0_0 == 6) = true := beq_iff_eq.mpr c40
  have c40b1 : (a0_0 != 6) = false := bne_eq_false_iff_eq.mpr c40
  clear c40
  (first | rw [c40b0] | (simp only [i64_w, i32_w]; rw [c40b0]) | skip)
  have H' := aM_ H
  clear H
  go_wp2
  go_meet
  case rel => exact ⟨_, ((a0_0 == 6)), qF, H', ⟨by first | omega | exact Nat.le_refl _⟩, ⟨by (with_reducible repeat (first | refine kN_ ?_ _ | refine kD_ ?_ | refine kA_ ?_ _)); exact BK106.out⟩, ⟨qB HB⟩⟩
 case rest =>
  clear HC37
  try clear c1
  try clear c2
  try clear p2
  try clear c3
  try clear c4
  try clear c4b0
  try clear c4b1
  try clear c6
  try clear c11
  try clear c11b0
  try clear c11b1
  try clear c12
  try clear c12b0
  try clear c12b1
  try clear c19
  try clear c19b0
  try clear c19b1
  try clear c20
  try clear c20b0
  try clear c20b1
  try clear c27
  try clear c27b0
  try clear c27b1
  try clear c29
  try clear c34
  try clear c34b0
  try clear c34b1
  try clear c40
  try clear c40b0
  try clear c40b1
  try clear hcz10_0
  try clear hcz10_1
  try clear hcz10_2
  try clear hcz10_3
  try clear hcz15_0
  try clear hcz15_1
  try clear hcz15_2
  try clear hcz15_3
  try clear hcz18_0
  try clear hcz18_1
  try clear hcz18_2
  try clear hcz18_3
  try clear hcz23_0
  try clear hcz23_1
  try clear hcz23_2
  try clear hcz23_3
  try clear hcz26_0
  try clear hcz26_1
  try clear hcz26_2
  try clear hcz26_3
  try clear hcz31_0
  try clear hcz31_1
  try clear hcz31_2
  try clear hcz31_3
  try clear hcz33_0
  try clear hcz33_1
  try clear hcz33_2
  try clear hcz33_3
  try clear hcz36_0
  try clear hcz36_1
  try clear hcz36_2
  try clear hcz36_3
  try clear hcz39_0
  try clear hcz39_1
  try clear hcz39_2
  try clear hcz39_3
  try clear hcz8_0
  try clear hcz8_1
  try clear hcz8_2
  try clear hcz8_3
  try clear hfz10_0
  try clear hfz10_1
  try clear hfz10_2
  try clear hfz10_3
  try clear hfz15_0
  try clear hfz15_1
  try clear hfz15_2
  try clear hfz15_3
  try clear hfz18_0
  try clear hfz18_1
  try clear hfz18_2
  try clear hfz18_3
  try clear hfz23_0
  try clear hfz23_1
  try clear hfz23_2
  try clear hfz23_3
  try clear hfz26_0
  try clear hfz26_1
  try clear hfz26_2
  try clear hfz26_3
  try clear hfz31_0
  try clear hfz31_1
  try clear hfz31_2
  try clear hfz31_3
  try clear hfz33_0
  try clear hfz33_1
  try clear hfz33_2
  try clear hfz33_3
  try clear hfz36_0
  try clear hfz36_1
  try clear hfz36_2
  try clear hfz36_3
  try clear hfz39_0
  try clear hfz39_1
  try clear hfz39_2
  try clear hfz39_3
  try clear hfz8_0
  try clear hfz8_1
  try clear hfz8_2
  try clear hfz8_3
  obtain ⟨kq, x56_36, rfl, HA, HJ36, BK106, HB⟩ := hcut
  cases kq with
  | zero => exact absurd HA.out (by simp [impl_Ins_ok.j0])
  | succ kj36 =>
   have H := HA.out
   clear HA
   simp only [impl_Ins_ok.j0] at H
   by_cases c41 : x56_36 = true
   · subst c41
     have H1 : (if a0_1 > a1 then (if a0_1 ≤ a2 then (some (a0_2 == 0 && (a0_3 == 0))) else (some false)) else (some false)) = some r := by rw [if_pos rfl] at H; exact H
     clear H
     have H := H1
     clear H1
     by_cases c42 : a0_1 > a1
     rotate_left
     · rw [if_neg c42] at H
       have c42b0 : decide (a1 < a0_1) = false := dF_ c42
       clear c42
       obtain rfl := oI_ H
       (obtain ⟨hcz46_0, hcz46_1, hcz46_2, hcz46_3⟩ := cells4 BK106.out)
       (obtain ⟨hfz46_0, hfz46_1, hfz46_2, hfz46_3⟩ := frozen4 BK106.out)
       go_wp2
       go_ret
       exact ⟨qE, qB HB⟩
     rw [if_pos c42] at H
     have c42b0 : decide (a1 < a0_1) = true := dT_ c42
     clear c42
     by_cases c43 : a0_1 ≤ a2
     · rw [if_pos c43] at H
       have c43b0 : decide (a0_1 ≤ a2) = true := dT_ c43
       clear c43
       obtain rfl := oI_ H
       (obtain ⟨hcz44_0, hcz44_1, hcz44_2, hcz44_3⟩ := cells4 BK106.out)
       (obtain ⟨hfz44_0, hfz44_1, hfz44_2, hfz44_3⟩ := frozen4 BK106.out)
       go_wp2
       go_ret
       exact ⟨qE, qB HB⟩
     rw [if_neg c43] at H
     have c43b0 : decide (a0_1 ≤ a2) = false := dF_ c43
     clear c43
     obtain rfl := oI_ H
     (obtain ⟨hcz45_0, hcz45_1, hcz45_2, hcz45_3⟩ := cells4 BK106.out)
     (obtain ⟨hfz45_0, hfz45_1, hfz45_2, hfz45_3⟩ := frozen4 BK106.out)
     go_wp2
     go_ret
     exact ⟨qE, qB HB⟩
   replace c41 := Bool.eq_false_iff.mpr c41
   subst c41
   have H1 : (if a0_0 = 8 then (if a0_1 ≥ 0 then (if a0_1 < a1 then (some (a0_2 == 0 && (a0_3 == 0))) else (some false)) else (some false)) else (some false)) = some r := by rw [if_neg (show ¬ (false = true) by decide)] at H; exact H
   clear H
   have H := H1
   clear H1
   by_cases c47 : a0_0 = 8
   rotate_left
   · rw [if_neg c47] at H
     have c47b0 : (a0_0 == 8) = false := beq_eq_false_iff_ne.mpr c47
     have c47b1 : (a0_0 != 8) = true := bne_iff_ne.mpr c47
     obtain rfl := oI_ H
     go_wp2
     go_ret
     exact ⟨qE, qB HB⟩
   rw [if_pos c47] at H
   have c47b0 : (a0_0 == 8) = true := beq_iff_eq.mpr c47
   have c47b1 : (a0_0 != 8) = false := bne_eq_false_iff_eq.mpr c47
   clear c47
   by_cases c48 : a0_1 ≥ 0
   rotate_left
   · rw [if_neg c48] at H
     have c48b0 : decide (0 ≤ a0_1) = false := dF_ c48
     clear c48
     obtain rfl := oI_ H
     (obtain ⟨hcz52_0, hcz52_1, hcz52_2, hcz52_3⟩ := cells4 BK106.out)
     (obtain ⟨hfz52_0, hfz52_1, hfz52_2, hfz52_3⟩ := frozen4 BK106.out)
     go_wp2
     go_ret
     exact ⟨qE, qB HB⟩
   rw [if_pos c48] at H
   have c48b0 : decide (0 ≤ a0_1) = true := dT_ c48
   clear c48
   by_cases c49 : a0_1 < a1
   · rw [if_pos c49] at H
     have c49b0 : decide (a0_1 < a1) = true := dT_ c49
     clear c49
     obtain rfl := oI_ H
     (obtain ⟨hcz50_0, hcz50_1, hcz50_2, hcz50_3⟩ := cells4 BK106.out)
     (obtain ⟨hfz50_0, hfz50_1, hfz50_2, hfz50_3⟩ := frozen4 BK106.out)
     go_wp2
     go_ret
     exact ⟨qE, qB HB⟩
   rw [if_neg c49] at H
   have c49b0 : decide (a0_1 < a1) = false := dF_ c49
   clear c49
   obtain rfl := oI_ H
   (obtain ⟨hcz51_0, hcz51_1, hcz51_2, hcz51_3⟩ := cells4 BK106.out)
   (obtain ⟨hfz51_0, hfz51_1, hfz51_2, hfz51_3⟩ := frozen4 BK106.out)
   go_wp2
   go_ret
   exact ⟨qE, qB HB⟩
def impl_Ins_takes.j0 : Nat → Int → Bool → Option (Int)
  | 0, _, _ => none
  | k + 1, x4, x5 => if x5 = true then (some 1) else (if x4 = 4 then (some 2) else (some 0))
def impl_Ins_takes.f (k : Nat) (a0_0 : Int) (a0_1 : Int) (a0_2 : Int) (a0_3 : Int) : Option (Int) := if a0_0 = 3 then (impl_Ins_takes.j0 k a0_0 (a0_0 == 3)) else (if a0_0 = 5 then (impl_Ins_takes.j0 k a0_0 (a0_0 == 5)) else (impl_Ins_takes.j0 k a0_0 (a0_0 == 6)))
set_option maxHeartbeats 8000000 in
set_option maxRecDepth 100000 in
theorem impl_Ins_takes.calls (k : Nat) (a0_0 : Int) (a0_1 : Int) (a0_2 : Int) (a0_3 : Int) (r : Int) (w : World) (h : impl_Ins_takes.f k a0_0 a0_1 a0_2 a0_3 = some r) :
    Calls Tryz.prog 69 #[.agg #[.int .i64 a0_0, .int .i64 a0_1, .int .i64 a0_2, .int .i64 a0_3]] w fun e w' => e = .returned (.int .i64 r) ∧ Below w.heap.size w w' := by
 have hu30 := Tryz.underlying30
 have HB := aM_ (Below.refl w.heap.size w)
 have H : (if a0_0 = 3 then (impl_Ins_takes.j0 k a0_0 (a0_0 == 3)) else (if a0_0 = 5 then (impl_Ins_takes.j0 k a0_0 (a0_0 == 5)) else (impl_Ins_takes.j0 k a0_0 (a0_0 == 6)))) = some r := h
 clear h
 have HC2 := aM_ H
 clear H
 go_enter Tryz.func69, Tryz.ntmps69
 go_upto_if 5 with (first | ((with_reducible refine gate_dst (N := 1) rfl ?_); refine box_event ?hg (N := 1) ?hd (cs := #[.int .i64 a0_0, .int .i64 a0_1, .int .i64 a0_2, .int .i64 a0_3]) (t := 30) ?hr ?_; (case hd => rfl); (case hg => rfl); (case hr => first | (go_simp; done) | (go_simp; rfl)); intro gb111 hg w3 hbox hb; have n0_ := aM_ (bT_ (qB HB) hb); have n1_ := aM_ (hbox); have n2_ := aM_ ((by rw [hg]; exact (bZ_ (qB HB)) : w.heap.size ≤ gb111)); have n3_ := aM_ ((by rw [hg]; exact (bZ_ (qB HB)) : w.heap.size ≤ gb111)); clear HB; have HB := n0_; have BK111 := n1_; have GW111 := n2_; have GE111 := n3_; clear n0_ n1_ n2_ n3_ hb hbox hg; (obtain ⟨hcz4_0, hcz4_1, hcz4_2, hcz4_3⟩ := cells4 BK111.out); (obtain ⟨hfz4_0, hfz4_1, hfz4_2, hfz4_3⟩ := frozen4 BK111.out)))
 (try simp only [Act.put, sA_, sB_, sC_])
 go_cut [5] (fun v5 wc => ∃ (kq : Nat) (x5_1 : Bool), v5 = .bool x5_1 ∧ Aside0 (impl_Ins_takes.j0 kq a0_0 x5_1 = some r) ∧ Aside0 (kq ≤ k) ∧ Aside0 (wc.heap[gb111]? = some (.cells #[.int .i64 a0_0, .int .i64 a0_1, .int .i64 a0_2, .int .i64 a0_3] 30 (0, 0))) ∧ Aside0 (Below w.heap.size w wc))
 case first =>
  have H := HC2.out
  clear HC2
  by_cases c5 : a0_0 = 3
  · rw [if_pos c5] at H
    have c5b0 : (a0_0 == 3) = true := beq_iff_eq.mpr c5
    have c5b1 : (a0_0 != 3) = false := bne_eq_false_iff_eq.mpr c5
    clear c5
    (first | rw [c5b0] | (simp only [i64_w, i32_w]; rw [c5b0]) | skip)
    have H' := aM_ H
    clear H
    go_wp2
    go_meet
    case rel => exact ⟨_, ((a0_0 == 3)), qF, H', ⟨by first | omega | exact Nat.le_refl _⟩, ⟨by (with_reducible repeat (first | refine kN_ ?_ _ | refine kD_ ?_ | refine kA_ ?_ _)); exact BK111.out⟩, ⟨qB HB⟩⟩
  rw [if_neg c5] at H
  have c5b0 : (a0_0 == 3) = false := beq_eq_false_iff_ne.mpr c5
  have c5b1 : (a0_0 != 3) = true := bne_iff_ne.mpr c5
  (first | rw [c5b0] | (simp only [i64_w, i32_w]; rw [c5b0]) | skip)
  by_cases c6 : a0_0 = 5
  rotate_left
  · rw [if_neg c6] at H
    have c6b0 : (a0_0 == 5) = false := beq_eq_false_iff_ne.mpr c6
    have c6b1 : (a0_0 != 5) = true := bne_iff_ne.mpr c6
    have H' := aM_ H
    clear H
    go_wp2
    go_meet
    case rel => exact ⟨_, ((a0_0 == 6)), qF, H', ⟨by first | omega | exact Nat.le_refl _⟩, ⟨by (with_reducible repeat (first | refine kN_ ?_ _ | refine kD_ ?_ | refine kA_ ?_ _)); exact BK111.out⟩, ⟨qB HB⟩⟩
  rw [if_pos c6] at H
  have c6b0 : (a0_0 == 5) = true := beq_iff_eq.mpr c6
  have c6b1 : (a0_0 != 5) = false := bne_eq_false_iff_eq.mpr c6
  clear c6
  have H' := aM_ H
  clear H
  go_wp2
  go_meet
  case rel => exact ⟨_, ((a0_0 == 5)), qF, H', ⟨by first | omega | exact Nat.le_refl _⟩, ⟨by (with_reducible repeat (first | refine kN_ ?_ _ | refine kD_ ?_ | refine kA_ ?_ _)); exact BK111.out⟩, ⟨qB HB⟩⟩
 case rest =>
  clear HC2
  try clear p2
  try clear c5
  try clear c5b0
  try clear c5b1
  try clear c6
  try clear c6b0
  try clear c6b1
  try clear hcz4_0
  try clear hcz4_1
  try clear hcz4_2
  try clear hcz4_3
  try clear hfz4_0
  try clear hfz4_1
  try clear hfz4_2
  try clear hfz4_3
  obtain ⟨kq, x5_1, rfl, HA, HJ1, BK111, HB⟩ := hcut
  cases kq with
  | zero => exact absurd HA.out (by simp [impl_Ins_takes.j0])
  | succ kj1 =>
   have H := HA.out
   clear HA
   simp only [impl_Ins_takes.j0] at H
   by_cases c7 : x5_1 = true
   · subst c7
     have H1 : (some 1) = some r := by rw [if_pos rfl] at H; exact H
     clear H
     have H := H1
     clear H1
     obtain rfl := oI_ H
     go_wp2
     go_ret
     exact ⟨qE, qB HB⟩
   replace c7 := Bool.eq_false_iff.mpr c7
   subst c7
   have H1 : (if a0_0 = 4 then (some 2) else (some 0)) = some r := by rw [if_neg (show ¬ (false = true) by decide)] at H; exact H
   clear H
   have H := H1
   clear H1
   by_cases c8 : a0_0 = 4
   rotate_left
   · rw [if_neg c8] at H
     have c8b0 : (a0_0 == 4) = false := beq_eq_false_iff_ne.mpr c8
     have c8b1 : (a0_0 != 4) = true := bne_iff_ne.mpr c8
     obtain rfl := oI_ H
     go_wp2
     go_ret
     exact ⟨qE, qB HB⟩
   rw [if_pos c8] at H
   have c8b0 : (a0_0 == 4) = true := beq_iff_eq.mpr c8
   have c8b1 : (a0_0 != 4) = false := bne_eq_false_iff_eq.mpr c8
   clear c8
   obtain rfl := oI_ H
   go_wp2
   go_ret
   exact ⟨qE, qB HB⟩
def impl_Ins_gives.f (a0_0 : Int) (a0_1 : Int) (a0_2 : Int) (a0_3 : Int) : Option (Int) := if a0_0 = 1 then (some 1) else (if a0_0 = 2 then (some 1) else (if a0_0 = 4 then (some 1) else (if a0_0 = 5 then (some 1) else (some 0))))
set_option maxHeartbeats 8000000 in
set_option maxRecDepth 100000 in
theorem impl_Ins_gives.calls (a0_0 : Int) (a0_1 : Int) (a0_2 : Int) (a0_3 : Int) (r : Int) (w : World) (h : impl_Ins_gives.f a0_0 a0_1 a0_2 a0_3 = some r) :
    Calls Tryz.prog 70 #[.agg #[.int .i64 a0_0, .int .i64 a0_1, .int .i64 a0_2, .int .i64 a0_3]] w fun e w' => e = .returned (.int .i64 r) ∧ Below w.heap.size w w' := by
 have hu30 := Tryz.underlying30
 have HB := aM_ (Below.refl w.heap.size w)
 have H : (if a0_0 = 1 then (some 1) else (if a0_0 = 2 then (some 1) else (if a0_0 = 4 then (some 1) else (if a0_0 = 5 then (some 1) else (some 0))))) = some r := h
 clear h
 by_cases c2 : a0_0 = 1
 · rw [if_pos c2] at H
   have c2b0 : (a0_0 == 1) = true := beq_iff_eq.mpr c2
   have c2b1 : (a0_0 != 1) = false := bne_eq_false_iff_eq.mpr c2
   clear c2
   obtain rfl := oI_ H
   go_enter Tryz.func70, Tryz.ntmps70
   go_wp2_with (first | ((with_reducible refine gate_dst (N := 1) rfl ?_); refine box_event ?hg (N := 1) ?hd (cs := #[.int .i64 a0_0, .int .i64 a0_1, .int .i64 a0_2, .int .i64 a0_3]) (t := 30) ?hr ?_; (case hd => rfl); (case hg => rfl); (case hr => first | (go_simp; done) | (go_simp; rfl)); intro gb112 hg w3 hbox hb; have n0_ := aM_ (bT_ (qB HB) hb); have n1_ := aM_ (hbox); have n2_ := aM_ ((by rw [hg]; exact (bZ_ (qB HB)) : w.heap.size ≤ gb112)); have n3_ := aM_ ((by rw [hg]; exact (bZ_ (qB HB)) : w.heap.size ≤ gb112)); clear HB; have HB := n0_; have BK112 := n1_; have GW112 := n2_; have GE112 := n3_; clear n0_ n1_ n2_ n3_ hb hbox hg; (obtain ⟨hcz4_0, hcz4_1, hcz4_2, hcz4_3⟩ := cells4 BK112.out); (obtain ⟨hfz4_0, hfz4_1, hfz4_2, hfz4_3⟩ := frozen4 BK112.out)))
   go_ret
   exact ⟨qE, qB HB⟩
 rw [if_neg c2] at H
 have c2b0 : (a0_0 == 1) = false := beq_eq_false_iff_ne.mpr c2
 have c2b1 : (a0_0 != 1) = true := bne_iff_ne.mpr c2
 by_cases c5 : a0_0 = 2
 · rw [if_pos c5] at H
   have c5b0 : (a0_0 == 2) = true := beq_iff_eq.mpr c5
   have c5b1 : (a0_0 != 2) = false := bne_eq_false_iff_eq.mpr c5
   clear c5
   obtain rfl := oI_ H
   go_enter Tryz.func70, Tryz.ntmps70
   go_wp2_with (first | ((with_reducible refine gate_dst (N := 1) rfl ?_); refine box_event ?hg (N := 1) ?hd (cs := #[.int .i64 a0_0, .int .i64 a0_1, .int .i64 a0_2, .int .i64 a0_3]) (t := 30) ?hr ?_; (case hd => rfl); (case hg => rfl); (case hr => first | (go_simp; done) | (go_simp; rfl)); intro gb112 hg w6 hbox hb; have n0_ := aM_ (bT_ (qB HB) hb); have n1_ := aM_ (hbox); have n2_ := aM_ ((by rw [hg]; exact (bZ_ (qB HB)) : w.heap.size ≤ gb112)); have n3_ := aM_ ((by rw [hg]; exact (bZ_ (qB HB)) : w.heap.size ≤ gb112)); clear HB; have HB := n0_; have BK112 := n1_; have GW112 := n2_; have GE112 := n3_; clear n0_ n1_ n2_ n3_ hb hbox hg; (obtain ⟨hcz7_0, hcz7_1, hcz7_2, hcz7_3⟩ := cells4 BK112.out); (obtain ⟨hfz7_0, hfz7_1, hfz7_2, hfz7_3⟩ := frozen4 BK112.out)))
   go_ret
   exact ⟨qE, qB HB⟩
 rw [if_neg c5] at H
 have c5b0 : (a0_0 == 2) = false := beq_eq_false_iff_ne.mpr c5
 have c5b1 : (a0_0 != 2) = true := bne_iff_ne.mpr c5
 by_cases c8 : a0_0 = 4
 · rw [if_pos c8] at H
   have c8b0 : (a0_0 == 4) = true := beq_iff_eq.mpr c8
   have c8b1 : (a0_0 != 4) = false := bne_eq_false_iff_eq.mpr c8
   clear c8
   obtain rfl := oI_ H
   go_enter Tryz.func70, Tryz.ntmps70
   go_wp2_with (first | ((with_reducible refine gate_dst (N := 1) rfl ?_); refine box_event ?hg (N := 1) ?hd (cs := #[.int .i64 a0_0, .int .i64 a0_1, .int .i64 a0_2, .int .i64 a0_3]) (t := 30) ?hr ?_; (case hd => rfl); (case hg => rfl); (case hr => first | (go_simp; done) | (go_simp; rfl)); intro gb112 hg w9 hbox hb; have n0_ := aM_ (bT_ (qB HB) hb); have n1_ := aM_ (hbox); have n2_ := aM_ ((by rw [hg]; exact (bZ_ (qB HB)) : w.heap.size ≤ gb112)); have n3_ := aM_ ((by rw [hg]; exact (bZ_ (qB HB)) : w.heap.size ≤ gb112)); clear HB; have HB := n0_; have BK112 := n1_; have GW112 := n2_; have GE112 := n3_; clear n0_ n1_ n2_ n3_ hb hbox hg; (obtain ⟨hcz10_0, hcz10_1, hcz10_2, hcz10_3⟩ := cells4 BK112.out); (obtain ⟨hfz10_0, hfz10_1, hfz10_2, hfz10_3⟩ := frozen4 BK112.out)))
   go_ret
   exact ⟨qE, qB HB⟩
 rw [if_neg c8] at H
 have c8b0 : (a0_0 == 4) = false := beq_eq_false_iff_ne.mpr c8
 have c8b1 : (a0_0 != 4) = true := bne_iff_ne.mpr c8
 by_cases c11 : a0_0 = 5
 rotate_left
 · rw [if_neg c11] at H
   have c11b0 : (a0_0 == 5) = false := beq_eq_false_iff_ne.mpr c11
   have c11b1 : (a0_0 != 5) = true := bne_iff_ne.mpr c11
   obtain rfl := oI_ H
   go_enter Tryz.func70, Tryz.ntmps70
   go_wp2_with (first | ((with_reducible refine gate_dst (N := 1) rfl ?_); refine box_event ?hg (N := 1) ?hd (cs := #[.int .i64 a0_0, .int .i64 a0_1, .int .i64 a0_2, .int .i64 a0_3]) (t := 30) ?hr ?_; (case hd => rfl); (case hg => rfl); (case hr => first | (go_simp; done) | (go_simp; rfl)); intro gb112 hg w14 hbox hb; have n0_ := aM_ (bT_ (qB HB) hb); have n1_ := aM_ (hbox); have n2_ := aM_ ((by rw [hg]; exact (bZ_ (qB HB)) : w.heap.size ≤ gb112)); have n3_ := aM_ ((by rw [hg]; exact (bZ_ (qB HB)) : w.heap.size ≤ gb112)); clear HB; have HB := n0_; have BK112 := n1_; have GW112 := n2_; have GE112 := n3_; clear n0_ n1_ n2_ n3_ hb hbox hg; (obtain ⟨hcz15_0, hcz15_1, hcz15_2, hcz15_3⟩ := cells4 BK112.out); (obtain ⟨hfz15_0, hfz15_1, hfz15_2, hfz15_3⟩ := frozen4 BK112.out)))
   go_ret
   exact ⟨qE, qB HB⟩
 rw [if_pos c11] at H
 have c11b0 : (a0_0 == 5) = true := beq_iff_eq.mpr c11
 have c11b1 : (a0_0 != 5) = false := bne_eq_false_iff_eq.mpr c11
 clear c11
 obtain rfl := oI_ H
 go_enter Tryz.func70, Tryz.ntmps70
 go_wp2_with (first | ((with_reducible refine gate_dst (N := 1) rfl ?_); refine box_event ?hg (N := 1) ?hd (cs := #[.int .i64 a0_0, .int .i64 a0_1, .int .i64 a0_2, .int .i64 a0_3]) (t := 30) ?hr ?_; (case hd => rfl); (case hg => rfl); (case hr => first | (go_simp; done) | (go_simp; rfl)); intro gb112 hg w12 hbox hb; have n0_ := aM_ (bT_ (qB HB) hb); have n1_ := aM_ (hbox); have n2_ := aM_ ((by rw [hg]; exact (bZ_ (qB HB)) : w.heap.size ≤ gb112)); have n3_ := aM_ ((by rw [hg]; exact (bZ_ (qB HB)) : w.heap.size ≤ gb112)); clear HB; have HB := n0_; have BK112 := n1_; have GW112 := n2_; have GE112 := n3_; clear n0_ n1_ n2_ n3_ hb hbox hg; (obtain ⟨hcz13_0, hcz13_1, hcz13_2, hcz13_3⟩ := cells4 BK112.out); (obtain ⟨hfz13_0, hfz13_1, hfz13_2, hfz13_3⟩ := frozen4 BK112.out)))
 go_ret
 exact ⟨qE, qB HB⟩
def impl_Ins_goes.f (a0_0 : Int) (a0_1 : Int) (a0_2 : Int) (a0_3 : Int) : Option (Bool) := if a0_0 = 6 then (some true) else (if a0_0 = 7 then (some true) else (some (a0_0 == 8)))
set_option maxHeartbeats 8000000 in
set_option maxRecDepth 100000 in
theorem impl_Ins_goes.calls (a0_0 : Int) (a0_1 : Int) (a0_2 : Int) (a0_3 : Int) (r : Bool) (w : World) (h : impl_Ins_goes.f a0_0 a0_1 a0_2 a0_3 = some r) :
    Calls Tryz.prog 71 #[.agg #[.int .i64 a0_0, .int .i64 a0_1, .int .i64 a0_2, .int .i64 a0_3]] w fun e w' => e = .returned (.bool r) ∧ Below w.heap.size w w' := by
 have hu30 := Tryz.underlying30
 have HB := aM_ (Below.refl w.heap.size w)
 have H : (if a0_0 = 6 then (some true) else (if a0_0 = 7 then (some true) else (some (a0_0 == 8)))) = some r := h
 clear h
 by_cases c2 : a0_0 = 6
 · rw [if_pos c2] at H
   have c2b0 : (a0_0 == 6) = true := beq_iff_eq.mpr c2
   have c2b1 : (a0_0 != 6) = false := bne_eq_false_iff_eq.mpr c2
   clear c2
   obtain rfl := oI_ H
   go_enter Tryz.func71, Tryz.ntmps71
   go_wp2_with (first | ((with_reducible refine gate_dst (N := 1) rfl ?_); refine box_event ?hg (N := 1) ?hd (cs := #[.int .i64 a0_0, .int .i64 a0_1, .int .i64 a0_2, .int .i64 a0_3]) (t := 30) ?hr ?_; (case hd => rfl); (case hg => rfl); (case hr => first | (go_simp; done) | (go_simp; rfl)); intro gb113 hg w3 hbox hb; have n0_ := aM_ (bT_ (qB HB) hb); have n1_ := aM_ (hbox); have n2_ := aM_ ((by rw [hg]; exact (bZ_ (qB HB)) : w.heap.size ≤ gb113)); have n3_ := aM_ ((by rw [hg]; exact (bZ_ (qB HB)) : w.heap.size ≤ gb113)); clear HB; have HB := n0_; have BK113 := n1_; have GW113 := n2_; have GE113 := n3_; clear n0_ n1_ n2_ n3_ hb hbox hg; (obtain ⟨hcz4_0, hcz4_1, hcz4_2, hcz4_3⟩ := cells4 BK113.out); (obtain ⟨hfz4_0, hfz4_1, hfz4_2, hfz4_3⟩ := frozen4 BK113.out)))
   go_ret
   exact ⟨qE, qB HB⟩
 rw [if_neg c2] at H
 have c2b0 : (a0_0 == 6) = false := beq_eq_false_iff_ne.mpr c2
 have c2b1 : (a0_0 != 6) = true := bne_iff_ne.mpr c2
 by_cases c5 : a0_0 = 7
 rotate_left
 · rw [if_neg c5] at H
   have c5b0 : (a0_0 == 7) = false := beq_eq_false_iff_ne.mpr c5
   have c5b1 : (a0_0 != 7) = true := bne_iff_ne.mpr c5
   obtain rfl := oI_ H
   go_enter Tryz.func71, Tryz.ntmps71
   go_wp2_with (first | ((with_reducible refine gate_dst (N := 1) rfl ?_); refine box_event ?hg (N := 1) ?hd (cs := #[.int .i64 a0_0, .int .i64 a0_1, .int .i64 a0_2, .int .i64 a0_3]) (t := 30) ?hr ?_; (case hd => rfl); (case hg => rfl); (case hr => first | (go_simp; done) | (go_simp; rfl)); intro gb113 hg w8 hbox hb; have n0_ := aM_ (bT_ (qB HB) hb); have n1_ := aM_ (hbox); have n2_ := aM_ ((by rw [hg]; exact (bZ_ (qB HB)) : w.heap.size ≤ gb113)); have n3_ := aM_ ((by rw [hg]; exact (bZ_ (qB HB)) : w.heap.size ≤ gb113)); clear HB; have HB := n0_; have BK113 := n1_; have GW113 := n2_; have GE113 := n3_; clear n0_ n1_ n2_ n3_ hb hbox hg; (obtain ⟨hcz9_0, hcz9_1, hcz9_2, hcz9_3⟩ := cells4 BK113.out); (obtain ⟨hfz9_0, hfz9_1, hfz9_2, hfz9_3⟩ := frozen4 BK113.out)))
   go_ret
   exact ⟨qE, qB HB⟩
 rw [if_pos c5] at H
 have c5b0 : (a0_0 == 7) = true := beq_iff_eq.mpr c5
 have c5b1 : (a0_0 != 7) = false := bne_eq_false_iff_eq.mpr c5
 clear c5
 obtain rfl := oI_ H
 go_enter Tryz.func71, Tryz.ntmps71
 go_wp2_with (first | ((with_reducible refine gate_dst (N := 1) rfl ?_); refine box_event ?hg (N := 1) ?hd (cs := #[.int .i64 a0_0, .int .i64 a0_1, .int .i64 a0_2, .int .i64 a0_3]) (t := 30) ?hr ?_; (case hd => rfl); (case hg => rfl); (case hr => first | (go_simp; done) | (go_simp; rfl)); intro gb113 hg w6 hbox hb; have n0_ := aM_ (bT_ (qB HB) hb); have n1_ := aM_ (hbox); have n2_ := aM_ ((by rw [hg]; exact (bZ_ (qB HB)) : w.heap.size ≤ gb113)); have n3_ := aM_ ((by rw [hg]; exact (bZ_ (qB HB)) : w.heap.size ≤ gb113)); clear HB; have HB := n0_; have BK113 := n1_; have GW113 := n2_; have GE113 := n3_; clear n0_ n1_ n2_ n3_ hb hbox hg; (obtain ⟨hcz7_0, hcz7_1, hcz7_2, hcz7_3⟩ := cells4 BK113.out); (obtain ⟨hfz7_0, hfz7_1, hfz7_2, hfz7_3⟩ := frozen4 BK113.out)))
 go_ret
 exact ⟨qE, qB HB⟩
end Go.Proofs.YtjamfddhcigchaaGreatDoor.HFnCodeBent
