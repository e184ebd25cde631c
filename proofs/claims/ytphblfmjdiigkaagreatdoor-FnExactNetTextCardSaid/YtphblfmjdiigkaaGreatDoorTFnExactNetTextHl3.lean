/- impl.NetText of a net that is ok. Condition: the table of the powers of ten is laid (Tb). -/
import Derived.Test.YtphblfmjdiigkaaGreatDoorTFnExactNetTextHl2
import Derived.Test.YtphblfmjdiigkaaGreatDoorTFnExactNetTextHl1
import Derived.Test.YtphblfmjdiigkaaGreatDoorTFnExactNetTextHj9
import Derived.Test.YtphblfmjdiigkaaGreatDoorTFnExactNetTextHb
import Derived.Test.YtphblfmjdiigkaaGreatDoorTFnExactNetTextHFnExactNetTextx9
import Derived.WalkSmall
import Derived.WalkLawsBesides
import Derived.WalkSpells
import Derived.Deep.RegionHeld
import Derived.Deep.DeepCutAuto
import Derived.Deep.CutBlock
namespace Go.Proofs.YtphblfmjdiigkaaGreatDoor.Hl3
open Go.RowKit Go.Proofs.YtphblfmjdiigkaaGreatDoor.Hl2 Go.Proofs.YtphblfmjdiigkaaGreatDoor.Hj9 Go.Proofs.YtphblfmjdiigkaaGreatDoor.Hj8 Go.Proofs.YtphblfmjdiigkaaGreatDoor.Hb Go.Proofs.YtphblfmjdiigkaaGreatDoor.Hj1 Go.Proofs.YtphblfmjdiigkaaGreatDoor.Hj2 Go.Proofs.YtphblfmjdiigkaaGreatDoor.Hj3 Go.Proofs.YtphblfmjdiigkaaGreatDoor.Hj4 Go.Proofs.YtphblfmjdiigkaaGreatDoor.Hj5 Go.Proofs.YtphblfmjdiigkaaGreatDoor.Hj6 Go.Proofs.YtphblfmjdiigkaaGreatDoor.Hj7 Go.Proofs.YtphblfmjdiigkaaGreatDoor.HFnExactNetText Go.Proofs.YtphblfmjdiigkaaGreatDoorW.PrintWords Go.Proofs.YtphblfmjdiigkaaGreatDoorW.PrintLast Go.Proofs.YtphblfmjdiigkaaGreatDoorW.PrintMore
set_option linter.unusedVariables false
set_option linter.unusedSimpArgs false
theorem nt_own {α : Type} {d : Kd α} {e base : Nat} {ok : Nat → Prop} {W : World} {v : Value} {xs : List α} {g t : Nat} {cs : Array Value} (h : d.R e W base ok v xs) (hb : W.heap[g]? = some (.cells cs t (0, 0))) (ht : t ≠ e) : some g ≠ v.ownBlock := by
  intro he
  obtain ⟨cells, hc⟩ := Kd.R_typed h g he.symm
  rw [hb] at hc; injection hc with hc; injection hc with _ hc; exact ht hc
theorem join_len (sep : List UInt8) : ∀ (xs : List (List UInt8)), (∀ x ∈ xs, x.length ≤ 1000) → (Lib.joinTail sep xs).length ≤ xs.length * (1000 + sep.length)
  | [], _ => by simp [Lib.joinTail]
  | x :: xs, h => by
    have := join_len sep xs (fun y hy => h y (List.mem_cons_of_mem _ hy))
    have hx := h x (List.mem_cons_self ..)
    unfold Lib.joinTail at this ⊢
    rw [List.map_cons, List.flatten_cons, List.length_append, List.length_append, List.length_cons]
    have e : (xs.length + 1) * (1000 + sep.length) = xs.length * (1000 + sep.length) + (1000 + sep.length) := Nat.succ_mul ..
    omega
theorem join_fit (xs : List ByteArray) (sep : ByteArray) (h : ∀ x ∈ xs, x.size ≤ 1000) (hn : xs.length ≤ 100) (hs : sep.size ≤ 10) : (Lib.join (xs.map (·.data.toList)) sep.data.toList).length ≤ 1000000 := by
  have hs' : sep.data.toList.length ≤ 10 := hs
  cases xs with
  | nil => simp [Lib.join_nil]
  | cons x xs =>
    rw [List.map_cons, Lib.join_cons, List.length_append]
    have h1 : x.data.toList.length ≤ 1000 := h x (List.mem_cons_self ..)
    have h2 := join_len sep.data.toList (xs.map (·.data.toList)) (fun y hy => by
      obtain ⟨z, hz, rfl⟩ := List.mem_map.1 hy
      exact h z (List.mem_cons_of_mem _ hz))
    rw [List.length_map] at h2
    rw [List.length_cons] at hn
    have h3 : xs.length * (1000 + sep.data.toList.length) ≤ 99 * 1010 := Nat.mul_le_mul (by omega) (by omega)
    omega
structure Nt (w : World) (g1 : Nat) (A : Option Addr) (c : Nat) (l : List S43) (B : Option Addr) (d : Nat) (m : List S66) (W : World) : Prop where
  h : W.heap[g1]? = some (.cells #[.slice A l.length c, .slice B m.length d] 31 (0, 0))
  hC : Kd.C k43 W A l.length l
  hD : Kd.C k66 W B m.length m
  bel : Below w.heap.size w W
structure Wd (wr : World) (gz : Nat) (X : Array Value) (v : Value) (ws : List ByteArray) (W : World) : Prop where
  t : Tn2 wr gz 43 X W
  r : Kd.R Kd.string 9 W wr.heap.size (fun _ => True) v ws
set_option maxRecDepth 100000 in
theorem cnt1 (W : World) : Calls Tryz.prog 124 #[.agg #[]] W fun e w' => e = .returned (.bool true) ∧ Below W.heap.size W w' := by
  go_enter Tryz.func124, Tryz.ntmps124
  go_wp2
  go_ret
  exact ⟨rfl, by first | exact Below.refl _ _ | exact al W _ | exact below_drew1 (Below.refl _ _)⟩
set_option maxRecDepth 100000 in
theorem cnt2 (W : World) : Calls Tryz.prog 127 #[.agg #[]] W fun e w' => e = .returned (.bool true) ∧ Below W.heap.size W w' := by
  go_enter Tryz.func127, Tryz.ntmps127
  go_wp2
  go_ret
  exact ⟨rfl, by first | exact Below.refl _ _ | exact al W _ | exact below_drew1 (Below.refl _ _)⟩
set_option maxRecDepth 100000 in
theorem cnt3 (W : World) : Calls Tryz.prog 130 #[.agg #[]] W fun e w' => e = .returned (.bool true) ∧ Below W.heap.size W w' := by
  go_enter Tryz.func130, Tryz.ntmps130
  go_wp2
  go_ret
  exact ⟨rfl, by first | exact Below.refl _ _ | exact al W _ | exact below_drew1 (Below.refl _ _)⟩
set_option maxRecDepth 100000 in
theorem cnt4 (W : World) : Calls Tryz.prog 133 #[.agg #[]] W fun e w' => e = .returned (.bool false) ∧ Below W.heap.size W w' := by
  go_enter Tryz.func133, Tryz.ntmps133
  go_wp2
  go_ret
  exact ⟨rfl, by first | exact Below.refl _ _ | exact al W _ | exact below_drew1 (Below.refl _ _)⟩
set_option maxRecDepth 100000 in
theorem cnt5 (W : World) : Calls Tryz.prog 136 #[.agg #[]] W fun e w' => e = .returned (.bool false) ∧ Below W.heap.size W w' := by
  go_enter Tryz.func136, Tryz.ntmps136
  go_wp2
  go_ret
  exact ⟨rfl, by first | exact Below.refl _ _ | exact al W _ | exact below_drew1 (Below.refl _ _)⟩
theorem blk_facts (k : Int) (h : 1 ≤ k ∧ k ≤ 5) : ∃ (T fn : Nat) (i : Nat), Instr.findNow (.int .i64) (.int .i64 k) wks.toList 0 = some (some (i, .iface T (.agg #[]))) ∧ (∀ w, (method 297 T (.agg #[]) "loop.example/stopgate/impl.counts").run Tryz.prog w = .ok (fn, .agg #[]) w) ∧ (∀ w, (callFunc fn #[.agg #[]]).run Tryz.prog w = .ok (.enter fn #[.agg #[]]) w) ∧ (∀ W, Calls Tryz.prog fn #[.agg #[]] W fun e w' => e = .returned (.bool (decide (k ≤ 3))) ∧ Below W.heap.size W w') := by
  have h' : k = 1 ∨ k = 2 ∨ k = 3 ∨ k = 4 ∨ k = 5 := by omega
  rcases h' with rfl | rfl | rfl | rfl | rfl
  · exact ⟨94, 124, 0, rfl, m_counts1, by intro w; kernel_rfl, fun W => cnt1 W⟩
  · exact ⟨95, 127, 1, rfl, m_counts2, by intro w; kernel_rfl, fun W => cnt2 W⟩
  · exact ⟨96, 130, 2, rfl, m_counts3, by intro w; kernel_rfl, fun W => cnt3 W⟩
  · exact ⟨97, 133, 3, rfl, m_counts4, by intro w; kernel_rfl, fun W => cnt4 W⟩
  · exact ⟨98, 136, 4, rfl, m_counts5, by intro w; kernel_rfl, fun W => cnt5 W⟩
/-- The words and the text of a wire, as impl joins them. -/
def wordsB (x : S43) : List ByteArray := (rdOf ByteArray.empty kindL x.f0 :: (if (blB x.f0 && decide (x.f0 ≤ 3)) = true then [itoaS x.f1] else [])) ++ (insL x).map srcB
def wireB (x : S43) : ByteArray := joinS (wordsB x) ⟨#[32]⟩
def driveB (y : S66) : ByteArray := (⟨#[116, 111, 32]⟩ : ByteArray) ++ addrS y.f0.f0 y.f0.f1 ++ (⟨#[32, 119]⟩ : ByteArray) ++ itoaS y.f1
end Go.Proofs.YtphblfmjdiigkaaGreatDoor.Hl3
