/- impl.NetOrder by hand, and what spec.NetOrder answers. No condition. -/
import Derived.Test.YtphblfmjdiigkaaTFnNetOrderPFnNetOrderx6
import Derived.Test.YtphblfmjdiigkaaTFnNetOrderPFnNetOrderx7
import Derived.Test.YtphblfmjdiigkaaTFnNetOrderPFnNetOrderx8
import Derived.Test.YtphblfmjdiigkaaTFnNetOrderHk8
import Derived.WalkLawsBesides
import Derived.WalkSpells
import Derived.Deep.RegionHeld
import Derived.Deep.DeepCutAuto
import Derived.Deep.CutBlock
namespace Go.Proofs.Ytphblfmjdiigkaa.Hk12
open Go.RowKit Go.Proofs.Ytphblfmjdiigkaa.Hk8 Go.Proofs.Ytphblfmjdiigkaa.Hk7 Go.Proofs.Ytphblfmjdiigkaa.Hk6 Go.Proofs.Ytphblfmjdiigkaa.Hk5 Go.Proofs.Ytphblfmjdiigkaa.Hk4 Go.Proofs.Ytphblfmjdiigkaa.Hk1 Go.Proofs.Ytphblfmjdiigkaa.Hk2 Go.Proofs.Ytphblfmjdiigkaa.Hk3 Go.Proofs.Ytphblfmjdiigkaa.PFnNetOrder Go.Proofs.YtphblfmjdiigkaaW.PrintWords Go.Proofs.YtphblfmjdiigkaaW.PrintLast Go.Proofs.YtphblfmjdiigkaaW.PrintMore
set_option linter.unusedVariables false
set_option linter.unusedSimpArgs false
def ordN (u : List S48) (v : List S62) : List Int := if nOk u v = true then orD u else []
theorem ordR_len (l : List S48) : ∀ (f : Nat) (told : List Bool) (out : List Int), (ordR l f told out).length ≤ out.length + f
  | 0, _, out => Nat.le_refl _
  | f + 1, told, out => by
    rw [ordR]
    cases pk l told l.length 0 with
    | none => simp
    | some i =>
      have := ordR_len l f (told.set i true) (out ++ [(i : Int)])
      simp only [List.length_append, List.length_singleton] at this
      show (ordR l f (told.set i true) (out ++ [(i : Int)])).length ≤ _
      omega
theorem nOk_h8 {u : List S48} {v : List S62} (h : nOk u v = true) : u.length ≤ 8 ∧ okW u := by
  unfold nOk at h
  simp only [Bool.and_eq_true, decide_eq_true_eq] at h
  exact ⟨h.1, okW_of u h.2.2.1⟩
theorem ordN_len (u : List S48) (v : List S62) : (ordN u v).length ≤ 1048576 := by
  unfold ordN
  by_cases h : nOk u v = true
  · rw [if_pos h]
    have := ordR_len u u.length (List.replicate u.length false) []
    have h8 := (nOk_h8 h).1
    unfold orD
    simp only [List.length_nil] at this
    omega
  · rw [if_neg h]; simp
theorem specOrd (u : List S48) (v : List S62) : spec_NetOrder.f 5000000 u v = some (ordN u v) := by
  unfold spec_NetOrder.f ordN
  rw [netOkT u v 5000000 (by omega), Option.bind_some]
  by_cases h : nOk u v = true
  · rw [if_pos h, if_pos h, spec_orderS u (nOk_h8 h).2 (nOk_h8 h).1 5000000 (by omega), Option.bind_some]
  · rw [if_neg h, if_neg h]
set_option maxRecDepth 100000 in
/-- impl.NetOrder answers the same. -/
theorem implOrder (l : List S48) (m : List S62) (A B : Option Addr) (c d : Nat) (w : World) (hc : l.length ≤ c) (hd : m.length ≤ d) (hC : Kd.C k48 w A l.length l) (hD : Kd.C k62 w B m.length m) :
    Calls Try.prog 9 #[.agg #[.slice A l.length c, .slice B m.length d]] w fun e w' => ∃ v0 : Value, e = .returned v0 ∧ Kd.R (Kd.int .i64) 3 w' w.heap.size (fun _ => True) v0 (ordN l m) ∧ Below w.heap.size w w' := by
  have hu32 := Try.underlying32
  have hb1 := al w (.cells #[.slice A l.length c, .slice B m.length d] 32)
  have hg1 : (w.alloc (.cells #[.slice A l.length c, .slice B m.length d] 32)).heap[w.heap.size]? = some (.cells #[.slice A l.length c, .slice B m.length d] 32 (0, 0)) := heap_alloc_new _ _
  have hn := fun W (h : Below w.heap.size w W) => netOkC l m A B c d W hc hd (Kd.C_below hC h) (Kd.C_below hD h)
  have i0 : (w.alloc (.cells #[.slice A l.length c, .slice B m.length d] 32)).cell? ⟨w.heap.size, 0, none⟩ = some (.slice A l.length c) := (blk_cell hg1 0).trans rfl
  have i1 : (w.alloc (.cells #[.slice A l.length c, .slice B m.length d] 32)).cell? ⟨w.heap.size, 1, none⟩ = some (.slice B m.length d) := (blk_cell hg1 1).trans rfl
  cases hr : nOk l m with
  | false =>
    have e : ordN l m = [] := by unfold ordN; rw [hr]; rfl
    rw [e]
    rw [hr] at hn
    clear hg1 hC hD hr e
    go_enter Try.func9, Try.ntmps9
    go_wp2_with fail
    refine (hn _ hb1).mono ?_
    rintro e w2 ⟨rfl, hb⟩
    clear hn i0 i1
    go_wp2
    go_ret
    exact ⟨_, rfl, Kd.R_nil _ _ _ _ _, hb1.trans (hb.mono hb1.size)⟩
  | true =>
    have e : ordN l m = orD l := by unfold ordN; rw [hr]; rfl
    rw [e]
    obtain ⟨h8, hw⟩ := nOk_h8 hr
    have ho := fun W (h : Below w.heap.size w W) => impl_Net_order.calls 900 A c l B d m (orD l) W (Kd.C_below hC h) hc (Kd.C_below hD h) hd (impl_orderS l m hw h8 900 (Nat.le_refl _))
    rw [hr] at hn
    clear hC hD hr e hw h8
    go_enter Try.func9, Try.ntmps9
    go_wp2_with fail
    refine (hn _ hb1).mono ?_
    rintro e w2 ⟨rfl, hb⟩
    have hg2 := blk_below hg1 hb
    have hb2 := hb1.trans (hb.mono hb1.size)
    clear hn i0 i1 hb hg1
    have i0 : w2.cell? ⟨w.heap.size, 0, none⟩ = some (.slice A l.length c) := (blk_cell hg2 0).trans rfl
    have i1 : w2.cell? ⟨w.heap.size, 1, none⟩ = some (.slice B m.length d) := (blk_cell hg2 1).trans rfl
    clear hg2
    go_wp2_with fail
    refine (ho _ hb2).mono ?_
    rintro e w3 ⟨v0, rfl, hR, hb3⟩
    have hs := hb2.size
    clear ho i0 i1
    go_wp2
    go_ret
    exact ⟨_, rfl, Kd.R_lower hR hs, hb2.trans (hb3.mono hb2.size)⟩
end Go.Proofs.Ytphblfmjdiigkaa.Hk12
