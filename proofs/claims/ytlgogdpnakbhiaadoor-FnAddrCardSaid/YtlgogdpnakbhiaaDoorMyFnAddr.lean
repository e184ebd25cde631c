/- The law FnAddr returns true for every two codes: addresses are read back exactly as written. No condition. -/
import Derived.Test.YtlgogdpnakbhiaaDoorMyFnAddrPure
import Derived.WalkKit
import Derived.KernelRfl
import Derived.WalkLawsBesides
import Derived.WalkSpells
import Derived.Below
import Derived.Deep.RegionHeld
namespace Go.Proofs.YtlgogdpnakbhiaaDoor.MyFnAddr
open Go.RowKit Go.Proofs.YtlgogdpnakbhiaaDoor.HFnAddr Go.Proofs.YtlgogdpnakbhiaaDoor.MyFnAddrDraw Go.Proofs.YtlgogdpnakbhiaaDoor.MyFnAddrPure Go.Proofs.YtlgogdpnakbhiaaDoorW.PrintWords Go.Proofs.YtlgogdpnakbhiaaDoorW.PrintLast Go.Proofs.YtlgogdpnakbhiaaDoorW.PrintMore
set_option linter.unusedVariables false
set_option linter.unusedSimpArgs false
theorem sA (J I : Int) (W : World) (t : Bool) (ht : spec_AddrOk.f J I = some t) : Calls Tryd.prog 10 #[.agg #[.int .i64 J, .int .i64 I]] W fun e w' => e = .returned (.bool t) ∧ Below W.heap.size W w' := by
  have := spec_AddrOk.calls J I t W ht
  exact this.mono fun _ _ h => ⟨h.1, by first | exact h.2 | exact h.2.below | (obtain ⟨_, m, rfl⟩ := h; exact pw_below_drewN (Below.refl _ _) m) | (have h2 := h.2; rw [h2]; exact Below.refl _ _)⟩
structure G (w : World) (g14 g15 : Nat) (M0 M1 M2 : Option Addr) (m0 m1 m2 : Nat) (N0 N1 N2 : Option Addr) (n0 n1 n2 : Nat) (a b c a' b' c' : List Int) (W : World) : Prop where
  h14 : W.heap[g14]? = some (.cells #[.slice M0 a.length m0, .slice M1 b.length m1, .slice M2 c.length m2] 25 (0, 0))
  h15 : W.heap[g15]? = some (.cells #[.slice N0 a'.length n0, .slice N1 b'.length n1, .slice N2 c'.length n2] 25 (0, 0))
  m : R3 w.heap.size W (.slice M0 a.length m0) (.slice M1 b.length m1) (.slice M2 c.length m2) a b c
  n : R3 w.heap.size W (.slice N0 a'.length n0) (.slice N1 b'.length n1) (.slice N2 c'.length n2) a' b' c'
  bel : Below w.heap.size w W
section
variable {w : World} {g14 g15 : Nat} {M0 M1 M2 : Option Addr} {m0 m1 m2 : Nat} {N0 N1 N2 : Option Addr} {n0 n1 n2 : Nat} {a b c a' b' c' : List Int} {W W' : World}
theorem G.below (h : G w g14 g15 M0 M1 M2 m0 m1 m2 N0 N1 N2 n0 n1 n2 a b c a' b' c' W) (hb : Below W.heap.size W W') : G w g14 g15 M0 M1 M2 m0 m1 m2 N0 N1 N2 n0 n1 n2 a b c a' b' c' W' := ⟨blk_below h.h14 hb, blk_below h.h15 hb, h.m.below hb, h.n.below hb, h.bel.trans (hb.mono h.bel.size)⟩
theorem G.drew (h : G w g14 g15 M0 M1 M2 m0 m1 m2 N0 N1 N2 n0 n1 n2 a b c a' b' c' W) : G w g14 g15 M0 M1 M2 m0 m1 m2 N0 N1 N2 n0 n1 n2 a b c a' b' c' W.drew := h.below (below_drew1 (Below.refl _ _))
theorem G.alloc (h : G w g14 g15 M0 M1 M2 m0 m1 m2 N0 N1 N2 n0 n1 n2 a b c a' b' c' W) (o : Obj) : G w g14 g15 M0 M1 M2 m0 m1 m2 N0 N1 N2 n0 n1 n2 a b c a' b' c' (W.alloc o) := h.below ((Below.refl _ _).alloc (Nat.le_refl _) _)
theorem G.x140 (h : G w g14 g15 M0 M1 M2 m0 m1 m2 N0 N1 N2 n0 n1 n2 a b c a' b' c' W) : W.cell? ⟨g14, 0, none⟩ = some (.slice M0 a.length m0) := (blk_cell h.h14 0).trans rfl
theorem G.x141 (h : G w g14 g15 M0 M1 M2 m0 m1 m2 N0 N1 N2 n0 n1 n2 a b c a' b' c' W) : W.cell? ⟨g14, 1, none⟩ = some (.slice M1 b.length m1) := (blk_cell h.h14 1).trans rfl
theorem G.x142 (h : G w g14 g15 M0 M1 M2 m0 m1 m2 N0 N1 N2 n0 n1 n2 a b c a' b' c' W) : W.cell? ⟨g14, 2, none⟩ = some (.slice M2 c.length m2) := (blk_cell h.h14 2).trans rfl
theorem G.x150 (h : G w g14 g15 M0 M1 M2 m0 m1 m2 N0 N1 N2 n0 n1 n2 a b c a' b' c' W) : W.cell? ⟨g15, 0, none⟩ = some (.slice N0 a'.length n0) := (blk_cell h.h15 0).trans rfl
theorem G.x151 (h : G w g14 g15 M0 M1 M2 m0 m1 m2 N0 N1 N2 n0 n1 n2 a b c a' b' c' W) : W.cell? ⟨g15, 1, none⟩ = some (.slice N1 b'.length n1) := (blk_cell h.h15 1).trans rfl
theorem G.x152 (h : G w g14 g15 M0 M1 M2 m0 m1 m2 N0 N1 N2 n0 n1 n2 a b c a' b' c' W) : W.cell? ⟨g15, 2, none⟩ = some (.slice N2 c'.length n2) := (blk_cell h.h15 2).trans rfl
theorem mS (h : G w g14 g15 M0 M1 M2 m0 m1 m2 N0 N1 N2 n0 n1 n2 a b c a' b' c' W) (t : Bool) (ht : impl_MemSame.f 20 a b c a' b' c' = some t) : Calls Tryd.prog 19 #[.agg #[.slice M0 a.length m0, .slice M1 b.length m1, .slice M2 c.length m2], .agg #[.slice N0 a'.length n0, .slice N1 b'.length n1, .slice N2 c'.length n2]] W fun e w' => e = .returned (.bool t) ∧ Below W.heap.size W w' :=
  impl_MemSame.calls 20 M0 m0 a M1 m1 b M2 m2 c N0 n0 a' N1 n1 b' N2 n2 c' t W (Kd.R_reads' h.m.1).2.2 (Kd.R_reads' h.m.1).2.1 (Kd.R_reads' h.m.2.1).2.2 (Kd.R_reads' h.m.2.1).2.1 (Kd.R_reads' h.m.2.2).2.2 (Kd.R_reads' h.m.2.2).2.1 (Kd.R_reads' h.n.1).2.2 (Kd.R_reads' h.n.1).2.1 (Kd.R_reads' h.n.2.1).2.2 (Kd.R_reads' h.n.2.1).2.1 (Kd.R_reads' h.n.2.2).2.2 (Kd.R_reads' h.n.2.2).2.1 ht
theorem mSs (h : G w g14 g15 M0 M1 M2 m0 m1 m2 N0 N1 N2 n0 n1 n2 a b c a' b' c' W) (ht : impl_MemSame.f 20 a b c a b c = some true) : Calls Tryd.prog 19 #[.agg #[.slice M0 a.length m0, .slice M1 b.length m1, .slice M2 c.length m2], .agg #[.slice M0 a.length m0, .slice M1 b.length m1, .slice M2 c.length m2]] W fun e w' => e = .returned (.bool true) ∧ Below W.heap.size W w' :=
  impl_MemSame.calls 20 M0 m0 a M1 m1 b M2 m2 c M0 m0 a M1 m1 b M2 m2 c true W (Kd.R_reads' h.m.1).2.2 (Kd.R_reads' h.m.1).2.1 (Kd.R_reads' h.m.2.1).2.2 (Kd.R_reads' h.m.2.1).2.1 (Kd.R_reads' h.m.2.2).2.2 (Kd.R_reads' h.m.2.2).2.1 (Kd.R_reads' h.m.1).2.2 (Kd.R_reads' h.m.1).2.1 (Kd.R_reads' h.m.2.1).2.2 (Kd.R_reads' h.m.2.1).2.1 (Kd.R_reads' h.m.2.2).2.2 (Kd.R_reads' h.m.2.2).2.1 ht
theorem sS (h : G w g14 g15 M0 M1 M2 m0 m1 m2 N0 N1 N2 n0 n1 n2 a b c a' b' c' W) (t : Bool) (ht : spec_MemSame.f 20 a b c a' b' c' = some t) : Calls Tryd.prog 20 #[.agg #[.slice M0 a.length m0, .slice M1 b.length m1, .slice M2 c.length m2], .agg #[.slice N0 a'.length n0, .slice N1 b'.length n1, .slice N2 c'.length n2]] W fun e w' => e = .returned (.bool t) ∧ Below W.heap.size W w' :=
  spec_MemSame.calls 20 M0 m0 a M1 m1 b M2 m2 c N0 n0 a' N1 n1 b' N2 n2 c' t W (Kd.R_reads' h.m.1).2.2 (Kd.R_reads' h.m.1).2.1 (Kd.R_reads' h.m.2.1).2.2 (Kd.R_reads' h.m.2.1).2.1 (Kd.R_reads' h.m.2.2).2.2 (Kd.R_reads' h.m.2.2).2.1 (Kd.R_reads' h.n.1).2.2 (Kd.R_reads' h.n.1).2.1 (Kd.R_reads' h.n.2.1).2.2 (Kd.R_reads' h.n.2.1).2.1 (Kd.R_reads' h.n.2.2).2.2 (Kd.R_reads' h.n.2.2).2.1 ht
theorem oM (h : G w g14 g15 M0 M1 M2 m0 m1 m2 N0 N1 N2 n0 n1 n2 a b c a' b' c' W) (t : Bool) (ht : spec_MemOk.f 20 a b c = some t) : Calls Tryd.prog 8 #[.agg #[.slice M0 a.length m0, .slice M1 b.length m1, .slice M2 c.length m2]] W fun e w' => e = .returned (.bool t) ∧ Below W.heap.size W w' :=
  spec_MemOk.calls 20 M0 m0 a M1 m1 b M2 m2 c t W (Kd.R_reads' h.m.1).2.2 (Kd.R_reads' h.m.1).2.1 (Kd.R_reads' h.m.2.1).2.2 (Kd.R_reads' h.m.2.1).2.1 (Kd.R_reads' h.m.2.2).2.2 (Kd.R_reads' h.m.2.2).2.1 ht
theorem oN (h : G w g14 g15 M0 M1 M2 m0 m1 m2 N0 N1 N2 n0 n1 n2 a b c a' b' c' W) (t : Bool) (ht : spec_MemOk.f 20 a' b' c' = some t) : Calls Tryd.prog 8 #[.agg #[.slice N0 a'.length n0, .slice N1 b'.length n1, .slice N2 c'.length n2]] W fun e w' => e = .returned (.bool t) ∧ Below W.heap.size W w' :=
  spec_MemOk.calls 20 N0 n0 a' N1 n1 b' N2 n2 c' t W (Kd.R_reads' h.n.1).2.2 (Kd.R_reads' h.n.1).2.1 (Kd.R_reads' h.n.2.1).2.2 (Kd.R_reads' h.n.2.1).2.1 (Kd.R_reads' h.n.2.2).2.2 (Kd.R_reads' h.n.2.2).2.1 ht
theorem gMm (h : G w g14 g15 M0 M1 M2 m0 m1 m2 N0 N1 N2 n0 n1 n2 a b c a' b' c' W) (k i : Int) : Calls Tryd.prog 12 #[.agg #[.slice M0 a.length m0, .slice M1 b.length m1, .slice M2 c.length m2], .agg #[.int .i64 k, .int .i64 i]] W fun e w' => e = .returned (.int .i64 (Hn.gM a b c k i)) ∧ Below W.heap.size W w' :=
  Hn.memGet_any M0 M1 M2 m0 m1 m2 a b c k i W (Kd.R_reads' h.m.1).2.2 (Kd.R_reads' h.m.2.1).2.2 (Kd.R_reads' h.m.2.2).2.2
theorem gMn (h : G w g14 g15 M0 M1 M2 m0 m1 m2 N0 N1 N2 n0 n1 n2 a b c a' b' c' W) (k i : Int) : Calls Tryd.prog 12 #[.agg #[.slice N0 a'.length n0, .slice N1 b'.length n1, .slice N2 c'.length n2], .agg #[.int .i64 k, .int .i64 i]] W fun e w' => e = .returned (.int .i64 (Hn.gM a' b' c' k i)) ∧ Below W.heap.size W w' :=
  Hn.memGet_any N0 N1 N2 n0 n1 n2 a' b' c' k i W (Kd.R_reads' h.n.1).2.2 (Kd.R_reads' h.n.2.1).2.2 (Kd.R_reads' h.n.2.2).2.2
end
set_option maxRecDepth 100000 in
set_option maxHeartbeats 25600000 in
theorem main (A1 A2 : Option Addr) (cc1 cc2 : Nat) (l1 l2 : List Int) (w : World) (hl1 : ¬ (l1.length : Int) > 1048576) (hl2 : ¬ (l2.length : Int) > 1048576)
    (hr1 : Kd.C (Kd.int .u8) w A1 l1.length l1) (hc1 : l1.length ≤ cc1) (hb1 : Byt l1) (hr2 : Kd.C (Kd.int .u8) w A2 l2.length l2) (hc2 : l2.length ≤ cc2) (hb2 : Byt l2) :
    Calls Tryd.prog 4 #[.slice A1 l1.length cc1, .slice A2 l2.length cc2] w fun e w' => e = .returned (.bool true) ∧ Below w.heap.size w w' := by
  have t1 : decide (1048576 < (l1.length : Int)) = false := by simpa using hl1
  have t2 : decide (1048576 < (l2.length : Int)) = false := by simpa using hl2
  obtain ⟨J, I, hd⟩ := drawAddrText_some hb1
  obtain ⟨t, hd2⟩ := drawAddrRead_some hb2
  obtain ⟨x1, x2, hx, hxe⟩ := read_txt J I
  obtain ⟨y1, y2, f, hy, hy', hye⟩ := read_any t
  have c13 := spec_DrawAddrText.calls 1 A1 cc1 l1 J I w hr1 hc1 hd
  have c11 := fun W => Ha.text_any J I W
  have c14 := fun W => impl_AddrRead.calls 5 (Ha.txt J I) x1 x2 (Ha.aOk J I) W hx
  have c15 := fun W => spec_AddrText.calls 5 J I (Ha.txt J I) W (spec_some J I)
  have c10 := fun W => sA J I W _ (addr_some J I)
  have c16 := fun W hW => spec_DrawAddrRead.calls 1 A2 cc2 l2 t W hW hc2 hd2
  have c14' := fun W => impl_AddrRead.calls 5 t y1 y2 f W hy'
  have c17 := fun W => spec_AddrRead.calls 5 t y1 y2 f W hy
  have c11' := fun W => Ha.text_any y1 y2 W
  have c18 := fun W hW => draw18 A1 cc1 l1 W hW hc1 hb1
  clear hd hd2 hx hy hy' hl1 hl2 hb1 hb2
  generalize Ha.txt J I = s at c11 c14 c15
  generalize Ha.aOk J I = ok at c14 c10 hxe
  generalize Ha.txt y1 y2 = u at c11' hye
  have hxe' := Aside0.mk hxe
  have hye' := Aside0.mk hye
  clear hxe hye
  have hu25 := Tryd.underlying25
  have hu28 := Tryd.underlying28
  go_enter Tryd.func4, Tryd.ntmps4
  go_wp2_with fail
  refine c13.mono ?_
  rintro e w1 ⟨rfl, hB⟩
  go_wp2_with fail
  have n5 := heap_alloc_new w1 (Obj.cells #[.int .i64 J, .int .i64 I] 28)
  replace hB := hB.alloc hB.size (Obj.cells #[.int .i64 J, .int .i64 I] 28)
  generalize w1.alloc (Obj.cells _ 28) = w2 at n5 hB ⊢
  generalize w1.heap.size = g5 at n5 ⊢
  refine (c11 _).mono ?_
  rintro e w3 ⟨rfl, hb⟩
  replace n5 := blk_below n5 hb
  replace hB := hB.trans (hb.mono hB.size)
  clear hb
  go_wp2_with fail
  refine (c14 _).mono ?_
  rintro e w4 ⟨rfl, hb⟩
  replace n5 := blk_below n5 hb
  replace hB := hB.trans (hb.mono hB.size)
  clear hb
  go_upto_region 6 with (fail)
  have n7 := heap_alloc_new w4 (Obj.cells #[.int .i64 x1, .int .i64 x2] 28)
  replace n5 := blk_alloc n5 (Obj.cells #[.int .i64 x1, .int .i64 x2] 28)
  replace hB := hB.alloc hB.size (Obj.cells #[.int .i64 x1, .int .i64 x2] 28)
  generalize w4.alloc (Obj.cells _ 28) = w5 at n5 n7 hB ⊢
  generalize w4.heap.size = g7 at n7 ⊢
  go_cut [55] (fun v wc => v = .bool false ∧ Aside0 (Below w.heap.size w wc))
  case first =>
    have i50 : w5.cell? ⟨g5, 0, none⟩ = some (.int .i64 J) := (blk_cell n5 0).trans rfl
    have i51 : w5.cell? ⟨g5, 1, none⟩ = some (.int .i64 I) := (blk_cell n5 1).trans rfl
    go_wp2_with fail
    refine (c15 _).mono ?_
    rintro e w6 ⟨rfl, hb⟩
    replace n5 := blk_below n5 hb
    replace n7 := blk_below n7 hb
    replace hB := hB.trans (hb.mono hB.size)
    clear hb i50 i51
    have i50 : w6.cell? ⟨g5, 0, none⟩ = some (.int .i64 J) := (blk_cell n5 0).trans rfl
    have i51 : w6.cell? ⟨g5, 1, none⟩ = some (.int .i64 I) := (blk_cell n5 1).trans rfl
    go_wp2_with fail
    refine (c10 _).mono ?_
    rintro e w7 ⟨rfl, hb⟩
    replace n5 := blk_below n5 hb
    replace n7 := blk_below n7 hb
    replace hB := hB.trans (hb.mono hB.size)
    clear hb i50 i51
    cases ok with
    | false =>
      go_wp2
      go_meet
      case rel => exact ⟨rfl, ⟨hB⟩⟩
    | true =>
      obtain ⟨rfl, rfl⟩ := hxe'.out rfl
      have i50 : w7.cell? ⟨g5, 0, none⟩ = some (.int .i64 x1) := (blk_cell n5 0).trans rfl
      have i51 : w7.cell? ⟨g5, 1, none⟩ = some (.int .i64 x2) := (blk_cell n5 1).trans rfl
      have i70 : w7.cell? ⟨g7, 0, none⟩ = some (.int .i64 x1) := (blk_cell n7 0).trans rfl
      have i71 : w7.cell? ⟨g7, 1, none⟩ = some (.int .i64 x2) := (blk_cell n7 1).trans rfl
      go_wp2
      go_meet
      case rel => exact ⟨rfl, ⟨hB⟩⟩
  case rest =>
  obtain ⟨rfl, hBB⟩ := hcut
  have hB1 := hBB.out
  clear hBB n5 n7 hB
  go_wp2_with fail
  refine (c16 _ (Kd.C_below hr2 hB1)).mono ?_
  rintro e w6 ⟨rfl, hb⟩
  replace hB1 := hB1.trans (hb.mono hB1.size)
  clear hb
  go_wp2_with fail
  refine (c14' _).mono ?_
  rintro e w7 ⟨rfl, hb⟩
  replace hB1 := hB1.trans (hb.mono hB1.size)
  clear hb
  go_wp2_with fail
  have n10 := heap_alloc_new w7 (Obj.cells #[.int .i64 y1, .int .i64 y2] 28)
  replace hB1 := hB1.alloc hB1.size (Obj.cells #[.int .i64 y1, .int .i64 y2] 28)
  generalize w7.alloc (Obj.cells _ 28) = w8 at n10 hB1 ⊢
  generalize w7.heap.size = g10 at n10 ⊢
  refine (c17 _).mono ?_
  rintro e w9 ⟨rfl, hb⟩
  replace n10 := blk_below n10 hb
  replace hB1 := hB1.trans (hb.mono hB1.size)
  clear hb
  go_upto_region 11 with (fail)
  replace n10 := blk_alloc n10 (Obj.cells #[.int .i64 y1, .int .i64 y2] 28)
  replace hB1 := hB1.alloc hB1.size (Obj.cells #[.int .i64 y1, .int .i64 y2] 28)
  generalize w9.alloc (Obj.cells _ 28) = wa at n10 hB1 ⊢
  generalize w9.heap.size = g12
  go_cut [79] (fun v wc => v = .bool false ∧ Aside0 (Below w.heap.size w wc))
  case first =>
    cases f with
    | false =>
      go_wp2
      go_meet
      case rel => exact ⟨rfl, ⟨hB1⟩⟩
    | true =>
      have i100 : wa.cell? ⟨g10, 0, none⟩ = some (.int .i64 y1) := (blk_cell n10 0).trans rfl
      have i101 : wa.cell? ⟨g10, 1, none⟩ = some (.int .i64 y2) := (blk_cell n10 1).trans rfl
      go_wp2_with fail
      refine (c11' _).mono ?_
      rintro e wb ⟨rfl, hb⟩
      replace hB1 := hB1.trans (hb.mono hB1.size)
      obtain rfl := hye'.out (by first | trivial | rfl)
      go_wp2
      go_meet
      case rel => exact ⟨rfl, ⟨hB1⟩⟩
  case rest =>
  obtain ⟨rfl, hBB⟩ := hcut
  have hB2 := hBB.out
  clear hBB n10 hB1
  go_wp2_with fail
  refine (c18 _ (Kd.C_below hr1 hB2)).mono ?_
  rintro e w10 ⟨a, b, c, a', b', c', M0, M1, M2, m0, m1, m2, N0, N1, N2, n0, n1, n2, rfl, hM, hN, ⟨la, lb, lc⟩, ⟨la', lb', lc'⟩, hb⟩
  replace hM := hM.lower hB2.size
  replace hN := hN.lower hB2.size
  replace hB2 := hB2.trans (hb.mono hB2.size)
  clear hb c10 c11 c13 c14 c15 c16 c17 c18 c14' c11' hxe' hye' hr1 hr2 hc1 hc2
  go_upto_region 14 with (fail)
  have hG : G w w10.heap.size (w10.heap.size + 1) M0 M1 M2 m0 m1 m2 N0 N1 N2 n0 n1 n2 a b c a' b' c' ((w10.alloc (Obj.cells #[.slice M0 a.length m0, .slice M1 b.length m1, .slice M2 c.length m2] 25)).alloc (Obj.cells #[.slice N0 a'.length n0, .slice N1 b'.length n1, .slice N2 c'.length n2] 25)) := by
    have k15 := heap_alloc_new (w10.alloc (Obj.cells #[.slice M0 a.length m0, .slice M1 b.length m1, .slice M2 c.length m2] 25)) (Obj.cells #[.slice N0 a'.length n0, .slice N1 b'.length n1, .slice N2 c'.length n2] 25)
    rw [Hm.alloc_size] at k15
    have hb1 := hB2.alloc hB2.size (Obj.cells #[.slice M0 a.length m0, .slice M1 b.length m1, .slice M2 c.length m2] 25)
    exact ⟨blk_alloc (heap_alloc_new w10 (Obj.cells #[.slice M0 a.length m0, .slice M1 b.length m1, .slice M2 c.length m2] 25)) _, k15, (hM.alloc _).alloc _, (hN.alloc _).alloc _, hb1.alloc hb1.size _⟩
  generalize (w10.alloc (Obj.cells _ 25)).alloc (Obj.cells _ 25) = w11 at hG ⊢
  generalize w10.heap.size + 1 = g15 at hG ⊢
  generalize w10.heap.size = g14 at hG ⊢
  clear hB2 hM hN
  obtain ⟨sv, sv'⟩ := same_val a b c a' b' c' (by omega) (by omega) (by omega)
  obtain ⟨_, ss'⟩ := same_val a b c a b c (by omega) (by omega) (by omega)
  have ee : eqM a b c a b c = true := by unfold eqM; simp
  rw [ee] at ss'
  have om := specOk_some a b c (by omega) (by omega) (by omega) 20 (by omega) (by omega) (by omega)
  have on_ := specOk_some a' b' c' (by omega) (by omega) (by omega) 20 (by omega) (by omega) (by omega)
  have ck := Aside0.mk (chk18 a b c a' b' c')
  clear la lb lc la' lb' lc' ee
  generalize eqM a b c a' b' c' = sm at sv sv' ck
  generalize Hm.okM a b c = o1 at om ck
  generalize Hm.okM a' b' c' = o2 at on_ ck
  have nk : ∀ t : Bool, (t != t) = false := fun t => by cases t <;> rfl
  have i140 := hG.x140
  have i141 := hG.x141
  have i142 := hG.x142
  have i150 := hG.x150
  have i151 := hG.x151
  have i152 := hG.x152
  go_wp2_with fail
  refine (mS hG sm sv').mono ?_
  rintro e w12 ⟨rfl, hb⟩
  replace hG := hG.below hb
  clear hb i140 i141 i142 i150 i151 i152
  go_upto_region 15 with (fail)
  go_cut [108] (fun v wc => v = .bool (!(o1 && o2)) ∧ Aside0 (G w g14 g15 M0 M1 M2 m0 m1 m2 N0 N1 N2 n0 n1 n2 a b c a' b' c' wc))
  case first =>
    have i140 := hG.x140
    have i141 := hG.x141
    have i142 := hG.x142
    have i150 := hG.x150
    have i151 := hG.x151
    have i152 := hG.x152
    go_wp2_with fail
    refine (sS hG sm sv).mono ?_
    rintro e w13 ⟨rfl, hb⟩
    replace hG := hG.below hb
    clear hb i140 i141 i142 i150 i151 i152
    have i140 := hG.x140
    have i141 := hG.x141
    have i142 := hG.x142
    have i150 := hG.x150
    have i151 := hG.x151
    have i152 := hG.x152
    go_wp2_with fail
    refine (mSs hG ss').mono ?_
    rintro e w14 ⟨rfl, hb⟩
    replace hG := hG.below hb
    clear hb i140 i141 i142 i150 i151 i152
    have i140 := hG.x140
    have i141 := hG.x141
    have i142 := hG.x142
    have i150 := hG.x150
    have i151 := hG.x151
    have i152 := hG.x152
    go_wp2_with fail
    refine (oM hG o1 om).mono ?_
    rintro e w15 ⟨rfl, hb⟩
    replace hG := hG.below hb
    clear hb i140 i141 i142 i150 i151 i152
    cases o1 with
    | false =>
      go_wp2
      go_meet
      case rel => exact ⟨rfl, ⟨hG⟩⟩
    | true =>
      have i140 := hG.x140
      have i141 := hG.x141
      have i142 := hG.x142
      have i150 := hG.x150
      have i151 := hG.x151
      have i152 := hG.x152
      go_wp2_with fail
      refine (oN hG o2 on_).mono ?_
      rintro e w16 ⟨rfl, hb⟩
      replace hG := hG.below hb
      clear hb i140 i141 i142 i150 i151 i152
      go_wp2
      go_meet
      case rel => exact ⟨by simp, ⟨hG⟩⟩
  case rest =>
  obtain ⟨rfl, hGG⟩ := hcut
  have hG2 := hGG.out
  clear hGG hG
  have hG := hG2
  clear hG2
  obtain ⟨q, hq⟩ : ∃ q, (!(o1 && o2)) = q := ⟨_, rfl⟩
  rw [hq]
  cases q with
  | true =>
    have hqa := Aside0.mk hq
    clear hq
    have i140 := hG.x140
    have i141 := hG.x141
    have i142 := hG.x142
    have i150 := hG.x150
    have i151 := hG.x151
    have i152 := hG.x152
    go_wp2_with fail
    refine (sS hG sm sv).mono ?_
    rintro e w17 ⟨rfl, hb⟩
    replace hG := hG.below hb
    clear hb i140 i141 i142 i150 i151 i152
    go_wp2
    go_ret
    exact ⟨by simp, hG.bel⟩
  | false =>
  obtain ⟨rfl, rfl⟩ : o1 = true ∧ o2 = true := by simpa using hq
  replace ck := Aside0.mk (ck.out rfl rfl)
  clear hq
  have i140 := hG.x140
  have z0 : chk a b c a' b' c' (6 * 0) = true := rfl
  clear i140 hu25 sv sv' ss' om on_ nk
  have hu25 := Tryd.underlying25
  go_wp2_with fail
  go_loopw [17, 18] (fun al k wr => ∃ j : Nat, j ≤ 3 ∧ k = .int .i64 ((j : Int) + 1) ∧ al = .bool (chk a b c a' b' c' (6 * j)) ∧ G w g14 g15 M0 M1 M2 m0 m1 m2 N0 N1 N2 n0 n1 n2 a b c a' b' c' wr) (fun _ k _ => 4 - (intOf k).toNat)
  case atStart => exact ⟨0, by omega, rfl, by rw [z0], hG⟩
  case round =>
    clear hG z0
    obtain ⟨j, hj, rfl, rfl, hG⟩ := hrel
    by_cases h3 : j < 3
    · have d1 : decide ((j : Int) + 1 ≤ 3) = true := by simp; omega
      have z1 : chk a b c a' b' c' (6 * j) = chk a b c a' b' c' (6 * j + 0) := rfl
      obtain ⟨bb, hbb⟩ : ∃ q, chk a b c a' b' c' (6 * j) = q := ⟨_, rfl⟩
      rw [hbb]
      rw [z1] at hbb
      have hbb' := Aside0.mk hbb
      have hj3 := Aside0.mk h3
      clear hbb z1 hj h3
      go_wp2_with fail
      go_loopw [17, 19] (fun al i wr => ∃ m : Nat, m ≤ 6 ∧ i = .int .i64 (m : Int) ∧ al = .bool (chk a b c a' b' c' (6 * j + m)) ∧ G w g14 g15 M0 M1 M2 m0 m1 m2 N0 N1 N2 n0 n1 n2 a b c a' b' c' wr) (fun _ i _ => 6 - (intOf i).toNat)
      case atStart => exact ⟨0, by omega, rfl, by rw [hbb'.out], hG⟩
      case round =>
        clear hG hbb'
        obtain ⟨m, hm, rfl, rfl, hG⟩ := hrel
        by_cases h6 : m < 6
        · have d2 : decide ((m : Int) < 6) = true := by simp; omega
          have hs : chk a b c a' b' c' (6 * j + (m + 1)) = (chk a b c a' b' c' (6 * j + m) && gEq a b c a' b' c' ((j : Int) + 1) (m : Int)) := by
            have := chk_succ a b c a' b' c' (6 * j + m)
            rw [show (6 * j + m) / 6 = j by omega, show (6 * j + m) % 6 = m by omega] at this
            exact this
          generalize chk a b c a' b' c' (6 * j + m) = bb at hs ⊢
          have hs' := Aside0.mk hs
          have hm6 := Aside0.mk h6
          clear hs h6 hm
          go_upto_region 25 with (fail)
          have n20 := heap_alloc_new wr (Obj.cells #[.int .i64 ((j : Int) + 1), .int .i64 (m : Int)] 28)
          replace hG := hG.alloc (Obj.cells #[.int .i64 ((j : Int) + 1), .int .i64 (m : Int)] 28)
          generalize wr.alloc (Obj.cells _ 28) = wr2 at n20 hG ⊢
          generalize wr.heap.size = g20 at n20 ⊢
          have n20d : wr2.drew.heap[g20]? = some (.cells #[.int .i64 ((j : Int) + 1), .int .i64 (m : Int)] 28 (0, 0)) := n20
          have hGd := hG.drew
          clear hG n20
          cases bb with
          | false =>
            refine start_ (n := 11) (S := fun w' => w'.cell? ⟨g14, 0, none⟩ = some (.slice M0 a.length m0) ∧ w'.cell? ⟨g14, 1, none⟩ = some (.slice M1 b.length m1) ∧ w'.cell? ⟨g14, 2, none⟩ = some (.slice M2 c.length m2) ∧ w'.cell? ⟨g15, 0, none⟩ = some (.slice N0 a'.length n0) ∧ w'.cell? ⟨g15, 1, none⟩ = some (.slice N1 b'.length n1) ∧ w'.cell? ⟨g15, 2, none⟩ = some (.slice N2 c'.length n2) ∧ w'.cell? ⟨g20, 0, none⟩ = some (.int .i64 ((j : Int) + 1)) ∧ w'.cell? ⟨g20, 1, none⟩ = some (.int .i64 (m : Int)) ∧ w'.heap[g20]? = some (.cells #[.int .i64 ((j : Int) + 1), .int .i64 (m : Int)] 28 (0, 0)) ∧ G w g14 g15 M0 M1 M2 m0 m1 m2 N0 N1 N2 n0 n1 n2 a b c a' b' c' w') (ds := []) #[false, false, false, false, false, false, false, false, false, false, false] (by kernel_rfl) rfl rfl ⟨hGd.x140, hGd.x141, hGd.x142, hGd.x150, hGd.x151, hGd.x152, (blk_cell n20d 0).trans rfl, (blk_cell n20d 1).trans rfl, n20d, hGd⟩ (fun hHeld => ?_)
            refine pure_ (i := 0) (N := some 125) (v := ?_) (a' := ?_) #[true, false, false, false, false, false, false, false, false, false, false] rfl rfl (by kernel_rfl) (fun _ _ _ h => h) (Or.inl ⟨by rfl, ?_⟩) ?_ ?_
            rotate_left
            · intro w'
              go_simp
              with_reducible rfl
            rotate_left
            · simp only [Act.put, List.setIfInBounds_toArray, List.set_cons_zero, List.set_cons_succ, i64_w, i32_w]
              rfl
            refine pure_ (i := 1) (N := some 126) (v := ?_) (a' := ?_) #[true, true, false, false, false, false, false, false, false, false, false] rfl rfl (by kernel_rfl) (fun _ _ _ h => h) (Or.inl ⟨by rfl, ?_⟩) ?_ ?_
            rotate_left
            · intro w'
              go_simp
              with_reducible rfl
            rotate_left
            · simp only [Act.put, List.setIfInBounds_toArray, List.set_cons_zero, List.set_cons_succ, i64_w, i32_w]
              rfl
            refine pure_ (i := 2) (N := some 127) (v := undef) (a' := ?_) #[true, true, true, false, false, false, false, false, false, false, false] rfl rfl (by kernel_rfl) (fun _ _ _ h => h) (Or.inr ⟨by rfl, rfl⟩) ?_ ?_
            rotate_left
            · simp only [Act.put, List.setIfInBounds_toArray, List.set_cons_zero, List.set_cons_succ, i64_w, i32_w]
              rfl
            refine pure_ (i := 3) (N := some 128) (v := undef) (a' := ?_) #[true, true, true, true, false, false, false, false, false, false, false] rfl rfl (by kernel_rfl) (fun _ _ _ h => h) (Or.inr ⟨by rfl, rfl⟩) ?_ ?_
            rotate_left
            · simp only [Act.put, List.setIfInBounds_toArray, List.set_cons_zero, List.set_cons_succ, i64_w, i32_w]
              rfl
            refine pure_ (i := 4) (N := some 129) (v := undef) (a' := ?_) #[true, true, true, true, true, false, false, false, false, false, false] rfl rfl (by kernel_rfl) (fun _ _ _ h => h) (Or.inr ⟨by rfl, rfl⟩) ?_ ?_
            rotate_left
            · simp only [Act.put, List.setIfInBounds_toArray, List.set_cons_zero, List.set_cons_succ, i64_w, i32_w]
              rfl
            refine pure_ (i := 5) (N := some 130) (v := undef) (a' := ?_) #[true, true, true, true, true, true, false, false, false, false, false] rfl rfl (by kernel_rfl) (fun _ _ _ h => h) (Or.inr ⟨by rfl, rfl⟩) ?_ ?_
            rotate_left
            · simp only [Act.put, List.setIfInBounds_toArray, List.set_cons_zero, List.set_cons_succ, i64_w, i32_w]
              rfl
            refine pure_ (i := 6) (N := some 131) (v := undef) (a' := ?_) #[true, true, true, true, true, true, true, false, false, false, false] rfl rfl (by kernel_rfl) (fun _ _ _ h => h) (Or.inr ⟨by rfl, rfl⟩) ?_ ?_
            rotate_left
            · simp only [Act.put, List.setIfInBounds_toArray, List.set_cons_zero, List.set_cons_succ, i64_w, i32_w]
              rfl
            refine pure_ (i := 7) (N := some 132) (v := undef) (a' := ?_) #[true, true, true, true, true, true, true, true, false, false, false] rfl rfl (by kernel_rfl) (fun _ _ _ h => h) (Or.inr ⟨by rfl, rfl⟩) ?_ ?_
            rotate_left
            · simp only [Act.put, List.setIfInBounds_toArray, List.set_cons_zero, List.set_cons_succ, i64_w, i32_w]
              rfl
            refine pure_ (i := 8) (N := some 133) (v := undef) (a' := ?_) #[true, true, true, true, true, true, true, true, true, false, false] rfl rfl (by kernel_rfl) (fun _ _ _ h => h) (Or.inr ⟨by rfl, rfl⟩) ?_ ?_
            rotate_left
            · simp only [Act.put, List.setIfInBounds_toArray, List.set_cons_zero, List.set_cons_succ, i64_w, i32_w]
              rfl
            refine pure_ (i := 9) (N := some 134) (v := ?_) (a' := ?_) #[true, true, true, true, true, true, true, true, true, true, false] rfl rfl (by kernel_rfl) (fun _ _ _ h => h) (Or.inl ⟨by rfl, ?_⟩) ?_ ?_
            rotate_left
            · intro w'
              go_simp
              with_reducible rfl
            rotate_left
            · simp only [Act.put, List.setIfInBounds_toArray, List.set_cons_zero, List.set_cons_succ, i64_w, i32_w]
              rfl
            refine pure_ (i := 10) (N := some 17) (v := ?_) (a' := ?_) #[true, true, true, true, true, true, true, true, true, true, true] rfl rfl (by kernel_rfl) (fun _ _ _ h => h) (Or.inl ⟨by rfl, ?_⟩) ?_ ?_
            rotate_left
            · intro w'
              go_simp
              with_reducible rfl
            rotate_left
            · simp only [Act.put, List.setIfInBounds_toArray, List.set_cons_zero, List.set_cons_succ, i64_w, i32_w]
              rfl
            refine done_ (by kernel_rfl) ?_
            clear hHeld
            have h6 := hm6.out
            go_wp2
            go_roundw
            case rel => exact ⟨m + 1, h6, by go_num, by rw [hs'.out]; rfl, hGd⟩
            case measure => simp [intOf]; omega
          | true =>
            refine start_ (n := 11) (S := fun w' => w'.cell? ⟨g14, 0, none⟩ = some (.slice M0 a.length m0) ∧ w'.cell? ⟨g14, 1, none⟩ = some (.slice M1 b.length m1) ∧ w'.cell? ⟨g14, 2, none⟩ = some (.slice M2 c.length m2) ∧ w'.cell? ⟨g15, 0, none⟩ = some (.slice N0 a'.length n0) ∧ w'.cell? ⟨g15, 1, none⟩ = some (.slice N1 b'.length n1) ∧ w'.cell? ⟨g15, 2, none⟩ = some (.slice N2 c'.length n2) ∧ w'.cell? ⟨g20, 0, none⟩ = some (.int .i64 ((j : Int) + 1)) ∧ w'.cell? ⟨g20, 1, none⟩ = some (.int .i64 (m : Int)) ∧ w'.heap[g20]? = some (.cells #[.int .i64 ((j : Int) + 1), .int .i64 (m : Int)] 28 (0, 0)) ∧ G w g14 g15 M0 M1 M2 m0 m1 m2 N0 N1 N2 n0 n1 n2 a b c a' b' c' w') (ds := []) #[false, false, false, false, false, false, false, false, false, false, false] (by kernel_rfl) rfl rfl ⟨hGd.x140, hGd.x141, hGd.x142, hGd.x150, hGd.x151, hGd.x152, (blk_cell n20d 0).trans rfl, (blk_cell n20d 1).trans rfl, n20d, hGd⟩ (fun hHeld => ?_)
            refine pure_ (i := 0) (N := some 125) (v := ?_) (a' := ?_) #[true, false, false, false, false, false, false, false, false, false, false] rfl rfl (by kernel_rfl) (fun _ _ _ h => h) (Or.inl ⟨by rfl, ?_⟩) ?_ ?_
            rotate_left
            · intro w'
              go_simp
              with_reducible rfl
            rotate_left
            · simp only [Act.put, List.setIfInBounds_toArray, List.set_cons_zero, List.set_cons_succ, i64_w, i32_w]
              rfl
            refine pure_ (i := 1) (N := some 126) (v := ?_) (a' := ?_) #[true, true, false, false, false, false, false, false, false, false, false] rfl rfl (by kernel_rfl) (fun _ _ _ h => h) (Or.inl ⟨by rfl, ?_⟩) ?_ ?_
            rotate_left
            · intro w'
              go_simp
              with_reducible rfl
            rotate_left
            · simp only [Act.put, List.setIfInBounds_toArray, List.set_cons_zero, List.set_cons_succ, i64_w, i32_w]
              rfl
            refine take_ (i := 2) (N := some 127) (v := ?_) (a' := ?_) #[true, true, true, false, false, false, false, false, false, false, false] rfl rfl (by kernel_rfl) (fun _ _ _ h => h) (Or.inl ⟨by rfl, ?_⟩) hHeld ?_ ?_
            rotate_left
            · rintro w' ⟨s0, s1, s2, s3, s4, s5, s6, s7, s8, s9⟩
              go_simp
              with_reducible rfl
            rotate_left
            · simp only [Act.put, List.setIfInBounds_toArray, List.set_cons_zero, List.set_cons_succ, i64_w, i32_w]
              rfl
            refine take_ (i := 3) (N := some 128) (v := ?_) (a' := ?_) #[true, true, true, true, false, false, false, false, false, false, false] rfl rfl (by kernel_rfl) (fun _ _ _ h => h) (Or.inl ⟨by rfl, ?_⟩) hHeld ?_ ?_
            rotate_left
            · rintro w' ⟨s0, s1, s2, s3, s4, s5, s6, s7, s8, s9⟩
              go_simp
              with_reducible rfl
            rotate_left
            · simp only [Act.put, List.setIfInBounds_toArray, List.set_cons_zero, List.set_cons_succ, i64_w, i32_w]
              rfl
            refine take_ (i := 5) (N := some 130) (v := ?_) (a' := ?_) #[true, true, true, true, false, true, false, false, false, false, false] rfl rfl (by kernel_rfl) (fun _ _ _ h => h) (Or.inl ⟨by rfl, ?_⟩) hHeld ?_ ?_
            rotate_left
            · rintro w' ⟨s0, s1, s2, s3, s4, s5, s6, s7, s8, s9⟩
              go_simp
              with_reducible rfl
            rotate_left
            · simp only [Act.put, List.setIfInBounds_toArray, List.set_cons_zero, List.set_cons_succ, i64_w, i32_w]
              rfl
            refine take_ (i := 6) (N := some 131) (v := ?_) (a' := ?_) #[true, true, true, true, false, true, true, false, false, false, false] rfl rfl (by kernel_rfl) (fun _ _ _ h => h) (Or.inl ⟨by rfl, ?_⟩) hHeld ?_ ?_
            rotate_left
            · rintro w' ⟨s0, s1, s2, s3, s4, s5, s6, s7, s8, s9⟩
              go_simp
              with_reducible rfl
            rotate_left
            · simp only [Act.put, List.setIfInBounds_toArray, List.set_cons_zero, List.set_cons_succ, i64_w, i32_w]
              rfl
            refine one_ (i := 4) (N := some 129) #[true, true, true, true, true, true, true, false, false, false, false] rfl rfl (by kernel_rfl) (by decide) (fun K hK => ?_)
            refine goes_ Tryd.func12 (by kernel_rfl) rfl #[.agg #[.slice M0 a.length m0, .slice M1 b.length m1, .slice M2 c.length m2], .agg #[.int .i64 ((j : Int) + 1), .int .i64 (m : Int)]] (by rfl) rfl rfl (by simp only [List.map_toArray, List.map_cons, List.map_nil]; rfl) ?_
            with_reducible refine (gMm hHeld.2.2.2.2.2.2.2.2.2 ((j : Int) + 1) (m : Int)).mono ?_
            rintro e wa_ ⟨rfl, hba⟩
            refine ⟨_, rfl, ?_⟩
            have wa_G := hHeld.2.2.2.2.2.2.2.2.2.below hba
            have wa_N := blk_below hHeld.2.2.2.2.2.2.2.2.1 hba
            refine hK.out _ _ ⟨wa_G.x140, wa_G.x141, wa_G.x142, wa_G.x150, wa_G.x151, wa_G.x152, (blk_cell wa_N 0).trans rfl, (blk_cell wa_N 1).trans rfl, wa_N, wa_G⟩ (fun hHeld => ?_)
            clear hK K
            refine norm_ (a' := ?_) ?_ ?_
            rotate_left
            · show Act.put _ (some 129) _ = _
              simp only [Act.put, List.setIfInBounds_toArray, List.set_cons_zero, List.set_cons_succ, i64_w, i32_w]
              rfl
            refine one_ (i := 7) (N := some 132) #[true, true, true, true, true, true, true, true, false, false, false] rfl rfl (by kernel_rfl) (by decide) (fun K hK => ?_)
            refine goes_ Tryd.func12 (by kernel_rfl) rfl #[.agg #[.slice N0 a'.length n0, .slice N1 b'.length n1, .slice N2 c'.length n2], .agg #[.int .i64 ((j : Int) + 1), .int .i64 (m : Int)]] (by rfl) rfl rfl (by simp only [List.map_toArray, List.map_cons, List.map_nil]; rfl) ?_
            with_reducible refine (gMn hHeld.2.2.2.2.2.2.2.2.2 ((j : Int) + 1) (m : Int)).mono ?_
            rintro e wb_ ⟨rfl, hbb⟩
            refine ⟨_, rfl, ?_⟩
            have wb_G := hHeld.2.2.2.2.2.2.2.2.2.below hbb
            have wb_N := blk_below hHeld.2.2.2.2.2.2.2.2.1 hbb
            refine hK.out _ _ ⟨wb_G.x140, wb_G.x141, wb_G.x142, wb_G.x150, wb_G.x151, wb_G.x152, (blk_cell wb_N 0).trans rfl, (blk_cell wb_N 1).trans rfl, wb_N, wb_G⟩ (fun hHeld => ?_)
            clear hK K
            refine norm_ (a' := ?_) ?_ ?_
            rotate_left
            · show Act.put _ (some 132) _ = _
              simp only [Act.put, List.setIfInBounds_toArray, List.set_cons_zero, List.set_cons_succ, i64_w, i32_w]
              rfl
            refine pure_ (i := 8) (N := some 133) (v := ?_) (a' := ?_) #[true, true, true, true, true, true, true, true, true, false, false] rfl rfl (by kernel_rfl) (fun _ _ _ h => h) (Or.inl ⟨by rfl, ?_⟩) ?_ ?_
            rotate_left
            · intro w'
              go_simp
              with_reducible rfl
            rotate_left
            · simp only [Act.put, List.setIfInBounds_toArray, List.set_cons_zero, List.set_cons_succ, i64_w, i32_w]
              rfl
            refine pure_ (i := 9) (N := some 134) (v := ?_) (a' := ?_) #[true, true, true, true, true, true, true, true, true, true, false] rfl rfl (by kernel_rfl) (fun _ _ _ h => h) (Or.inl ⟨by rfl, ?_⟩) ?_ ?_
            rotate_left
            · intro w'
              go_simp
              with_reducible rfl
            rotate_left
            · simp only [Act.put, List.setIfInBounds_toArray, List.set_cons_zero, List.set_cons_succ, i64_w, i32_w]
              rfl
            refine pure_ (i := 10) (N := some 17) (v := ?_) (a' := ?_) #[true, true, true, true, true, true, true, true, true, true, true] rfl rfl (by kernel_rfl) (fun _ _ _ h => h) (Or.inl ⟨by rfl, ?_⟩) ?_ ?_
            rotate_left
            · intro w'
              go_simp
              with_reducible rfl
            rotate_left
            · simp only [Act.put, List.setIfInBounds_toArray, List.set_cons_zero, List.set_cons_succ, i64_w, i32_w]
              rfl
            refine done_ (by kernel_rfl) ?_
            have hGe := hHeld.2.2.2.2.2.2.2.2.2
            clear hHeld
            have h6 := hm6.out
            go_wp2
            go_roundw
            case rel => exact ⟨m + 1, h6, by go_num, by rw [hs'.out, Bool.true_and]; rfl, hGe⟩
            case measure => simp [intOf]; omega
        · have hm6 : m = 6 := by omega
          subst hm6
          have z2 : chk a b c a' b' c' (6 * j + 6) = chk a b c a' b' c' (6 * (j + 1)) := rfl
          rw [z2]
          obtain ⟨bb, hbb⟩ : ∃ q, chk a b c a' b' c' (6 * (j + 1)) = q := ⟨_, rfl⟩
          rw [hbb]
          have hbb' := Aside0.mk hbb
          clear hbb z2 hm
          have h3 := hj3.out
          go_wp2
          go_roundw
          case rel => exact ⟨j + 1, h3, by go_num, by rw [hbb'.out], hG⟩
          case measure => simp [intOf]; omega
    · have hj3 : j = 3 := by omega
      subst hj3
      rw [show 6 * 3 = 18 from rfl, ck.out]
      clear hj h3
      have bs : ∀ q : Bool, (q == q) = true := fun q => by cases q <;> rfl
      have oz : Hm.okM (List.replicate 6 0) (List.replicate 6 0) (List.replicate 6 0) = true := by decide
      go_wp2_with fail
      refine (Hq.memOpen_any _).mono ?_
      rintro e wo ⟨v0, v1, v2, rfl, hm, hb⟩
      have hG2 := hG.below hb
      have hR : R3 wr.heap.size wo v0 v1 v2 (List.replicate 6 0) (List.replicate 6 0) (List.replicate 6 0) := ⟨R_int_ok hm.1 (fun _ _ => trivial), R_int_ok hm.2.1 (fun _ _ => trivial), R_int_ok hm.2.2 (fun _ _ => trivial)⟩
      obtain ⟨Z0, Z1, Z2, z0, z1, z2, rfl, rfl, rfl⟩ := hR.slices
      have mo : Calls Tryd.prog 7 #[.agg #[.slice Z0 6 z0, .slice Z1 6 z1, .slice Z2 6 z2]] wo fun e w' => e = .returned (.bool true) ∧ Below wo.heap.size wo w' := by
        have := Hm.memOk_any Z0 Z1 Z2 z0 z1 z2 _ _ _ wo (Kd.R_reads' hR.1).2.2 (Kd.R_reads' hR.2.1).2.2 (Kd.R_reads' hR.2.2).2.2
        rw [oz] at this
        exact this
      clear hm hR hb
      go_wp2_with fail
      refine mo.mono ?_
      rintro e wp ⟨rfl, hb2⟩
      have hG3 := hG2.below hb2
      go_wp2
      go_ret
      exact ⟨rfl, hG3.bel⟩
set_option maxRecDepth 100000 in
theorem all (A1 A2 : Option Addr) (cc1 cc2 : Nat) (l1 l2 : List Int) (w : World) (hr1 : Kd.C (Kd.int .u8) w A1 l1.length l1) (hc1 : l1.length ≤ cc1) (hr2 : Kd.C (Kd.int .u8) w A2 l2.length l2) (hc2 : l2.length ≤ cc2) (hb1 : Byt l1) (hb2 : Byt l2) :
    Calls Tryd.prog 4 #[.slice A1 l1.length cc1, .slice A2 l2.length cc2] w fun e w' => e = .returned (.bool true) ∧ Below w.heap.size w w' := by
  by_cases h0 : (l1.length : Int) > 1048576
  · have t1 : decide (1048576 < (l1.length : Int)) = true := by simpa using h0
    clear h0
    go_enter Tryd.func4, Tryd.ntmps4
    go_wp2
    go_ret
    exact ⟨rfl, Below.refl _ _⟩
  by_cases h1 : (l2.length : Int) > 1048576
  · have t1 : decide (1048576 < (l1.length : Int)) = false := by simpa using h0
    have t2 : decide (1048576 < (l2.length : Int)) = true := by simpa using h1
    clear h0 h1
    go_enter Tryd.func4, Tryd.ntmps4
    go_wp2
    go_ret
    exact ⟨rfl, Below.refl _ _⟩
  exact main A1 A2 cc1 cc2 l1 l2 w h0 h1 hr1 hc1 hb1 hr2 hc2 hb2
theorem walk (a0 : Option Addr) (len0 cap0 : Nat) (z0 : List Int) (a1 : Option Addr) (len1 cap1 : Nat) (z1 : List Int) (w : World) (w0 : (a0 = none ∧ len0 = 0 ∧ cap0 = 0 ∧ z0 = []) ∨ ∃ x, a0 = some x ∧ len0 ≤ cap0 ∧ cap0 ≤ maxLen ∧ z0.length = cap0 ∧ (∀ i, i < z0.length → w.cell? (x.add i) = some (.int .u8 (z0.getD i 0))) ∧ ∀ n ∈ z0, (Lit.int .u8 n).wf = true) (y0 : len0 * 1 ≤ 140737488351232) (w1 : (a1 = none ∧ len1 = 0 ∧ cap1 = 0 ∧ z1 = []) ∨ ∃ x, a1 = some x ∧ len1 ≤ cap1 ∧ cap1 ≤ maxLen ∧ z1.length = cap1 ∧ (∀ i, i < z1.length → w.cell? (x.add i) = some (.int .u8 (z1.getD i 0))) ∧ ∀ n ∈ z1, (Lit.int .u8 n).wf = true) (y1 : len1 * 1 ≤ 140737488351232) :
    Calls Tryd.prog 4 #[.slice a0 len0 cap0, .slice a1 len1 cap1] w fun e w' => e = .returned (.bool true) ∧ Below w.heap.size w w' := by
  obtain ⟨l0, rfl, hr0, hm0, hw0, hc0⟩ := ReadsInt.ofRowC w0
  obtain ⟨l1, rfl, hr1, hm1, hw1, hc1⟩ := ReadsInt.ofRowC w1
  exact all a0 a1 cap0 cap1 l0 l1 w (Kd.C_of_reads (d := (0 : Int)) (h1 := fun _ => rfl) hr0) hc0 (Kd.C_of_reads (d := (0 : Int)) (h1 := fun _ => rfl) hr1) hc1 (byt_of hw0) (byt_of hw1)
end Go.Proofs.YtlgogdpnakbhiaaDoor.MyFnAddr
