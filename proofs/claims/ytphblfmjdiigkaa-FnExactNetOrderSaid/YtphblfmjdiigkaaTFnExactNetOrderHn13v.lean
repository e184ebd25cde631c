/- The walk of the law FnExactNetOrder: it returns true for every net. No condition. -/
import Derived.Test.YtphblfmjdiigkaaTFnExactNetOrderHn12v
import Derived.WalkLawsBesides
import Derived.WalkSpells
import Derived.Deep.RegionHeld
import Derived.Deep.DeepCutAuto
import Derived.Deep.CutBlock
namespace Go.Proofs.Ytphblfmjdiigkaa.Hn13
open Go.RowKit Go.Proofs.Ytphblfmjdiigkaa.Hn12 Go.Proofs.Ytphblfmjdiigkaa.Hn10 Go.Proofs.Ytphblfmjdiigkaa.Hn11 Go.Proofs.Ytphblfmjdiigkaa.Hn8 Go.Proofs.Ytphblfmjdiigkaa.Hn7 Go.Proofs.Ytphblfmjdiigkaa.Hn6 Go.Proofs.Ytphblfmjdiigkaa.Hn5 Go.Proofs.Ytphblfmjdiigkaa.Hn4 Go.Proofs.Ytphblfmjdiigkaa.Hn9 Go.Proofs.Ytphblfmjdiigkaa.Hn1 Go.Proofs.Ytphblfmjdiigkaa.Hn2 Go.Proofs.Ytphblfmjdiigkaa.Hn3 Go.Proofs.Ytphblfmjdiigkaa.PFnExactNetOrder Go.Proofs.YtphblfmjdiigkaaW.PrintWords Go.Proofs.YtphblfmjdiigkaaW.PrintLast Go.Proofs.YtphblfmjdiigkaaW.PrintMore
set_option linter.unusedVariables false
set_option linter.unusedSimpArgs false
section
variable {u : List S48} {v : List S62} {P1 P2 P3 P4 : Option Addr} {p1 p2 p3 p4 b1 b2 b3 b4 : Nat} {k1 k2 k3 k4 : Nat → Prop} {W : World}
theorem txR (l : List S74) (m : List S77) (A B : Option Addr) (c d : Nat) (W : World) (hC : Kd.C k74 W A l.length l) (hc : l.length ≤ c) (hD : Kd.C k77 W B m.length m) (hd : m.length ≤ d) (h1 : l.length ≤ 1048576) (h2 : m.length ≤ 1048576) (u : List S48) (v : List S62) (hu : l.map cvWire = u) (hv : m.map cvDrive = v) :
    Calls Try.prog 8 #[.agg #[.slice A l.length c, .slice B m.length d]] W fun e w' => ∃ P1 p1 P2 p2, e = .returned (.agg #[.slice P1 u.length p1, .slice P2 v.length p2]) ∧ Kd.R k48 48 w' W.heap.size (fun _ => True) (.slice P1 u.length p1) u ∧ Kd.R k62 62 w' W.heap.size (fun _ => True) (.slice P2 v.length p2) v ∧ Below W.heap.size W w' := by
  refine (laws_toNet.calls 5000000 A c l B d m (l.map cvWire) (m.map cvDrive) W hC hc hD hd (toNet_some l m h1 h2)).mono ?_
  rintro e w' ⟨v0, v1, rfl, hR0, hR1, hb'⟩
  rw [hu] at hR0
  rw [hv] at hR1
  obtain ⟨P1, p1, rfl⟩ := Kd.R_slice hR0
  obtain ⟨P2, p2, rfl⟩ := Kd.R_slice hR1
  exact ⟨P1, p1, P2, p2, rfl, hR0, hR1, hb'⟩
theorem spR (u : List S48) (v : List S62) (o : List Int) (ho : ordN u v = o) (h1 : Kd.R k48 48 W b1 k1 (.slice P1 u.length p1) u) (h2 : Kd.R k62 62 W b2 k2 (.slice P2 v.length p2) v) :
    Calls Try.prog 7 #[.agg #[.slice P1 u.length p1, .slice P2 v.length p2]] W fun e w' => ∃ P p, e = .returned (.slice P o.length p) ∧ Kd.R (Kd.int .i64) 3 w' W.heap.size (fun _ => True) (.slice P o.length p) o ∧ Below W.heap.size W w' := by
  obtain ⟨_, hc1, hC1⟩ := Kd.R_reads' h1
  obtain ⟨_, hc2, hC2⟩ := Kd.R_reads' h2
  subst ho
  refine (spec_NetOrder.calls 5000000 P1 p1 u P2 p2 v (ordN u v) W hC1 hc1 hC2 hc2 (specOrd u v)).mono ?_
  rintro e w' ⟨v0, rfl, hR, hb⟩
  obtain ⟨P, p, rfl⟩ := Kd.R_slice hR
  exact ⟨P, p, rfl, hR, hb⟩
theorem ipR (u : List S48) (v : List S62) (o : List Int) (ho : ordN u v = o) (h1 : Kd.R k48 48 W b1 k1 (.slice P1 u.length p1) u) (h2 : Kd.R k62 62 W b2 k2 (.slice P2 v.length p2) v) :
    Calls Try.prog 9 #[.agg #[.slice P1 u.length p1, .slice P2 v.length p2]] W fun e w' => ∃ P p, e = .returned (.slice P o.length p) ∧ Kd.R (Kd.int .i64) 3 w' W.heap.size (fun _ => True) (.slice P o.length p) o ∧ Below W.heap.size W w' := by
  obtain ⟨_, hc1, hC1⟩ := Kd.R_reads' h1
  obtain ⟨_, hc2, hC2⟩ := Kd.R_reads' h2
  subst ho
  refine (implOrder u v P1 P2 p1 p2 W hc1 hc2 hC1 hC2).mono ?_
  rintro e w' ⟨v0, rfl, hR, hb⟩
  obtain ⟨P, p, rfl⟩ := Kd.R_slice hR
  exact ⟨P, p, rfl, hR, hb⟩
theorem eqIR (o : List Int) (ho : o.length ≤ 1048576) (h1 : Kd.R (Kd.int .i64) 3 W b1 k1 (.slice P1 o.length p1) o) (h2 : Kd.R (Kd.int .i64) 3 W b2 k2 (.slice P2 o.length p2) o) :
    Calls Try.prog 10 #[.slice P1 o.length p1, .slice P2 o.length p2] W fun e w' => e = .returned (.bool true) ∧ Below W.heap.size W w' := by
  obtain ⟨_, hc1, hC1⟩ := Kd.R_reads' h1
  obtain ⟨_, hc2, hC2⟩ := Kd.R_reads' h2
  refine (laws_eqIntS.calls 5000000 P1 p1 o P2 p2 o true W hC1 hc1 hC2 hc2 (eqIntS_self o ho _ (by omega))).mono ?_
  rintro e w' ⟨rfl, hb⟩
  exact ⟨rfl, hb.below⟩
theorem hdR (n : Nat) (hn : n ≤ 1048576) (h1 : Kd.R (Kd.int .i64) 3 W b1 k1 (.slice P1 n p1) (up 1 n)) :
    Calls Try.prog 14 #[.slice P1 n p1, .int .i64 1] W fun e w' => e = .returned (.int .i64 (1 + (n : Int))) ∧ Below W.heap.size W w' := by
  obtain ⟨_, hc1, hC1⟩ := Kd.R_reads' h1
  have h := laws_heldIntS.calls 5000000 P1 p1 (up 1 n) 1 (1 + (n : Int)) W hC1 (by rw [up_len]; exact hc1) (held_some 1 n (by omega) (by omega) hn _ (by omega))
  rw [up_len] at h
  refine h.mono ?_
  rintro e w' ⟨rfl, hb⟩
  exact ⟨rfl, hb.below⟩
theorem eqnR (u : List S48) (v : List S62) (q1 : u.length ≤ 1048576) (q2 : v.length ≤ 1048576) (h1 : Kd.R k48 48 W b1 k1 (.slice P1 u.length p1) u) (h2 : Kd.R k62 62 W b2 k2 (.slice P2 v.length p2) v) (h3 : Kd.R k48 48 W b3 k3 (.slice P3 u.length p3) u) (h4 : Kd.R k62 62 W b4 k4 (.slice P4 v.length p4) v) :
    Calls Try.prog 11 #[.agg #[.slice P1 u.length p1, .slice P2 v.length p2], .agg #[.slice P3 u.length p3, .slice P4 v.length p4]] W fun e w' => e = .returned (.bool true) ∧ Below W.heap.size W w' := by
  obtain ⟨_, hc1, hC1⟩ := Kd.R_reads' h1
  obtain ⟨_, hc2, hC2⟩ := Kd.R_reads' h2
  obtain ⟨_, hc3, hC3⟩ := Kd.R_reads' h3
  obtain ⟨_, hc4, hC4⟩ := Kd.R_reads' h4
  exact laws_eqNet.calls 5000000 P1 p1 u P2 p2 v P3 p3 u P4 p4 v true W hC1 hc1 hC2 hc2 hC3 hc3 hC4 hc4 (eqNet_self u v q1 q2)
end
theorem EI : (Kd.int .i64).E = [] := rfl
structure E6 (w : World) (g1 g3 : Nat) (X : Array Value) (u : List S48) (v : List S62) (P3 P4 : Option Addr) (p3 p4 : Nat) (o : List Int) (vo vg : Value) (W : World) : Prop where
  e : T25 w g1 X W
  q3 : W.heap[g3]? = some (.cells #[.slice P3 u.length p3, .slice P4 v.length p4] 32 (0, 0))
  r3 : Kd.R k48 48 W w.heap.size (fun _ => True) (.slice P3 u.length p3) u
  r4 : Kd.R k62 62 W w.heap.size (fun _ => True) (.slice P4 v.length p4) v
  ro : Kd.R (Kd.int .i64) 3 W w.heap.size (fun k => some k = vo.ownBlock) vo o
  rg : Kd.R (Kd.int .i64) 3 W w.heap.size (fun k => some k = vg.ownBlock) vg o
  ne : ∀ k, some k = vo.ownBlock → some k = vg.ownBlock → False
theorem E6.below {w W W' : World} {g1 g3 : Nat} {X : Array Value} {u : List S48} {v : List S62} {P3 P4 : Option Addr} {p3 p4 : Nat} {o : List Int} {vo vg : Value} (h : E6 w g1 g3 X u v P3 P4 p3 p4 o vo vg W) (k : Below W.heap.size W W') : E6 w g1 g3 X u v P3 P4 p3 p4 o vo vg W' := ⟨h.e.below k, blk_below h.q3 k, Kd.R_below h.r3 k, Kd.R_below h.r4 k, Kd.R_below h.ro k, Kd.R_below h.rg k, h.ne⟩
structure E7 (w : World) (g1 : Nat) (X : Array Value) (o q : List Int) (vo vg : Value) (W : World) : Prop where
  e : T25 w g1 X W
  ro : Kd.R (Kd.int .i64) 3 W w.heap.size (fun k => some k = vo.ownBlock) vo o
  rg : Kd.R (Kd.int .i64) 3 W w.heap.size (fun k => some k = vg.ownBlock) vg q
  ne : ∀ k, some k = vo.ownBlock → some k = vg.ownBlock → False
theorem E7.below {w W W' : World} {g1 : Nat} {X : Array Value} {o q : List Int} {vo vg : Value} (h : E7 w g1 X o q vo vg W) (k : Below W.heap.size W W') : E7 w g1 X o q vo vg W' := ⟨h.e.below k, Kd.R_below h.ro k, Kd.R_below h.rg k, h.ne⟩
theorem other {W : World} {g t t' : Nat} {cs cs' : Array Value} (h : W.heap[g]? = some (.cells cs t (0, 0))) (h' : W.heap[g]? = some (.cells cs' t' (0, 0))) (ht : t ≠ t') : False := by
  rw [h] at h'; injection h' with h'; injection h' with _ h'; exact ht h'
theorem E6.marked {w W W' : World} {g1 g3 : Nat} {X : Array Value} {u : List S48} {v : List S62} {P3 P4 : Option Addr} {p3 p4 : Nat} {o : List Int} {vo vg : Value} (h : E6 w g1 g3 X u v P3 P4 p3 p4 o vo vg W)
    (hk : Kept W W' (fun k => (Value.slice P3 u.length p3).ownBlock = some k ∨ (Value.slice P4 v.length p4).ownBlock = some k)) (hb : Below w.heap.size w W') : E7 w g1 X o o vo vg W' := by
  have key : ∀ k t cs, W.heap[k]? = some (.cells cs t (0, 0)) → t ≠ 48 → t ≠ 62 → ¬ ((Value.slice P3 u.length p3).ownBlock = some k ∨ (Value.slice P4 v.length p4).ownBlock = some k) := by
    intro k t cs hc h1 h2 h3
    rcases h3 with h3 | h3
    · obtain ⟨_, _, cs', hc'⟩ := own_ty E48 h.r3 h3
      exact other hc hc' h1
    · obtain ⟨_, _, cs', hc'⟩ := own_ty E62 h.r4 h3
      exact other hc hc' h2
  have ki : ∀ {vv : Value} {q : List Int}, Kd.R (Kd.int .i64) 3 W w.heap.size (fun k => some k = vv.ownBlock) vv q → Kd.R (Kd.int .i64) 3 W' w.heap.size (fun k => some k = vv.ownBlock) vv q := by
    intro vv q hR
    refine Kd.R_kept hR hk (fun k h1 => ?_)
    obtain ⟨_, _, cs, hc⟩ := own_ty EI hR h1.symm
    exact key k 3 cs hc (by decide) (by decide)
  exact ⟨⟨(hk.2 g1 (blk_lt h.e.h1) (key g1 25 _ h.e.h1 (by decide) (by decide))).trans h.e.h1, hb⟩, ki h.ro, ki h.rg, h.ne⟩
theorem E7.marked {w W W' : World} {g1 : Nat} {X : Array Value} {o q q' : List Int} {vo vg : Value} {S : Nat → Prop} (h : E7 w g1 X o q vo vg W)
    (hk : Kept W W' (fun k => some k = vg.ownBlock)) (hb : Below w.heap.size w W') (hR : Kd.R (Kd.int .i64) 3 W' w.heap.size S vg q') : E7 w g1 X o q' vo vg W' := by
  refine ⟨⟨(hk.2 g1 (blk_lt h.e.h1) (fun hh => ?_)).trans h.e.h1, hb⟩, Kd.R_kept h.ro hk (fun k h1 h2 => h.ne k h1 h2), Kd.R_tight EI hR, h.ne⟩
  obtain ⟨_, _, cs, hc⟩ := own_ty EI h.rg hh.symm
  exact other h.e.h1 hc (by decide)
set_option maxRecDepth 100000 in
set_option maxHeartbeats 12800000 in
theorem walkOrder (l : List S74) (m : List S77) (A B : Option Addr) (c d : Nat) (w : World) (hc : l.length ≤ c) (hd : m.length ≤ d) (hC : Kd.C k74 w A l.length l) (hD : Kd.C k77 w B m.length m) :
    Calls Try.prog 3 #[.agg #[.slice A l.length c, .slice B m.length d]] w fun e w' => e = .returned (.bool true) ∧ Below w.heap.size w w' := by
  have hT : T25 w w.heap.size #[.slice A l.length c, .slice B m.length d] (w.alloc (.cells #[.slice A l.length c, .slice B m.length d] 25)) := ⟨heap_alloc_new _ _, al w (.cells #[.slice A l.length c, .slice B m.length d] 25)⟩
  have hu25 := Try.underlying25
  have hu32 := Try.underlying32
  obtain ⟨r, er, br⟩ := sz_le l m 1048576 (by omega) (by omega) (Kd.C_max hC) (Kd.C_max hD)
  have sz := fun W (h : Below w.heap.size w W) => laws_szNet.calls A c l B d m 1048576 r W (Kd.C_below hC h) hc (Kd.C_below hD h) hd er
  clear er
  go_enter Try.func3, Try.ntmps3
  go_upto_region 2 with (fail)
  generalize (w.alloc (Obj.cells _ 25)) = w2 at hT ⊢
  obtain ⟨g1, hg1⟩ : ∃ g, w.heap.size = g := ⟨_, rfl⟩
  rw [hg1] at hT ⊢
  clear hg1
  have hB := hT.bel
  by_cases n1 : r < 0
  · have t1 : decide (r < 0) = true := decide_eq_true n1
    clear n1 br hC hD hc hd
    have i0 : w2.cell? ⟨g1, 0, none⟩ = some (.slice A l.length c) := (blk_cell hT.h1 0).trans rfl
    have i1 : w2.cell? ⟨g1, 1, none⟩ = some (.slice B m.length d) := (blk_cell hT.h1 1).trans rfl
    go_wp2_with fail
    refine (sz _ hB).mono ?_
    rintro e w3 ⟨rfl, hb⟩
    clear i0 i1 sz hT
    go_wp2
    go_ret
    exact ⟨rfl, hB.trans (hb.mono hB.size)⟩
  · have t1 : decide (r < 0) = false := decide_eq_false n1
    have hl1 : l.length ≤ 1048576 := by omega
    have hl2 : m.length ≤ 1048576 := by omega
    obtain ⟨u, hu⟩ : ∃ u, l.map cvWire = u := ⟨_, rfl⟩
    obtain ⟨v, hv⟩ : ∃ v, m.map cvDrive = v := ⟨_, rfl⟩
    have tx := fun W (h : Below w.heap.size w W) => txR l m A B c d W (Kd.C_below hC h) hc (Kd.C_below hD h) hd hl1 hl2 u v hu hv
    have q1 : u.length ≤ 1048576 := by rw [← hu]; simpa using hl1
    have q2 : v.length ≤ 1048576 := by rw [← hv]; simpa using hl2
    obtain ⟨o, ho⟩ : ∃ o, ordN u v = o := ⟨_, rfl⟩
    have q3 : o.length ≤ 1048576 := by rw [← ho]; exact ordN_len u v
    obtain ⟨r7, hr7⟩ : ∃ r7 : Int, ((1 + 12 * u.length + 3 * v.length : Nat) : Int) = r7 := ⟨_, rfl⟩
    obtain ⟨r8, hr8⟩ : ∃ r8 : Int, 1 + (o.length : Int) = r8 := ⟨_, rfl⟩
    have d7 : decide (r7 < 0) = false := decide_eq_false (by omega)
    have d8 : decide (r8 < 0) = false := decide_eq_false (by omega)
    have d9 : (r8 != r8) = false := by simp
    have mI := mark_some o 1 (by omega) (by omega) q3 5000000 (by omega)
    rw [hr8] at mI
    have hq1 := Aside0.mk q1
    have hq2 := Aside0.mk q2
    have hq3 := Aside0.mk q3
    have hr7' := Aside0.mk hr7
    have hr8' := Aside0.mk hr8
    have mI' := Aside0.mk mI
    have ho' := Aside0.mk ho
    clear hl1 hl2 hc hd hC hD n1 br hu hv hr7 hr8 mI q1 q2 q3 ho
    have i0 : w2.cell? ⟨g1, 0, none⟩ = some (.slice A l.length c) := (blk_cell hT.h1 0).trans rfl
    have i1 : w2.cell? ⟨g1, 1, none⟩ = some (.slice B m.length d) := (blk_cell hT.h1 1).trans rfl
    go_wp2_with fail
    refine (sz _ hB).mono ?_
    rintro e w3 ⟨rfl, hb⟩
    have hE := hT.below hb
    have hB3 := hE.bel
    clear i0 i1 sz hT hb hB
    have i0 : w3.cell? ⟨g1, 0, none⟩ = some (.slice A l.length c) := (blk_cell hE.h1 0).trans rfl
    have i1 : w3.cell? ⟨g1, 1, none⟩ = some (.slice B m.length d) := (blk_cell hE.h1 1).trans rfl
    go_wp2_with fail
    refine (tx _ hB3).mono ?_
    rintro e w4 ⟨P1, p1, P2, p2, rfl, h1, h2, hb⟩
    replace hE := hE.below hb
    clear i0 i1 hb hB3
    go_wp2_with fail
    refine (spR u v o ho'.out h1 h2).mono ?_
    rintro e w5 ⟨Po, po, rfl, ro, hb⟩
    replace ro := Kd.R_tight EI (Kd.R_lower ro hE.bel.size)
    replace hE := hE.below hb
    have hB5 := hE.bel
    clear h1 h2 hb
    have i0 : w5.cell? ⟨g1, 0, none⟩ = some (.slice A l.length c) := (blk_cell hE.h1 0).trans rfl
    have i1 : w5.cell? ⟨g1, 1, none⟩ = some (.slice B m.length d) := (blk_cell hE.h1 1).trans rfl
    go_wp2_with fail
    refine (tx _ hB5).mono ?_
    rintro e w6 ⟨P3, p3, P4, p4, rfl, r3, r4, hb⟩
    replace r3 := Kd.R_lower r3 hB5.size
    replace r4 := Kd.R_lower r4 hB5.size
    replace hE := hE.below hb
    replace ro := Kd.R_below ro hb
    clear i0 i1 hB5 hb
    go_upto_region 7 with (fail)
    have q3 := heap_alloc_new w6 (.cells #[.slice P3 u.length p3, .slice P4 v.length p4] 32)
    have hbq := al w6 (.cells #[.slice P3 u.length p3, .slice P4 v.length p4] 32)
    replace hE := hE.below hbq
    replace r3 := Kd.R_below r3 hbq
    replace r4 := Kd.R_below r4 hbq
    replace ro := Kd.R_below ro hbq
    clear hbq
    generalize w6.alloc (Obj.cells _ 32) = w7 at hE r3 r4 ro q3 ⊢
    obtain ⟨g3, hg3⟩ : ∃ g, w6.heap.size = g := ⟨_, rfl⟩
    rw [hg3] at q3 ⊢
    clear hg3
    have m0 : w7.cell? ⟨g3, 0, none⟩ = some (.slice P3 u.length p3) := (blk_cell q3 0).trans rfl
    have m1 : w7.cell? ⟨g3, 1, none⟩ = some (.slice P4 v.length p4) := (blk_cell q3 1).trans rfl
    go_wp2_with fail
    refine (ipR u v o ho'.out r3 r4).mono ?_
    rintro e w8 ⟨Pg, pg, rfl, rg, hb⟩
    have hE6 : E6 w g1 g3 #[.slice A l.length c, .slice B m.length d] u v P3 P4 p3 p4 o (.slice Po o.length po) (.slice Pg o.length pg) w8 := ⟨hE.below hb, blk_below q3 hb, Kd.R_below r3 hb, Kd.R_below r4 hb, Kd.R_below ro hb, Kd.R_tight EI (Kd.R_lower rg hE.bel.size), fun k h1 h2 => by
      have h3 := (own_ty EI ro h1.symm).2.1
      have h4 := (own_ty EI rg h2.symm).1
      omega⟩
    clear m0 m1 hb r3 r4 ro rg q3 hE
    go_wp2_with fail
    refine (eqIR o hq3.out hE6.rg hE6.ro).mono ?_
    rintro e w9 ⟨rfl, hb⟩
    replace hE6 := hE6.below hb
    clear hb
    go_upto_region 10 with (fail)
    have hE6d : E6 w g1 g3 #[.slice A l.length c, .slice B m.length d] u v P3 P4 p3 p4 o (.slice Po o.length po) (.slice Pg o.length pg) w9.drew := hE6.below (below_drew1 (Below.refl _ _))
    clear hE6
    have q1 := hq1.out
    have q2 := hq2.out
    refine start_ (n := 5) (S := fun w' => w'.cell? ⟨g3, 0, none⟩ = some (.slice P3 u.length p3) ∧ w'.cell? ⟨g3, 1, none⟩ = some (.slice P4 v.length p4) ∧ w'.cell? ⟨g1, 0, none⟩ = some (.slice A l.length c) ∧ w'.cell? ⟨g1, 1, none⟩ = some (.slice B m.length d) ∧ E6 w g1 g3 #[.slice A l.length c, .slice B m.length d] u v P3 P4 p3 p4 o (.slice Po o.length po) (.slice Pg o.length pg) w') (ds := []) #[false, false, false, false, false] (by kernel_rfl) rfl rfl ⟨(blk_cell hE6d.q3 0).trans rfl, (blk_cell hE6d.q3 1).trans rfl, (blk_cell hE6d.e.h1 0).trans rfl, (blk_cell hE6d.e.h1 1).trans rfl, hE6d⟩ (fun hHeld => ?_)
    refine take_ (i := 0) (N := some 27) (v := ?_) (a' := ?_) #[true, false, false, false, false] rfl rfl (by kernel_rfl) (fun _ _ _ h => h) (Or.inl ⟨by rfl, ?_⟩) hHeld ?_ ?_
    rotate_left
    · rintro w' ⟨s0, s1, s2, s3, s4⟩
      go_simp
      with_reducible rfl
    rotate_left
    · simp only [Act.put, List.setIfInBounds_toArray, List.set_cons_zero, List.set_cons_succ, i64_w, i32_w]
      rfl
    refine take_ (i := 1) (N := some 28) (v := ?_) (a' := ?_) #[true, true, false, false, false] rfl rfl (by kernel_rfl) (fun _ _ _ h => h) (Or.inl ⟨by rfl, ?_⟩) hHeld ?_ ?_
    rotate_left
    · rintro w' ⟨s0, s1, s2, s3, s4⟩
      go_simp
      with_reducible rfl
    rotate_left
    · simp only [Act.put, List.setIfInBounds_toArray, List.set_cons_zero, List.set_cons_succ, i64_w, i32_w]
      rfl
    refine one_ (i := 2) (N := some 29) #[true, true, true, false, false] rfl rfl (by kernel_rfl) (by decide) (fun K hK => ?_)
    refine goes_ Try.func8 (by kernel_rfl) rfl #[.agg #[.slice A l.length c, .slice B m.length d]] (by rfl) rfl rfl (by simp only [List.map_toArray, List.map_cons, List.map_nil]; rfl) ?_
    with_reducible refine (tx _ hHeld.2.2.2.2.e.bel).mono ?_
    rintro e wa ⟨P1, p1, P2, p2, rfl, hP1, hP2, hb1⟩
    refine ⟨_, rfl, ?_⟩
    have hb1E := E6.below hHeld.2.2.2.2 hb1
    refine hK.out _ _ ⟨(blk_cell hb1E.q3 0).trans rfl, (blk_cell hb1E.q3 1).trans rfl, (blk_cell hb1E.e.h1 0).trans rfl, (blk_cell hb1E.e.h1 1).trans rfl, hb1E⟩ (fun hHeld => ?_)
    clear hK K
    refine norm_ (a' := ?_) ?_ ?_
    rotate_left
    · show Act.put _ (some 29) _ = _
      simp only [Act.put, List.setIfInBounds_toArray, List.set_cons_zero, List.set_cons_succ, i64_w, i32_w]
      rfl
    refine one_ (i := 3) (N := some 30) #[true, true, true, true, false] rfl rfl (by kernel_rfl) (by decide) (fun K hK => ?_)
    refine goes_ Try.func11 (by kernel_rfl) rfl #[.agg #[.slice P3 u.length p3, .slice P4 v.length p4], .agg #[.slice P1 u.length p1, .slice P2 v.length p2]] (by rfl) rfl rfl (by simp only [List.map_toArray, List.map_cons, List.map_nil]; rfl) ?_
    with_reducible refine (eqnR u v q1 q2 hb1E.r3 hb1E.r4 hP1 hP2).mono ?_
    rintro e wb ⟨rfl, hb3⟩
    refine ⟨_, rfl, ?_⟩
    have hb3E := E6.below hb1E hb3
    refine hK.out _ _ ⟨(blk_cell hb3E.q3 0).trans rfl, (blk_cell hb3E.q3 1).trans rfl, (blk_cell hb3E.e.h1 0).trans rfl, (blk_cell hb3E.e.h1 1).trans rfl, hb3E⟩ (fun hHeld => ?_)
    clear hK K
    refine norm_ (a' := ?_) ?_ ?_
    rotate_left
    · show Act.put _ (some 30) _ = _
      simp only [Act.put, List.setIfInBounds_toArray, List.set_cons_zero, List.set_cons_succ, i64_w, i32_w]
      rfl
    refine pure_ (i := 4) (N := some 31) (v := ?_) (a' := ?_) #[true, true, true, true, true] rfl rfl (by kernel_rfl) (fun _ _ _ h => h) (Or.inl ⟨by rfl, ?_⟩) ?_ ?_
    rotate_left
    · intro w'
      go_simp
      with_reducible rfl
    rotate_left
    · simp only [Act.put, List.setIfInBounds_toArray, List.set_cons_zero, List.set_cons_succ, i64_w, i32_w]
      rfl
    refine done_ (by kernel_rfl) ?_
    clear hE6d q1 q2
    have hE6 := hHeld.2.2.2.2
    clear hHeld
    clear hP1 hP2 hb1 hb3 hb1E
    generalize hwx : wb = W10 at hE6 ⊢
    clear hwx
    have m0 : W10.cell? ⟨g3, 0, none⟩ = some (.slice P3 u.length p3) := (blk_cell hE6.q3 0).trans rfl
    have m1 : W10.cell? ⟨g3, 1, none⟩ = some (.slice P4 v.length p4) := (blk_cell hE6.q3 1).trans rfl
    have mN := markNet u v _ _ _ _ w W10 hE6.e.bel hE6.r3 hE6.r4 hq1.out hq2.out
    rw [hr7'.out] at mN
    go_wp2_with fail
    refine mN.mono ?_
    rintro e w11 ⟨rfl, hk, hb⟩
    have hE7 := hE6.marked hk hb
    clear m0 m1 mN hk hb hE6
    go_wp2_with fail
    refine (eqIR o hq3.out hE7.rg hE7.ro).mono ?_
    rintro e w12 ⟨rfl, hb⟩
    replace hE7 := hE7.below hb
    clear hb
    have mI := laws_markIntS.calls 5000000 _ _ o 1 r8 (up 1 o.length) w w12 hE7.e.bel hE7.rg mI'.out
    go_wp2_with fail
    refine mI.mono ?_
    rintro e w13 ⟨rfl, hR, hb, hk⟩
    replace hE7 := hE7.marked hk hb hR
    clear mI hR hb hk
    have hd1 := hdR o.length hq3.out hE7.rg
    rw [hr8'.out] at hd1
    go_wp2_with fail
    refine hd1.mono ?_
    rintro e w14 ⟨rfl, hb⟩
    replace hE7 := hE7.below hb
    have hB14 := hE7.e.bel
    clear hd1 hb
    have i0 : w14.cell? ⟨g1, 0, none⟩ = some (.slice A l.length c) := (blk_cell hE7.e.h1 0).trans rfl
    have i1 : w14.cell? ⟨g1, 1, none⟩ = some (.slice B m.length d) := (blk_cell hE7.e.h1 1).trans rfl
    go_wp2_with fail
    refine (tx _ hB14).mono ?_
    rintro e w15 ⟨P1, p1, P2, p2, rfl, h1, h2, hb⟩
    replace hE7 := hE7.below hb
    clear i0 i1 hb hB14
    go_wp2_with fail
    refine (ipR u v o ho'.out h1 h2).mono ?_
    rintro e w16 ⟨Pa, pa, rfl, ra, hb⟩
    replace hE7 := hE7.below hb
    clear h1 h2 hb
    go_wp2_with fail
    refine (eqIR o hq3.out ra hE7.ro).mono ?_
    rintro e w17 ⟨rfl, hb⟩
    replace hE7 := hE7.below hb
    clear hb ra
    have hd1 := hdR o.length hq3.out hE7.rg
    rw [hr8'.out] at hd1
    go_wp2_with fail
    refine hd1.mono ?_
    rintro e w18 ⟨rfl, hb⟩
    replace hE7 := hE7.below hb
    have hB := hE7.e.bel
    clear hd1 hb
    go_wp2
    go_ret
    exact ⟨rfl, hB⟩
end Go.Proofs.Ytphblfmjdiigkaa.Hn13
