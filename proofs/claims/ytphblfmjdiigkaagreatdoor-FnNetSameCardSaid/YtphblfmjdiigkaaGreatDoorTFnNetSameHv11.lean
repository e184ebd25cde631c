/- The walk of the law FnNetSame: it returns true. Condition: the table of the powers of ten is laid (Tb). -/
import Derived.Test.YtphblfmjdiigkaaGreatDoorTFnNetSameHv10
import Derived.Test.YtphblfmjdiigkaaGreatDoorTFnNetSameHv9
import Derived.Test.YtphblfmjdiigkaaGreatDoorTFnNetSameHv8
namespace Go.Proofs.YtphblfmjdiigkaaGreatDoor.Hv11
open Go.RowKit Go.Proofs.YtphblfmjdiigkaaGreatDoor.Hv10 Go.Proofs.YtphblfmjdiigkaaGreatDoor.Hv9 Go.Proofs.YtphblfmjdiigkaaGreatDoor.Hv8 Go.Proofs.YtphblfmjdiigkaaGreatDoor.Hv5 Go.Proofs.YtphblfmjdiigkaaGreatDoor.Hv4 Go.Proofs.YtphblfmjdiigkaaGreatDoor.Hv3 Go.Proofs.YtphblfmjdiigkaaGreatDoor.Hv2 Go.Proofs.YtphblfmjdiigkaaGreatDoor.Hu8 Go.Proofs.YtphblfmjdiigkaaGreatDoor.Hb Go.Proofs.YtphblfmjdiigkaaGreatDoor.Hu1 Go.Proofs.YtphblfmjdiigkaaGreatDoor.Hu2 Go.Proofs.YtphblfmjdiigkaaGreatDoor.Hu3 Go.Proofs.YtphblfmjdiigkaaGreatDoor.Hu4 Go.Proofs.YtphblfmjdiigkaaGreatDoor.Hu5 Go.Proofs.YtphblfmjdiigkaaGreatDoor.Hu6 Go.Proofs.YtphblfmjdiigkaaGreatDoor.Hu7 Go.Proofs.YtphblfmjdiigkaaGreatDoor.HFnNetSame Go.Proofs.YtphblfmjdiigkaaGreatDoorW.PrintWords Go.Proofs.YtphblfmjdiigkaaGreatDoorW.PrintLast Go.Proofs.YtphblfmjdiigkaaGreatDoorW.PrintMore
set_option linter.unusedVariables false
set_option linter.unusedSimpArgs false
structure Bx (g : Nat) (A : Option Addr) (c : Nat) (l : List S43) (B : Option Addr) (d : Nat) (m : List S66) (W : World) : Prop where
  h : W.heap[g]? = some (.cells #[.slice A l.length c, .slice B m.length d] 31 (0, 0))
  hC : Kd.C k43 W A l.length l
  hD : Kd.C k66 W B m.length m
  lc : l.length ≤ c
  ld : m.length ≤ d
theorem Bx.below {g : Nat} {A : Option Addr} {c : Nat} {l : List S43} {B : Option Addr} {d : Nat} {m : List S66} {W W' : World} (h : Bx g A c l B d m W) (k : Below W.heap.size W W') : Bx g A c l B d m W' := ⟨blk_below h.h k, Kd.C_below h.hC k, Kd.C_below h.hD k, h.lc, h.ld⟩
theorem C_len {α : Type} {d : Kd α} {W : World} {A : Option Addr} {n : Nat} {xs : List α} (h : Kd.C d W A n xs) : n ≤ 9223372036854775807 := Kd.C_max h
theorem same_text {l l' : List S43} {m m' : List S66} {p : Bool} (h : nOk l m = true) (h' : nOk l' m' = true) (e : p = true ↔ l = l' ∧ m = m') : ((netT l m).toList == (netT l' m').toList) = p := by
  rw [Bool.eq_iff_iff, e, beq_iff_eq, ByteArray.toList_eq, ByteArray.toList_eq, show ((netT l m).data.toList = (netT l' m').data.toList) ↔ netT l m = netT l' m' from ⟨fun h => ByteArray.ext (Array.ext' h), fun h => by rw [h]⟩]
  unfold netT
  rw [if_pos h, if_pos h']
  exact ⟨netB_inj h h', fun x => by rw [x.1, x.2]⟩
set_option maxRecDepth 100000 in
set_option maxHeartbeats 25600000 in
theorem walkMain (A0 : Option Addr) (c0 : Nat) (l0 : List Int) (A1 : Option Addr) (c1 : Nat) (l1 : List Int) (w : World) (hr0 : Kd.C (Kd.int .u8) w A0 l0.length l0) (hc0 : l0.length ≤ c0) (hb0 : Hv1.Byt l0) (hr1 : Kd.C (Kd.int .u8) w A1 l1.length l1) (hc1 : l1.length ≤ c1) (hb1 : Hv1.Byt l1) (ht : Tb w) (hL0 : ¬ (l0.length : Int) > 1048576) (hL1 : ¬ (l1.length : Int) > 1048576) :
    Calls Tryz.prog 5 #[.slice A0 l0.length c0, .slice A1 l1.length c1] w fun e w' => e = .returned (.bool true) ∧ Below w.heap.size w w' := by
  have t0 : decide ((l0.length : Int) > 1048576) = false := dF_ hL0
  have t0' : decide (1048576 < (l0.length : Int)) = false := by simpa using hL0
  have t1 : decide ((l1.length : Int) > 1048576) = false := dF_ hL1
  have t1' : decide (1048576 < (l1.length : Int)) = false := by simpa using hL1
  have hu31 := Tryz.underlying31
  have gd := draw14 A0 c0 l0 w hr0 hc0 hb0
  obtain ⟨x3, y3, e3⟩ := Hv1.draw_some hb1
  have gt := fun W (hW : Below w.heap.size w W) => spec_DrawNetText.calls 1000 A1 c1 l1 x3 y3 W (Kd.C_below hr1 hW) hc1 e3
  clear hL0 hL1 hr0 hr1 hc0 hc1 hb0 hb1 e3
  go_enter Tryz.func5, Tryz.ntmps5
  go_wp2_with fail
  refine gd.mono ?_
  rintro e W1 ⟨x1, y1, x2, y2, M0, M1, m0, m1, N0, N1, n0, n1, rfl, hM, hN, hB1⟩
  obtain ⟨_, q1, p1⟩ := Kd.R_reads' hM.a
  obtain ⟨_, q2, p2⟩ := Kd.R_reads' hM.b
  obtain ⟨_, q3, p3⟩ := Kd.R_reads' hN.a
  obtain ⟨_, q4, p4⟩ := Kd.R_reads' hN.b
  clear gd hM hN t0 t0' t1 t1'
  go_upto_region 4 with (fail)
  have hBa : Bx W1.heap.size M0 m0 x1 M1 m1 y1 (W1.alloc (.cells #[.slice M0 x1.length m0, .slice M1 y1.length m1] 31)) := ⟨heap_alloc_new W1 _, Kd.C_below p1 (al W1 _), Kd.C_below p2 (al W1 _), q1, q2⟩
  have k1 := hB1.trans ((al W1 (.cells #[.slice M0 x1.length m0, .slice M1 y1.length m1] 31)).mono hB1.size)
  replace p3 := Kd.C_below p3 (al W1 (.cells #[.slice M0 x1.length m0, .slice M1 y1.length m1] 31))
  replace p4 := Kd.C_below p4 (al W1 (.cells #[.slice M0 x1.length m0, .slice M1 y1.length m1] 31))
  have es : (W1.alloc (.cells #[.slice M0 x1.length m0, .slice M1 y1.length m1] 31)).heap.size = W1.heap.size + 1 := Array.size_push ..
  generalize W1.alloc (Obj.cells _ 31) = Wa at hBa k1 p3 p4 es ⊢
  rw [← es]
  have hBb : Bx Wa.heap.size N0 n0 x2 N1 n1 y2 (Wa.alloc (.cells #[.slice N0 x2.length n0, .slice N1 y2.length n1] 31)) := ⟨heap_alloc_new Wa _, Kd.C_below p3 (al Wa _), Kd.C_below p4 (al Wa _), q3, q4⟩
  replace hBa := hBa.below (al Wa (.cells #[.slice N0 x2.length n0, .slice N1 y2.length n1] 31))
  replace k1 := k1.trans ((al Wa (.cells #[.slice N0 x2.length n0, .slice N1 y2.length n1] 31)).mono k1.size)
  clear p1 p2 p3 p4 q1 q2 q3 q4 hB1
  generalize Wa.alloc (Obj.cells _ 31) = W2 at hBa hBb k1 ⊢
  obtain ⟨g5, hg5⟩ : ∃ g, W1.heap.size = g := ⟨_, rfl⟩
  rw [hg5] at hBa ⊢
  obtain ⟨g6, hg6⟩ : ∃ g, Wa.heap.size = g := ⟨_, rfl⟩
  rw [hg6] at hBb ⊢
  clear hg5 hg6 es
  go_wp2_with fail
  refine (gt _ k1).mono ?_
  rintro e W3 ⟨v0, v1, rfl, h0, h1, hb⟩
  replace hBa := hBa.below hb
  replace hBb := hBb.below hb
  replace k1 := k1.trans (hb.mono k1.size)
  obtain ⟨C0, r0, rfl, q1, p1⟩ := Kd.R_reads h0
  obtain ⟨C1, r1, rfl, q2, p2⟩ := Kd.R_reads h1
  clear gt h0 h1 hb
  go_upto_region 5 with (fail)
  have hBc : Bx W3.heap.size C0 r0 x3 C1 r1 y3 (W3.alloc (.cells #[.slice C0 x3.length r0, .slice C1 y3.length r1] 31)) := ⟨heap_alloc_new W3 _, Kd.C_below p1 (al W3 _), Kd.C_below p2 (al W3 _), q1, q2⟩
  replace hBa := hBa.below (al W3 (.cells #[.slice C0 x3.length r0, .slice C1 y3.length r1] 31))
  replace hBb := hBb.below (al W3 (.cells #[.slice C0 x3.length r0, .slice C1 y3.length r1] 31))
  replace k1 := k1.trans ((al W3 (.cells #[.slice C0 x3.length r0, .slice C1 y3.length r1] 31)).mono k1.size)
  clear p1 p2 q1 q2
  generalize W3.alloc (Obj.cells _ 31) = W4 at hBa hBb hBc k1 ⊢
  obtain ⟨g7, hg7⟩ : ∃ g, W3.heap.size = g := ⟨_, rfl⟩
  rw [hg7] at hBc ⊢
  clear hg7
  obtain ⟨ka, p, ea, pa⟩ := impSame x1 x2 y1 y2 (C_len hBa.hC) (C_len hBa.hD)
  obtain ⟨kb, p', eb, pb⟩ := speSame x1 x2 y1 y2 (C_len hBa.hC) (C_len hBa.hD)
  obtain rfl : p' = p := Bool.eq_iff_iff.2 (pb.trans pa.symm)
  obtain ⟨kc, q, ec, pc⟩ := impSame x1 x3 y1 y3 (C_len hBa.hC) (C_len hBa.hD)
  obtain ⟨kd, q', ed, pd⟩ := impSame x3 x1 y3 y1 (C_len hBc.hC) (C_len hBc.hD)
  obtain rfl : q' = q := Bool.eq_iff_iff.2 (pd.trans ((show (x3 = x1 ∧ y3 = y1) ↔ (x1 = x3 ∧ y1 = y3) from ⟨fun h => ⟨h.1.symm, h.2.symm⟩, fun h => ⟨h.1.symm, h.2.symm⟩⟩).trans pc.symm))
  obtain ⟨ke, r, ee, pe⟩ := impSame x1 x1 y1 y1 (C_len hBa.hC) (C_len hBa.hD)
  obtain rfl : r = true := pe.2 ⟨rfl, rfl⟩
  have cab := fun W (ha : Bx g5 M0 m0 x1 M1 m1 y1 W) (hb : Bx g6 N0 n0 x2 N1 n1 y2 W) => impl_NetSame.calls ka M0 m0 x1 M1 m1 y1 N0 n0 x2 N1 n1 y2 p' W ha.hC ha.lc ha.hD ha.ld hb.hC hb.lc hb.hD hb.ld ea
  have sab := fun W (ha : Bx g5 M0 m0 x1 M1 m1 y1 W) (hb : Bx g6 N0 n0 x2 N1 n1 y2 W) => spec_NetSame.calls kb M0 m0 x1 M1 m1 y1 N0 n0 x2 N1 n1 y2 p' W ha.hC ha.lc ha.hD ha.ld hb.hC hb.lc hb.hD hb.ld eb
  have cac := fun W (ha : Bx g5 M0 m0 x1 M1 m1 y1 W) (hc : Bx g7 C0 r0 x3 C1 r1 y3 W) => impl_NetSame.calls kc M0 m0 x1 M1 m1 y1 C0 r0 x3 C1 r1 y3 q' W ha.hC ha.lc ha.hD ha.ld hc.hC hc.lc hc.hD hc.ld ec
  have cca := fun W (ha : Bx g5 M0 m0 x1 M1 m1 y1 W) (hc : Bx g7 C0 r0 x3 C1 r1 y3 W) => impl_NetSame.calls kd C0 r0 x3 C1 r1 y3 M0 m0 x1 M1 m1 y1 q' W hc.hC hc.lc hc.hD hc.ld ha.hC ha.lc ha.hD ha.ld ed
  have caa := fun W (ha : Bx g5 M0 m0 x1 M1 m1 y1 W) => impl_NetSame.calls ke M0 m0 x1 M1 m1 y1 M0 m0 x1 M1 m1 y1 true W ha.hC ha.lc ha.hD ha.ld ha.hC ha.lc ha.hD ha.ld ee
  have PA := aM_ pa
  have PC := aM_ pc
  clear pa pb pc pd pe ea eb ec ed ee
  have ne1 : (p' != p') = false := by simp
  have ne2 : (q' != q') = false := by simp
  have hAd := hBa.below (b1_ (Below.refl _ _))
  have hBd := hBb.below (b1_ (Below.refl _ _))
  have hCd := hBc.below (b1_ (Below.refl _ _))
  have k1d := b1_ k1
  clear hBa hBb hBc k1
  refine start_ (n := 22) (S := fun w' => w'.cell? ⟨g5, 0, none⟩ = some (.slice M0 x1.length m0) ∧ w'.cell? ⟨g5, 1, none⟩ = some (.slice M1 y1.length m1) ∧ w'.cell? ⟨g6, 0, none⟩ = some (.slice N0 x2.length n0) ∧ w'.cell? ⟨g6, 1, none⟩ = some (.slice N1 y2.length n1) ∧ w'.cell? ⟨g7, 0, none⟩ = some (.slice C0 x3.length r0) ∧ w'.cell? ⟨g7, 1, none⟩ = some (.slice C1 y3.length r1) ∧ Bx g5 M0 m0 x1 M1 m1 y1 w' ∧ Bx g6 N0 n0 x2 N1 n1 y2 w' ∧ Bx g7 C0 r0 x3 C1 r1 y3 w' ∧ Below w.heap.size w w') (ds := []) #[F_, F_, F_, F_, F_, F_, F_, F_, F_, F_, F_, F_, F_, F_, F_, F_, F_, F_, F_, F_, F_, F_] (by kernel_rfl) rfl rfl ⟨(kC_ hAd.h 0).trans rfl, (kC_ hAd.h 1).trans rfl, (kC_ hBd.h 0).trans rfl, (kC_ hBd.h 1).trans rfl, (kC_ hCd.h 0).trans rfl, (kC_ hCd.h 1).trans rfl, hAd, hBd, hCd, k1d⟩ (fun hHeld => ?_)
  refine take_ (i := 0) (N := some 23) (v := ?_) (a' := ?_) #[T_, F_, F_, F_, F_, F_, F_, F_, F_, F_, F_, F_, F_, F_, F_, F_, F_, F_, F_, F_, F_, F_] rfl rfl (by kernel_rfl) (fun _ _ _ h => h) (Or.inl ⟨by rfl, ?_⟩) hHeld ?_ ?_
  rotate_left
  · rintro w' ⟨s0, s1, s2, s3, s4, s5, s6, s7, s8, s9⟩
    go_simp
    with_reducible rfl
  rotate_left
  · simp only [Act.put, sA_, sB_, sC_, i64_w, i32_w]
    rfl
  refine take_ (i := 1) (N := some 24) (v := ?_) (a' := ?_) #[T_, T_, F_, F_, F_, F_, F_, F_, F_, F_, F_, F_, F_, F_, F_, F_, F_, F_, F_, F_, F_, F_] rfl rfl (by kernel_rfl) (fun _ _ _ h => h) (Or.inl ⟨by rfl, ?_⟩) hHeld ?_ ?_
  rotate_left
  · rintro w' ⟨s0, s1, s2, s3, s4, s5, s6, s7, s8, s9⟩
    go_simp
    with_reducible rfl
  rotate_left
  · simp only [Act.put, sA_, sB_, sC_, i64_w, i32_w]
    rfl
  refine take_ (i := 3) (N := some 26) (v := ?_) (a' := ?_) #[T_, T_, F_, T_, F_, F_, F_, F_, F_, F_, F_, F_, F_, F_, F_, F_, F_, F_, F_, F_, F_, F_] rfl rfl (by kernel_rfl) (fun _ _ _ h => h) (Or.inl ⟨by rfl, ?_⟩) hHeld ?_ ?_
  rotate_left
  · rintro w' ⟨s0, s1, s2, s3, s4, s5, s6, s7, s8, s9⟩
    go_simp
    with_reducible rfl
  rotate_left
  · simp only [Act.put, sA_, sB_, sC_, i64_w, i32_w]
    rfl
  refine take_ (i := 4) (N := some 27) (v := ?_) (a' := ?_) #[T_, T_, F_, T_, T_, F_, F_, F_, F_, F_, F_, F_, F_, F_, F_, F_, F_, F_, F_, F_, F_, F_] rfl rfl (by kernel_rfl) (fun _ _ _ h => h) (Or.inl ⟨by rfl, ?_⟩) hHeld ?_ ?_
  rotate_left
  · rintro w' ⟨s0, s1, s2, s3, s4, s5, s6, s7, s8, s9⟩
    go_simp
    with_reducible rfl
  rotate_left
  · simp only [Act.put, sA_, sB_, sC_, i64_w, i32_w]
    rfl
  refine one_ (i := 2) (N := some 25) #[T_, T_, T_, T_, T_, F_, F_, F_, F_, F_, F_, F_, F_, F_, F_, F_, F_, F_, F_, F_, F_, F_] rfl rfl (by kernel_rfl) (by decide) (fun K hK => ?_)
  refine goes_ Tryz.func16 (by kernel_rfl) rfl #[.agg #[.slice M0 x1.length m0, .slice M1 y1.length m1], .agg #[.slice N0 x2.length n0, .slice N1 y2.length n1]] (by rfl) rfl rfl (by simp only [mA_, List.map_cons, List.map_nil]; rfl) ?_
  with_reducible refine (cab _ hHeld.2.2.2.2.2.2.1 hHeld.2.2.2.2.2.2.2.1).mono ?_
  rintro e wq ⟨rfl, hb⟩
  refine ⟨_, rfl, ?_⟩
  have za := hHeld.2.2.2.2.2.2.1.below hb
  have zb := hHeld.2.2.2.2.2.2.2.1.below hb
  have zc := hHeld.2.2.2.2.2.2.2.2.1.below hb
  have zk := hHeld.2.2.2.2.2.2.2.2.2.trans (hb.mono hHeld.2.2.2.2.2.2.2.2.2.size)
  refine hK.out _ _ ⟨(kC_ za.h 0).trans rfl, (kC_ za.h 1).trans rfl, (kC_ zb.h 0).trans rfl, (kC_ zb.h 1).trans rfl, (kC_ zc.h 0).trans rfl, (kC_ zc.h 1).trans rfl, za, zb, zc, zk⟩ (fun hHeld => ?_)
  clear hK K
  refine norm_ (a' := ?_) ?_ ?_
  rotate_left
  · show Act.put _ (some 25) _ = _
    simp only [Act.put, sA_, sB_, sC_, i64_w, i32_w]
    rfl
  refine one_ (i := 5) (N := some 28) #[T_, T_, T_, T_, T_, T_, F_, F_, F_, F_, F_, F_, F_, F_, F_, F_, F_, F_, F_, F_, F_, F_] rfl rfl (by kernel_rfl) (by decide) (fun K hK => ?_)
  refine goes_ Tryz.func17 (by kernel_rfl) rfl #[.agg #[.slice M0 x1.length m0, .slice M1 y1.length m1], .agg #[.slice N0 x2.length n0, .slice N1 y2.length n1]] (by rfl) rfl rfl (by simp only [mA_, List.map_cons, List.map_nil]; rfl) ?_
  with_reducible refine (sab _ hHeld.2.2.2.2.2.2.1 hHeld.2.2.2.2.2.2.2.1).mono ?_
  rintro e wq ⟨rfl, hb⟩
  refine ⟨_, rfl, ?_⟩
  have za := hHeld.2.2.2.2.2.2.1.below hb
  have zb := hHeld.2.2.2.2.2.2.2.1.below hb
  have zc := hHeld.2.2.2.2.2.2.2.2.1.below hb
  have zk := hHeld.2.2.2.2.2.2.2.2.2.trans (hb.mono hHeld.2.2.2.2.2.2.2.2.2.size)
  refine hK.out _ _ ⟨(kC_ za.h 0).trans rfl, (kC_ za.h 1).trans rfl, (kC_ zb.h 0).trans rfl, (kC_ zb.h 1).trans rfl, (kC_ zc.h 0).trans rfl, (kC_ zc.h 1).trans rfl, za, zb, zc, zk⟩ (fun hHeld => ?_)
  clear hK K
  refine norm_ (a' := ?_) ?_ ?_
  rotate_left
  · show Act.put _ (some 28) _ = _
    simp only [Act.put, sA_, sB_, sC_, i64_w, i32_w]
    rfl
  refine pure_ (i := 6) (N := some 29) (v := ?_) (a' := ?_) #[T_, T_, T_, T_, T_, T_, T_, F_, F_, F_, F_, F_, F_, F_, F_, F_, F_, F_, F_, F_, F_, F_] rfl rfl (by kernel_rfl) (fun _ _ _ h => h) (Or.inl ⟨by rfl, ?_⟩) ?_ ?_
  rotate_left
  · intro w'
    go_simp
    with_reducible rfl
  rotate_left
  · simp only [Act.put, sA_, sB_, sC_, i64_w, i32_w]
    rfl
  refine pure_ (i := 7) (N := some 30) (v := ?_) (a' := ?_) #[T_, T_, T_, T_, T_, T_, T_, T_, F_, F_, F_, F_, F_, F_, F_, F_, F_, F_, F_, F_, F_, F_] rfl rfl (by kernel_rfl) (fun _ _ _ h => h) (Or.inl ⟨by rfl, ?_⟩) ?_ ?_
  rotate_left
  · intro w'
    go_simp
    with_reducible rfl
  rotate_left
  · simp only [Act.put, sA_, sB_, sC_, i64_w, i32_w]
    rfl
  refine take_ (i := 8) (N := some 31) (v := ?_) (a' := ?_) #[T_, T_, T_, T_, T_, T_, T_, T_, T_, F_, F_, F_, F_, F_, F_, F_, F_, F_, F_, F_, F_, F_] rfl rfl (by kernel_rfl) (fun _ _ _ h => h) (Or.inl ⟨by rfl, ?_⟩) hHeld ?_ ?_
  rotate_left
  · rintro w' ⟨s0, s1, s2, s3, s4, s5, s6, s7, s8, s9⟩
    go_simp
    with_reducible rfl
  rotate_left
  · simp only [Act.put, sA_, sB_, sC_, i64_w, i32_w]
    rfl
  refine take_ (i := 9) (N := some 32) (v := ?_) (a' := ?_) #[T_, T_, T_, T_, T_, T_, T_, T_, T_, T_, F_, F_, F_, F_, F_, F_, F_, F_, F_, F_, F_, F_] rfl rfl (by kernel_rfl) (fun _ _ _ h => h) (Or.inl ⟨by rfl, ?_⟩) hHeld ?_ ?_
  rotate_left
  · rintro w' ⟨s0, s1, s2, s3, s4, s5, s6, s7, s8, s9⟩
    go_simp
    with_reducible rfl
  rotate_left
  · simp only [Act.put, sA_, sB_, sC_, i64_w, i32_w]
    rfl
  refine take_ (i := 11) (N := some 34) (v := ?_) (a' := ?_) #[T_, T_, T_, T_, T_, T_, T_, T_, T_, T_, F_, T_, F_, F_, F_, F_, F_, F_, F_, F_, F_, F_] rfl rfl (by kernel_rfl) (fun _ _ _ h => h) (Or.inl ⟨by rfl, ?_⟩) hHeld ?_ ?_
  rotate_left
  · rintro w' ⟨s0, s1, s2, s3, s4, s5, s6, s7, s8, s9⟩
    go_simp
    with_reducible rfl
  rotate_left
  · simp only [Act.put, sA_, sB_, sC_, i64_w, i32_w]
    rfl
  refine take_ (i := 12) (N := some 35) (v := ?_) (a' := ?_) #[T_, T_, T_, T_, T_, T_, T_, T_, T_, T_, F_, T_, T_, F_, F_, F_, F_, F_, F_, F_, F_, F_] rfl rfl (by kernel_rfl) (fun _ _ _ h => h) (Or.inl ⟨by rfl, ?_⟩) hHeld ?_ ?_
  rotate_left
  · rintro w' ⟨s0, s1, s2, s3, s4, s5, s6, s7, s8, s9⟩
    go_simp
    with_reducible rfl
  rotate_left
  · simp only [Act.put, sA_, sB_, sC_, i64_w, i32_w]
    rfl
  refine one_ (i := 10) (N := some 33) #[T_, T_, T_, T_, T_, T_, T_, T_, T_, T_, T_, T_, T_, F_, F_, F_, F_, F_, F_, F_, F_, F_] rfl rfl (by kernel_rfl) (by decide) (fun K hK => ?_)
  refine goes_ Tryz.func16 (by kernel_rfl) rfl #[.agg #[.slice M0 x1.length m0, .slice M1 y1.length m1], .agg #[.slice C0 x3.length r0, .slice C1 y3.length r1]] (by rfl) rfl rfl (by simp only [mA_, List.map_cons, List.map_nil]; rfl) ?_
  with_reducible refine (cac _ hHeld.2.2.2.2.2.2.1 hHeld.2.2.2.2.2.2.2.2.1).mono ?_
  rintro e wq ⟨rfl, hb⟩
  refine ⟨_, rfl, ?_⟩
  have za := hHeld.2.2.2.2.2.2.1.below hb
  have zb := hHeld.2.2.2.2.2.2.2.1.below hb
  have zc := hHeld.2.2.2.2.2.2.2.2.1.below hb
  have zk := hHeld.2.2.2.2.2.2.2.2.2.trans (hb.mono hHeld.2.2.2.2.2.2.2.2.2.size)
  refine hK.out _ _ ⟨(kC_ za.h 0).trans rfl, (kC_ za.h 1).trans rfl, (kC_ zb.h 0).trans rfl, (kC_ zb.h 1).trans rfl, (kC_ zc.h 0).trans rfl, (kC_ zc.h 1).trans rfl, za, zb, zc, zk⟩ (fun hHeld => ?_)
  clear hK K
  refine norm_ (a' := ?_) ?_ ?_
  rotate_left
  · show Act.put _ (some 33) _ = _
    simp only [Act.put, sA_, sB_, sC_, i64_w, i32_w]
    rfl
  refine one_ (i := 13) (N := some 36) #[T_, T_, T_, T_, T_, T_, T_, T_, T_, T_, T_, T_, T_, T_, F_, F_, F_, F_, F_, F_, F_, F_] rfl rfl (by kernel_rfl) (by decide) (fun K hK => ?_)
  refine goes_ Tryz.func16 (by kernel_rfl) rfl #[.agg #[.slice C0 x3.length r0, .slice C1 y3.length r1], .agg #[.slice M0 x1.length m0, .slice M1 y1.length m1]] (by rfl) rfl rfl (by simp only [mA_, List.map_cons, List.map_nil]; rfl) ?_
  with_reducible refine (cca _ hHeld.2.2.2.2.2.2.1 hHeld.2.2.2.2.2.2.2.2.1).mono ?_
  rintro e wq ⟨rfl, hb⟩
  refine ⟨_, rfl, ?_⟩
  have za := hHeld.2.2.2.2.2.2.1.below hb
  have zb := hHeld.2.2.2.2.2.2.2.1.below hb
  have zc := hHeld.2.2.2.2.2.2.2.2.1.below hb
  have zk := hHeld.2.2.2.2.2.2.2.2.2.trans (hb.mono hHeld.2.2.2.2.2.2.2.2.2.size)
  refine hK.out _ _ ⟨(kC_ za.h 0).trans rfl, (kC_ za.h 1).trans rfl, (kC_ zb.h 0).trans rfl, (kC_ zb.h 1).trans rfl, (kC_ zc.h 0).trans rfl, (kC_ zc.h 1).trans rfl, za, zb, zc, zk⟩ (fun hHeld => ?_)
  clear hK K
  refine norm_ (a' := ?_) ?_ ?_
  rotate_left
  · show Act.put _ (some 36) _ = _
    simp only [Act.put, sA_, sB_, sC_, i64_w, i32_w]
    rfl
  refine pure_ (i := 14) (N := some 37) (v := ?_) (a' := ?_) #[T_, T_, T_, T_, T_, T_, T_, T_, T_, T_, T_, T_, T_, T_, T_, F_, F_, F_, F_, F_, F_, F_] rfl rfl (by kernel_rfl) (fun _ _ _ h => h) (Or.inl ⟨by rfl, ?_⟩) ?_ ?_
  rotate_left
  · intro w'
    go_simp
    with_reducible rfl
  rotate_left
  · simp only [Act.put, sA_, sB_, sC_, i64_w, i32_w]
    rfl
  refine pure_ (i := 15) (N := some 38) (v := ?_) (a' := ?_) #[T_, T_, T_, T_, T_, T_, T_, T_, T_, T_, T_, T_, T_, T_, T_, T_, F_, F_, F_, F_, F_, F_] rfl rfl (by kernel_rfl) (fun _ _ _ h => h) (Or.inl ⟨by rfl, ?_⟩) ?_ ?_
  rotate_left
  · intro w'
    go_simp
    with_reducible rfl
  rotate_left
  · simp only [Act.put, sA_, sB_, sC_, i64_w, i32_w]
    rfl
  refine pure_ (i := 16) (N := some 39) (v := ?_) (a' := ?_) #[T_, T_, T_, T_, T_, T_, T_, T_, T_, T_, T_, T_, T_, T_, T_, T_, T_, F_, F_, F_, F_, F_] rfl rfl (by kernel_rfl) (fun _ _ _ h => h) (Or.inl ⟨by rfl, ?_⟩) ?_ ?_
  rotate_left
  · intro w'
    go_simp
    with_reducible rfl
  rotate_left
  · simp only [Act.put, sA_, sB_, sC_, i64_w, i32_w]
    rfl
  refine take_ (i := 17) (N := some 40) (v := ?_) (a' := ?_) #[T_, T_, T_, T_, T_, T_, T_, T_, T_, T_, T_, T_, T_, T_, T_, T_, T_, T_, F_, F_, F_, F_] rfl rfl (by kernel_rfl) (fun _ _ _ h => h) (Or.inl ⟨by rfl, ?_⟩) hHeld ?_ ?_
  rotate_left
  · rintro w' ⟨s0, s1, s2, s3, s4, s5, s6, s7, s8, s9⟩
    go_simp
    with_reducible rfl
  rotate_left
  · simp only [Act.put, sA_, sB_, sC_, i64_w, i32_w]
    rfl
  refine take_ (i := 18) (N := some 41) (v := ?_) (a' := ?_) #[T_, T_, T_, T_, T_, T_, T_, T_, T_, T_, T_, T_, T_, T_, T_, T_, T_, T_, T_, F_, F_, F_] rfl rfl (by kernel_rfl) (fun _ _ _ h => h) (Or.inl ⟨by rfl, ?_⟩) hHeld ?_ ?_
  rotate_left
  · rintro w' ⟨s0, s1, s2, s3, s4, s5, s6, s7, s8, s9⟩
    go_simp
    with_reducible rfl
  rotate_left
  · simp only [Act.put, sA_, sB_, sC_, i64_w, i32_w]
    rfl
  refine one_ (i := 19) (N := some 42) #[T_, T_, T_, T_, T_, T_, T_, T_, T_, T_, T_, T_, T_, T_, T_, T_, T_, T_, T_, T_, F_, F_] rfl rfl (by kernel_rfl) (by decide) (fun K hK => ?_)
  refine goes_ Tryz.func16 (by kernel_rfl) rfl #[.agg #[.slice M0 x1.length m0, .slice M1 y1.length m1], .agg #[.slice M0 x1.length m0, .slice M1 y1.length m1]] (by rfl) rfl rfl (by simp only [mA_, List.map_cons, List.map_nil]; rfl) ?_
  with_reducible refine (caa _ hHeld.2.2.2.2.2.2.1).mono ?_
  rintro e wq ⟨rfl, hb⟩
  refine ⟨_, rfl, ?_⟩
  have za := hHeld.2.2.2.2.2.2.1.below hb
  have zb := hHeld.2.2.2.2.2.2.2.1.below hb
  have zc := hHeld.2.2.2.2.2.2.2.2.1.below hb
  have zk := hHeld.2.2.2.2.2.2.2.2.2.trans (hb.mono hHeld.2.2.2.2.2.2.2.2.2.size)
  refine hK.out _ _ ⟨(kC_ za.h 0).trans rfl, (kC_ za.h 1).trans rfl, (kC_ zb.h 0).trans rfl, (kC_ zb.h 1).trans rfl, (kC_ zc.h 0).trans rfl, (kC_ zc.h 1).trans rfl, za, zb, zc, zk⟩ (fun hHeld => ?_)
  clear hK K
  refine norm_ (a' := ?_) ?_ ?_
  rotate_left
  · show Act.put _ (some 42) _ = _
    simp only [Act.put, sA_, sB_, sC_, i64_w, i32_w]
    rfl
  refine pure_ (i := 20) (N := some 43) (v := ?_) (a' := ?_) #[T_, T_, T_, T_, T_, T_, T_, T_, T_, T_, T_, T_, T_, T_, T_, T_, T_, T_, T_, T_, T_, F_] rfl rfl (by kernel_rfl) (fun _ _ _ h => h) (Or.inl ⟨by rfl, ?_⟩) ?_ ?_
  rotate_left
  · intro w'
    go_simp
    with_reducible rfl
  rotate_left
  · simp only [Act.put, sA_, sB_, sC_, i64_w, i32_w]
    rfl
  refine pure_ (i := 21) (N := some 44) (v := ?_) (a' := ?_) #[T_, T_, T_, T_, T_, T_, T_, T_, T_, T_, T_, T_, T_, T_, T_, T_, T_, T_, T_, T_, T_, T_] rfl rfl (by kernel_rfl) (fun _ _ _ h => h) (Or.inl ⟨by rfl, ?_⟩) ?_ ?_
  rotate_left
  · intro w'
    go_simp
    with_reducible rfl
  rotate_left
  · simp only [Act.put, sA_, sB_, sC_, i64_w, i32_w]
    rfl
  refine done_ (by kernel_rfl) ?_
  have hBa := hHeld.2.2.2.2.2.2.1
  have hBb := hHeld.2.2.2.2.2.2.2.1
  have hBc := hHeld.2.2.2.2.2.2.2.2.1
  have k1 := hHeld.2.2.2.2.2.2.2.2.2
  clear hHeld hAd hBd hCd k1d ne1 ne2 sab cca caa
  have ok := fun g A c l B d m W (h : Bx g A c l B d m W) => spec_NetOk.calls 5000000 A c l B d m (nOk l m) W h.hC h.lc h.hD h.ld (netOkT l m 5000000 (by omega))
  have oa := ok g5 M0 m0 x1 M1 m1 y1
  have ob := ok g6 N0 n0 x2 N1 n1 y2
  have oc := ok g7 C0 r0 x3 C1 r1 y3
  clear ok
  obtain ⟨na, hna⟩ : ∃ v, nOk x1 y1 = v := ⟨_, rfl⟩
  obtain ⟨nb, hnb⟩ : ∃ v, nOk x2 y2 = v := ⟨_, rfl⟩
  obtain ⟨nc, hnc⟩ : ∃ v, nOk x3 y3 = v := ⟨_, rfl⟩
  rw [hna] at oa
  rw [hnb] at ob
  rw [hnc] at oc
  have j0 : World.cell? _ ⟨g5, 0, none⟩ = some (.slice M0 x1.length m0) := (kC_ hBa.h 0).trans rfl
  have j1 : World.cell? _ ⟨g5, 1, none⟩ = some (.slice M1 y1.length m1) := (kC_ hBa.h 1).trans rfl
  go_wp2_with fail
  refine (oa _ hBa).mono ?_
  rintro e wq ⟨rfl, hb⟩
  replace hBa := hBa.below hb
  replace hBb := hBb.below hb
  replace hBc := hBc.below hb
  replace k1 := k1.trans (hb.mono k1.size)
  clear hb oa j0 j1
  cases na with
  | false =>
    go_wp2
    go_ret
    exact ⟨rfl, k1⟩
  | true =>
    have j0 : World.cell? _ ⟨g6, 0, none⟩ = some (.slice N0 x2.length n0) := (kC_ hBb.h 0).trans rfl
    have j1 : World.cell? _ ⟨g6, 1, none⟩ = some (.slice N1 y2.length n1) := (kC_ hBb.h 1).trans rfl
    go_wp2_with fail
    refine (ob _ hBb).mono ?_
    rintro e wq ⟨rfl, hb⟩
    replace hBa := hBa.below hb
    replace hBb := hBb.below hb
    replace hBc := hBc.below hb
    replace k1 := k1.trans (hb.mono k1.size)
    clear hb ob j0 j1
    cases nb with
    | false =>
      go_wp2
      go_ret
      exact ⟨rfl, k1⟩
    | true =>
      have j0 : World.cell? _ ⟨g7, 0, none⟩ = some (.slice C0 x3.length r0) := (kC_ hBc.h 0).trans rfl
      have j1 : World.cell? _ ⟨g7, 1, none⟩ = some (.slice C1 y3.length r1) := (kC_ hBc.h 1).trans rfl
      go_wp2_with fail
      refine (oc _ hBc).mono ?_
      rintro e wq ⟨rfl, hb⟩
      replace hBa := hBa.below hb
      replace hBb := hBb.below hb
      replace hBc := hBc.below hb
      replace k1 := k1.trans (hb.mono k1.size)
      clear hb oc j0 j1
      cases nc with
      | false =>
        go_wp2
        go_ret
        exact ⟨rfl, k1⟩
      | true =>
        have eAB := same_text hna hnb PA.out
        have eAC := same_text hna hnc PC.out
        have tt1 : (p' == p') = true := by simp
        have tt2 : (q' == q') = true := by simp
        have ta := fun W (hB : Bx g5 M0 m0 x1 M1 m1 y1 W) (k : Below w.heap.size w W) => netTextC x1 y1 M0 M1 m0 m1 W hB.lc hB.ld hB.hC hB.hD (ht.at_ k)
        have tb := fun W (hB : Bx g6 N0 n0 x2 N1 n1 y2 W) (k : Below w.heap.size w W) => netTextC x2 y2 N0 N1 n0 n1 W hB.lc hB.ld hB.hC hB.hD (ht.at_ k)
        have tc := fun W (hB : Bx g7 C0 r0 x3 C1 r1 y3 W) (k : Below w.heap.size w W) => netTextC x3 y3 C0 C1 r0 r1 W hB.lc hB.ld hB.hC hB.hD (ht.at_ k)
        generalize netT x1 y1 = s1 at eAB eAC ta
        generalize netT x2 y2 = s2 at eAB tb
        generalize netT x3 y3 = s3 at eAC tc
        go_upto_region 9 with (fail)
        have hAd := hBa.below (b1_ (Below.refl _ _))
        have hBd := hBb.below (b1_ (Below.refl _ _))
        have hCd := hBc.below (b1_ (Below.refl _ _))
        have k1d := b1_ k1
        clear hBa hBb hBc k1 PA PC hna hnb hnc
        refine start_ (n := 21) (S := fun w' => w'.cell? ⟨g5, 0, none⟩ = some (.slice M0 x1.length m0) ∧ w'.cell? ⟨g5, 1, none⟩ = some (.slice M1 y1.length m1) ∧ w'.cell? ⟨g6, 0, none⟩ = some (.slice N0 x2.length n0) ∧ w'.cell? ⟨g6, 1, none⟩ = some (.slice N1 y2.length n1) ∧ w'.cell? ⟨g7, 0, none⟩ = some (.slice C0 x3.length r0) ∧ w'.cell? ⟨g7, 1, none⟩ = some (.slice C1 y3.length r1) ∧ Bx g5 M0 m0 x1 M1 m1 y1 w' ∧ Bx g6 N0 n0 x2 N1 n1 y2 w' ∧ Bx g7 C0 r0 x3 C1 r1 y3 w' ∧ Below w.heap.size w w') (ds := []) #[F_, F_, F_, F_, F_, F_, F_, F_, F_, F_, F_, F_, F_, F_, F_, F_, F_, F_, F_, F_, F_] (by kernel_rfl) rfl rfl ⟨(kC_ hAd.h 0).trans rfl, (kC_ hAd.h 1).trans rfl, (kC_ hBd.h 0).trans rfl, (kC_ hBd.h 1).trans rfl, (kC_ hCd.h 0).trans rfl, (kC_ hCd.h 1).trans rfl, hAd, hBd, hCd, k1d⟩ (fun hHeld => ?_)
        refine take_ (i := 0) (N := some 58) (v := ?_) (a' := ?_) #[T_, F_, F_, F_, F_, F_, F_, F_, F_, F_, F_, F_, F_, F_, F_, F_, F_, F_, F_, F_, F_] rfl rfl (by kernel_rfl) (fun _ _ _ h => h) (Or.inl ⟨by rfl, ?_⟩) hHeld ?_ ?_
        rotate_left
        · rintro w' ⟨s0, s1, s2, s3, s4, s5, s6, s7, s8, s9⟩
          go_simp
          with_reducible rfl
        rotate_left
        · simp only [Act.put, sA_, sB_, sC_, i64_w, i32_w]
          rfl
        refine take_ (i := 1) (N := some 59) (v := ?_) (a' := ?_) #[T_, T_, F_, F_, F_, F_, F_, F_, F_, F_, F_, F_, F_, F_, F_, F_, F_, F_, F_, F_, F_] rfl rfl (by kernel_rfl) (fun _ _ _ h => h) (Or.inl ⟨by rfl, ?_⟩) hHeld ?_ ?_
        rotate_left
        · rintro w' ⟨s0, s1, s2, s3, s4, s5, s6, s7, s8, s9⟩
          go_simp
          with_reducible rfl
        rotate_left
        · simp only [Act.put, sA_, sB_, sC_, i64_w, i32_w]
          rfl
        refine take_ (i := 3) (N := some 61) (v := ?_) (a' := ?_) #[T_, T_, F_, T_, F_, F_, F_, F_, F_, F_, F_, F_, F_, F_, F_, F_, F_, F_, F_, F_, F_] rfl rfl (by kernel_rfl) (fun _ _ _ h => h) (Or.inl ⟨by rfl, ?_⟩) hHeld ?_ ?_
        rotate_left
        · rintro w' ⟨s0, s1, s2, s3, s4, s5, s6, s7, s8, s9⟩
          go_simp
          with_reducible rfl
        rotate_left
        · simp only [Act.put, sA_, sB_, sC_, i64_w, i32_w]
          rfl
        refine take_ (i := 5) (N := some 63) (v := ?_) (a' := ?_) #[T_, T_, F_, T_, F_, T_, F_, F_, F_, F_, F_, F_, F_, F_, F_, F_, F_, F_, F_, F_, F_] rfl rfl (by kernel_rfl) (fun _ _ _ h => h) (Or.inl ⟨by rfl, ?_⟩) hHeld ?_ ?_
        rotate_left
        · rintro w' ⟨s0, s1, s2, s3, s4, s5, s6, s7, s8, s9⟩
          go_simp
          with_reducible rfl
        rotate_left
        · simp only [Act.put, sA_, sB_, sC_, i64_w, i32_w]
          rfl
        refine one_ (i := 2) (N := some 60) #[T_, T_, T_, T_, F_, T_, F_, F_, F_, F_, F_, F_, F_, F_, F_, F_, F_, F_, F_, F_, F_] rfl rfl (by kernel_rfl) (by decide) (fun K hK => ?_)
        refine goes_ Tryz.func16 (by kernel_rfl) rfl #[.agg #[.slice M0 x1.length m0, .slice M1 y1.length m1], .agg #[.slice N0 x2.length n0, .slice N1 y2.length n1]] (by rfl) rfl rfl (by simp only [mA_, List.map_cons, List.map_nil]; rfl) ?_
        with_reducible refine (cab _ hHeld.2.2.2.2.2.2.1 hHeld.2.2.2.2.2.2.2.1).mono ?_
        rintro e wq ⟨rfl, hb⟩
        refine ⟨_, rfl, ?_⟩
        have za := hHeld.2.2.2.2.2.2.1.below hb
        have zb := hHeld.2.2.2.2.2.2.2.1.below hb
        have zc := hHeld.2.2.2.2.2.2.2.2.1.below hb
        have zk := hHeld.2.2.2.2.2.2.2.2.2.trans (hb.mono hHeld.2.2.2.2.2.2.2.2.2.size)
        refine hK.out _ _ ⟨(kC_ za.h 0).trans rfl, (kC_ za.h 1).trans rfl, (kC_ zb.h 0).trans rfl, (kC_ zb.h 1).trans rfl, (kC_ zc.h 0).trans rfl, (kC_ zc.h 1).trans rfl, za, zb, zc, zk⟩ (fun hHeld => ?_)
        clear hK K
        refine norm_ (a' := ?_) ?_ ?_
        rotate_left
        · show Act.put _ (some 60) _ = _
          simp only [Act.put, sA_, sB_, sC_, i64_w, i32_w]
          rfl
        refine one_ (i := 4) (N := some 62) #[T_, T_, T_, T_, T_, T_, F_, F_, F_, F_, F_, F_, F_, F_, F_, F_, F_, F_, F_, F_, F_] rfl rfl (by kernel_rfl) (by decide) (fun K hK => ?_)
        refine goes_ Tryz.func9 (by kernel_rfl) rfl #[.agg #[.slice M0 x1.length m0, .slice M1 y1.length m1]] (by rfl) rfl rfl (by simp only [mA_, List.map_cons, List.map_nil]; rfl) ?_
        with_reducible refine (ta _ hHeld.2.2.2.2.2.2.1 hHeld.2.2.2.2.2.2.2.2.2).mono ?_
        rintro e wq ⟨rfl, hb⟩
        refine ⟨_, rfl, ?_⟩
        have za := hHeld.2.2.2.2.2.2.1.below hb
        have zb := hHeld.2.2.2.2.2.2.2.1.below hb
        have zc := hHeld.2.2.2.2.2.2.2.2.1.below hb
        have zk := hHeld.2.2.2.2.2.2.2.2.2.trans (hb.mono hHeld.2.2.2.2.2.2.2.2.2.size)
        refine hK.out _ _ ⟨(kC_ za.h 0).trans rfl, (kC_ za.h 1).trans rfl, (kC_ zb.h 0).trans rfl, (kC_ zb.h 1).trans rfl, (kC_ zc.h 0).trans rfl, (kC_ zc.h 1).trans rfl, za, zb, zc, zk⟩ (fun hHeld => ?_)
        clear hK K
        refine norm_ (a' := ?_) ?_ ?_
        rotate_left
        · show Act.put _ (some 62) _ = _
          simp only [Act.put, sA_, sB_, sC_, i64_w, i32_w]
          rfl
        refine one_ (i := 6) (N := some 64) #[T_, T_, T_, T_, T_, T_, T_, F_, F_, F_, F_, F_, F_, F_, F_, F_, F_, F_, F_, F_, F_] rfl rfl (by kernel_rfl) (by decide) (fun K hK => ?_)
        refine goes_ Tryz.func9 (by kernel_rfl) rfl #[.agg #[.slice N0 x2.length n0, .slice N1 y2.length n1]] (by rfl) rfl rfl (by simp only [mA_, List.map_cons, List.map_nil]; rfl) ?_
        with_reducible refine (tb _ hHeld.2.2.2.2.2.2.2.1 hHeld.2.2.2.2.2.2.2.2.2).mono ?_
        rintro e wq ⟨rfl, hb⟩
        refine ⟨_, rfl, ?_⟩
        have za := hHeld.2.2.2.2.2.2.1.below hb
        have zb := hHeld.2.2.2.2.2.2.2.1.below hb
        have zc := hHeld.2.2.2.2.2.2.2.2.1.below hb
        have zk := hHeld.2.2.2.2.2.2.2.2.2.trans (hb.mono hHeld.2.2.2.2.2.2.2.2.2.size)
        refine hK.out _ _ ⟨(kC_ za.h 0).trans rfl, (kC_ za.h 1).trans rfl, (kC_ zb.h 0).trans rfl, (kC_ zb.h 1).trans rfl, (kC_ zc.h 0).trans rfl, (kC_ zc.h 1).trans rfl, za, zb, zc, zk⟩ (fun hHeld => ?_)
        clear hK K
        refine norm_ (a' := ?_) ?_ ?_
        rotate_left
        · show Act.put _ (some 64) _ = _
          simp only [Act.put, sA_, sB_, sC_, i64_w, i32_w]
          rfl
        refine pure_ (i := 7) (N := some 65) (v := ?_) (a' := ?_) #[T_, T_, T_, T_, T_, T_, T_, T_, F_, F_, F_, F_, F_, F_, F_, F_, F_, F_, F_, F_, F_] rfl rfl (by kernel_rfl) (fun _ _ _ h => h) (Or.inl ⟨by rfl, ?_⟩) ?_ ?_
        rotate_left
        · intro w'
          go_simp
          with_reducible rfl
        rotate_left
        · simp only [Act.put, sA_, sB_, sC_, i64_w, i32_w]
          rfl
        refine pure_ (i := 8) (N := some 66) (v := ?_) (a' := ?_) #[T_, T_, T_, T_, T_, T_, T_, T_, T_, F_, F_, F_, F_, F_, F_, F_, F_, F_, F_, F_, F_] rfl rfl (by kernel_rfl) (fun _ _ _ h => h) (Or.inl ⟨by rfl, ?_⟩) ?_ ?_
        rotate_left
        · intro w'
          go_simp
          with_reducible rfl
        rotate_left
        · simp only [Act.put, sA_, sB_, sC_, i64_w, i32_w]
          rfl
        refine pure_ (i := 9) (N := some 67) (v := ?_) (a' := ?_) #[T_, T_, T_, T_, T_, T_, T_, T_, T_, T_, F_, F_, F_, F_, F_, F_, F_, F_, F_, F_, F_] rfl rfl (by kernel_rfl) (fun _ _ _ h => h) (Or.inl ⟨by rfl, ?_⟩) ?_ ?_
        rotate_left
        · intro w'
          go_simp
          with_reducible rfl
        rotate_left
        · simp only [Act.put, sA_, sB_, sC_, i64_w, i32_w]
          rfl
        refine take_ (i := 10) (N := some 68) (v := ?_) (a' := ?_) #[T_, T_, T_, T_, T_, T_, T_, T_, T_, T_, T_, F_, F_, F_, F_, F_, F_, F_, F_, F_, F_] rfl rfl (by kernel_rfl) (fun _ _ _ h => h) (Or.inl ⟨by rfl, ?_⟩) hHeld ?_ ?_
        rotate_left
        · rintro w' ⟨s0, s1, s2, s3, s4, s5, s6, s7, s8, s9⟩
          go_simp
          with_reducible rfl
        rotate_left
        · simp only [Act.put, sA_, sB_, sC_, i64_w, i32_w]
          rfl
        refine take_ (i := 11) (N := some 69) (v := ?_) (a' := ?_) #[T_, T_, T_, T_, T_, T_, T_, T_, T_, T_, T_, T_, F_, F_, F_, F_, F_, F_, F_, F_, F_] rfl rfl (by kernel_rfl) (fun _ _ _ h => h) (Or.inl ⟨by rfl, ?_⟩) hHeld ?_ ?_
        rotate_left
        · rintro w' ⟨s0, s1, s2, s3, s4, s5, s6, s7, s8, s9⟩
          go_simp
          with_reducible rfl
        rotate_left
        · simp only [Act.put, sA_, sB_, sC_, i64_w, i32_w]
          rfl
        refine take_ (i := 13) (N := some 71) (v := ?_) (a' := ?_) #[T_, T_, T_, T_, T_, T_, T_, T_, T_, T_, T_, T_, F_, T_, F_, F_, F_, F_, F_, F_, F_] rfl rfl (by kernel_rfl) (fun _ _ _ h => h) (Or.inl ⟨by rfl, ?_⟩) hHeld ?_ ?_
        rotate_left
        · rintro w' ⟨s0, s1, s2, s3, s4, s5, s6, s7, s8, s9⟩
          go_simp
          with_reducible rfl
        rotate_left
        · simp only [Act.put, sA_, sB_, sC_, i64_w, i32_w]
          rfl
        refine take_ (i := 15) (N := some 73) (v := ?_) (a' := ?_) #[T_, T_, T_, T_, T_, T_, T_, T_, T_, T_, T_, T_, F_, T_, F_, T_, F_, F_, F_, F_, F_] rfl rfl (by kernel_rfl) (fun _ _ _ h => h) (Or.inl ⟨by rfl, ?_⟩) hHeld ?_ ?_
        rotate_left
        · rintro w' ⟨s0, s1, s2, s3, s4, s5, s6, s7, s8, s9⟩
          go_simp
          with_reducible rfl
        rotate_left
        · simp only [Act.put, sA_, sB_, sC_, i64_w, i32_w]
          rfl
        refine one_ (i := 12) (N := some 70) #[T_, T_, T_, T_, T_, T_, T_, T_, T_, T_, T_, T_, T_, T_, F_, T_, F_, F_, F_, F_, F_] rfl rfl (by kernel_rfl) (by decide) (fun K hK => ?_)
        refine goes_ Tryz.func16 (by kernel_rfl) rfl #[.agg #[.slice M0 x1.length m0, .slice M1 y1.length m1], .agg #[.slice C0 x3.length r0, .slice C1 y3.length r1]] (by rfl) rfl rfl (by simp only [mA_, List.map_cons, List.map_nil]; rfl) ?_
        with_reducible refine (cac _ hHeld.2.2.2.2.2.2.1 hHeld.2.2.2.2.2.2.2.2.1).mono ?_
        rintro e wq ⟨rfl, hb⟩
        refine ⟨_, rfl, ?_⟩
        have za := hHeld.2.2.2.2.2.2.1.below hb
        have zb := hHeld.2.2.2.2.2.2.2.1.below hb
        have zc := hHeld.2.2.2.2.2.2.2.2.1.below hb
        have zk := hHeld.2.2.2.2.2.2.2.2.2.trans (hb.mono hHeld.2.2.2.2.2.2.2.2.2.size)
        refine hK.out _ _ ⟨(kC_ za.h 0).trans rfl, (kC_ za.h 1).trans rfl, (kC_ zb.h 0).trans rfl, (kC_ zb.h 1).trans rfl, (kC_ zc.h 0).trans rfl, (kC_ zc.h 1).trans rfl, za, zb, zc, zk⟩ (fun hHeld => ?_)
        clear hK K
        refine norm_ (a' := ?_) ?_ ?_
        rotate_left
        · show Act.put _ (some 70) _ = _
          simp only [Act.put, sA_, sB_, sC_, i64_w, i32_w]
          rfl
        refine one_ (i := 14) (N := some 72) #[T_, T_, T_, T_, T_, T_, T_, T_, T_, T_, T_, T_, T_, T_, T_, T_, F_, F_, F_, F_, F_] rfl rfl (by kernel_rfl) (by decide) (fun K hK => ?_)
        refine goes_ Tryz.func9 (by kernel_rfl) rfl #[.agg #[.slice M0 x1.length m0, .slice M1 y1.length m1]] (by rfl) rfl rfl (by simp only [mA_, List.map_cons, List.map_nil]; rfl) ?_
        with_reducible refine (ta _ hHeld.2.2.2.2.2.2.1 hHeld.2.2.2.2.2.2.2.2.2).mono ?_
        rintro e wq ⟨rfl, hb⟩
        refine ⟨_, rfl, ?_⟩
        have za := hHeld.2.2.2.2.2.2.1.below hb
        have zb := hHeld.2.2.2.2.2.2.2.1.below hb
        have zc := hHeld.2.2.2.2.2.2.2.2.1.below hb
        have zk := hHeld.2.2.2.2.2.2.2.2.2.trans (hb.mono hHeld.2.2.2.2.2.2.2.2.2.size)
        refine hK.out _ _ ⟨(kC_ za.h 0).trans rfl, (kC_ za.h 1).trans rfl, (kC_ zb.h 0).trans rfl, (kC_ zb.h 1).trans rfl, (kC_ zc.h 0).trans rfl, (kC_ zc.h 1).trans rfl, za, zb, zc, zk⟩ (fun hHeld => ?_)
        clear hK K
        refine norm_ (a' := ?_) ?_ ?_
        rotate_left
        · show Act.put _ (some 72) _ = _
          simp only [Act.put, sA_, sB_, sC_, i64_w, i32_w]
          rfl
        refine one_ (i := 16) (N := some 74) #[T_, T_, T_, T_, T_, T_, T_, T_, T_, T_, T_, T_, T_, T_, T_, T_, T_, F_, F_, F_, F_] rfl rfl (by kernel_rfl) (by decide) (fun K hK => ?_)
        refine goes_ Tryz.func9 (by kernel_rfl) rfl #[.agg #[.slice C0 x3.length r0, .slice C1 y3.length r1]] (by rfl) rfl rfl (by simp only [mA_, List.map_cons, List.map_nil]; rfl) ?_
        with_reducible refine (tc _ hHeld.2.2.2.2.2.2.2.2.1 hHeld.2.2.2.2.2.2.2.2.2).mono ?_
        rintro e wq ⟨rfl, hb⟩
        refine ⟨_, rfl, ?_⟩
        have za := hHeld.2.2.2.2.2.2.1.below hb
        have zb := hHeld.2.2.2.2.2.2.2.1.below hb
        have zc := hHeld.2.2.2.2.2.2.2.2.1.below hb
        have zk := hHeld.2.2.2.2.2.2.2.2.2.trans (hb.mono hHeld.2.2.2.2.2.2.2.2.2.size)
        refine hK.out _ _ ⟨(kC_ za.h 0).trans rfl, (kC_ za.h 1).trans rfl, (kC_ zb.h 0).trans rfl, (kC_ zb.h 1).trans rfl, (kC_ zc.h 0).trans rfl, (kC_ zc.h 1).trans rfl, za, zb, zc, zk⟩ (fun hHeld => ?_)
        clear hK K
        refine norm_ (a' := ?_) ?_ ?_
        rotate_left
        · show Act.put _ (some 74) _ = _
          simp only [Act.put, sA_, sB_, sC_, i64_w, i32_w]
          rfl
        refine pure_ (i := 17) (N := some 75) (v := ?_) (a' := ?_) #[T_, T_, T_, T_, T_, T_, T_, T_, T_, T_, T_, T_, T_, T_, T_, T_, T_, T_, F_, F_, F_] rfl rfl (by kernel_rfl) (fun _ _ _ h => h) (Or.inl ⟨by rfl, ?_⟩) ?_ ?_
        rotate_left
        · intro w'
          go_simp
          with_reducible rfl
        rotate_left
        · simp only [Act.put, sA_, sB_, sC_, i64_w, i32_w]
          rfl
        refine pure_ (i := 18) (N := some 76) (v := ?_) (a' := ?_) #[T_, T_, T_, T_, T_, T_, T_, T_, T_, T_, T_, T_, T_, T_, T_, T_, T_, T_, T_, F_, F_] rfl rfl (by kernel_rfl) (fun _ _ _ h => h) (Or.inl ⟨by rfl, ?_⟩) ?_ ?_
        rotate_left
        · intro w'
          go_simp
          with_reducible rfl
        rotate_left
        · simp only [Act.put, sA_, sB_, sC_, i64_w, i32_w]
          rfl
        refine pure_ (i := 19) (N := some 77) (v := ?_) (a' := ?_) #[T_, T_, T_, T_, T_, T_, T_, T_, T_, T_, T_, T_, T_, T_, T_, T_, T_, T_, T_, T_, F_] rfl rfl (by kernel_rfl) (fun _ _ _ h => h) (Or.inl ⟨by rfl, ?_⟩) ?_ ?_
        rotate_left
        · intro w'
          go_simp
          with_reducible rfl
        rotate_left
        · simp only [Act.put, sA_, sB_, sC_, i64_w, i32_w]
          rfl
        refine pure_ (i := 20) (N := some 4) (v := ?_) (a' := ?_) #[T_, T_, T_, T_, T_, T_, T_, T_, T_, T_, T_, T_, T_, T_, T_, T_, T_, T_, T_, T_, T_] rfl rfl (by kernel_rfl) (fun _ _ _ h => h) (Or.inl ⟨by rfl, ?_⟩) ?_ ?_
        rotate_left
        · intro w'
          go_simp
          with_reducible rfl
        rotate_left
        · simp only [Act.put, sA_, sB_, sC_, i64_w, i32_w]
          rfl
        refine done_ (by kernel_rfl) ?_
        have k1 := hHeld.2.2.2.2.2.2.2.2.2
        clear hHeld
        go_wp2
        go_ret
        exact ⟨rfl, k1⟩
end Go.Proofs.YtphblfmjdiigkaaGreatDoor.Hv11
