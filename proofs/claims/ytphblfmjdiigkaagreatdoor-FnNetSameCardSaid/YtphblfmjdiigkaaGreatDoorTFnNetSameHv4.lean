/- impl.NetText of a net that is ok. Condition: the table of the powers of ten is laid (Tb). -/
import Derived.Test.YtphblfmjdiigkaaGreatDoorTFnNetSameHv3
namespace Go.Proofs.YtphblfmjdiigkaaGreatDoor.Hv4
open Go.RowKit Go.Proofs.YtphblfmjdiigkaaGreatDoor.Hv3 Go.Proofs.YtphblfmjdiigkaaGreatDoor.Hv2 Go.Proofs.YtphblfmjdiigkaaGreatDoor.Hu9 Go.Proofs.YtphblfmjdiigkaaGreatDoor.Hu8 Go.Proofs.YtphblfmjdiigkaaGreatDoor.Hb Go.Proofs.YtphblfmjdiigkaaGreatDoor.Hu1 Go.Proofs.YtphblfmjdiigkaaGreatDoor.Hu2 Go.Proofs.YtphblfmjdiigkaaGreatDoor.Hu3 Go.Proofs.YtphblfmjdiigkaaGreatDoor.Hu4 Go.Proofs.YtphblfmjdiigkaaGreatDoor.Hu5 Go.Proofs.YtphblfmjdiigkaaGreatDoor.Hu6 Go.Proofs.YtphblfmjdiigkaaGreatDoor.Hu7 Go.Proofs.YtphblfmjdiigkaaGreatDoor.HFnNetSame Go.Proofs.YtphblfmjdiigkaaGreatDoorW.PrintWords Go.Proofs.YtphblfmjdiigkaaGreatDoorW.PrintLast Go.Proofs.YtphblfmjdiigkaaGreatDoorW.PrintMore
set_option linter.unusedVariables false
set_option linter.unusedSimpArgs false
theorem wk_facts {x : S43} {n : Int} (h : wOk x n = true) : ((1 ≤ x.f0 ∧ x.f0 ≤ 5) ∨ (11 ≤ x.f0 ∧ x.f0 ≤ 13)) ∧ (blB x.f0 = true → x.f0 ≤ 3 → 0 ≤ x.f1 ∧ x.f1 ≤ 1000) ∧ ∀ s ∈ insL x, sOkS s n = true := by
  unfold wOk at h
  simp only [Bool.and_eq_true, Bool.not_eq_true', Bool.or_eq_false_iff, Bool.and_eq_false_iff] at h
  obtain ⟨⟨⟨h1, h2⟩, h3⟩, h4, h5⟩ := h
  refine ⟨?_, fun hb hk => ?_, fun s hs => ?_⟩
  · unfold gB blB at h3
    simp only [Bool.not_eq_false', Bool.and_eq_true, decide_eq_true_eq] at h3
    omega
  · rcases h2 with h2 | h2
    · rw [hb] at h2; cases h2
    · unfold sizedB at h2
      unfold blB at hb
      simp only [Bool.not_eq_false', Bool.and_eq_true, Bool.or_eq_true, decide_eq_true_eq] at h2 hb
      omega
  · rw [List.any_eq_false] at h5
    simpa using h5 s hs
theorem ins_len (x : S43) : (insL x).length ≤ 2 := by unfold insL; split <;> simp
theorem kw_size (k : Int) (h : (1 ≤ k ∧ k ≤ 5) ∨ (11 ≤ k ∧ k ≤ 13)) : (rdOf ByteArray.empty kindL k).size ≤ 5 := by
  have := kind_size k.toNat (by omega)
  rwa [Int.toNat_of_nonneg (by omega)] at this
theorem joinTail_le (c : Nat) (sep : List UInt8) : ∀ (xs : List (List UInt8)), (∀ x ∈ xs, x.length ≤ c) → (Lib.joinTail sep xs).length ≤ xs.length * (c + sep.length)
  | [], _ => by simp [Lib.joinTail]
  | x :: xs, h => by
    have := joinTail_le c sep xs (fun y hy => h y (List.mem_cons_of_mem _ hy))
    have hx := h x (List.mem_cons_self ..)
    unfold Lib.joinTail at this ⊢
    rw [List.map_cons, List.flatten_cons, List.length_append, List.length_append, List.length_cons]
    have e : (xs.length + 1) * (c + sep.length) = xs.length * (c + sep.length) + (c + sep.length) := Nat.succ_mul ..
    omega
theorem joinS_size (c : Nat) (xs : List ByteArray) (sep : ByteArray) (h : ∀ x ∈ xs, x.size ≤ c) : (joinS xs sep).size ≤ xs.length * (c + sep.size) := by
  show (Lib.join (xs.map (·.data.toList)) sep.data.toList).toArray.size ≤ _
  rw [List.size_toArray]
  cases xs with
  | nil => simp [Lib.join_nil]
  | cons x xs =>
    rw [List.map_cons, Lib.join_cons, List.length_append]
    have h1 : x.data.toList.length ≤ c := h x (List.mem_cons_self ..)
    have h2 := joinTail_le c sep.data.toList (xs.map (·.data.toList)) (fun y hy => by
      obtain ⟨z, hz, rfl⟩ := List.mem_map.1 hy
      exact h z (List.mem_cons_of_mem _ hz))
    rw [List.length_map] at h2
    have e : (xs.length + 1) * (c + sep.size) = xs.length * (c + sep.size) + (c + sep.size) := Nat.succ_mul ..
    have e2 : sep.data.toList.length = sep.size := rfl
    rw [List.length_cons, e, ← e2]
    rw [e2] at h2 ⊢
    omega
theorem words_facts {x : S43} {n : Int} (h : wOk x n = true) (hn : n ≤ 1000) : (∀ s ∈ wordsB x, s.size ≤ 8) ∧ (wordsB x).length ≤ 4 := by
  obtain ⟨h1, h2, h3⟩ := wk_facts h
  refine ⟨fun s hs => ?_, ?_⟩
  · unfold wordsB at hs
    rcases List.mem_append.1 hs with hs | hs
    · rcases List.mem_cons.1 hs with rfl | hs
      · have := kw_size x.f0 h1; omega
      · by_cases hb : (blB x.f0 && decide (x.f0 ≤ 3)) = true
        · rw [if_pos hb] at hs
          simp only [Bool.and_eq_true, decide_eq_true_eq] at hb
          obtain rfl := List.mem_singleton.1 hs
          have := h2 hb.1 hb.2
          have := itoa_size x.f1 this.1 (by omega)
          omega
        · rw [if_neg hb] at hs; cases hs
    · obtain ⟨y, hy, rfl⟩ := List.mem_map.1 hs
      exact srcB_size (h3 y hy) hn
  · unfold wordsB
    have := ins_len x
    rw [List.length_append, List.length_cons, List.length_map]
    split <;> simp <;> omega
theorem wireB_size {x : S43} {n : Int} (h : wOk x n = true) (hn : n ≤ 1000) : (wireB x).size ≤ 1000 := by
  obtain ⟨h1, h2⟩ := words_facts h hn
  have h3 := joinS_size 8 (wordsB x) ⟨#[32]⟩ h1
  have e : (⟨#[32]⟩ : ByteArray).size = 1 := rfl
  rw [e] at h3
  have : (wordsB x).length * 9 ≤ 4 * 9 := Nat.mul_le_mul_right _ h2
  unfold wireB
  omega
theorem driveB_size {y : S66} (h0 : 0 ≤ y.f0.f1) (h1 : y.f0.f1 ≤ 100000) (h2 : 0 ≤ y.f1) (h3 : y.f1 ≤ 100000) : (driveB y).size ≤ 1000 := by
  unfold driveB
  simp only [ByteArray.size_append]
  have := addr_size y.f0.f0 y.f0.f1 h0 h1
  have := itoa_size y.f1 h2 h3
  have e1 : (⟨#[116, 111, 32]⟩ : ByteArray).size = 3 := rfl
  have e2 : (⟨#[32, 119]⟩ : ByteArray).size = 2 := rfl
  omega
def itemsB (l : List S43) (m : List S66) : List ByteArray := l.map wireB ++ m.map driveB
def netB (l : List S43) (m : List S66) : ByteArray := if (itemsB l m).length = 0 then ⟨#[45]⟩ else joinS (itemsB l m) ⟨#[32, 59, 32]⟩
theorem nOk_facts {l : List S43} {m : List S66} (h : nOk l m = true) : l.length ≤ 8 ∧ m.length ≤ 4 ∧ (∀ x ∈ l, wOk x l.length = true) ∧ (∀ y ∈ m, aOk y.f0.f0 y.f0.f1 = true ∧ 0 ≤ y.f1 ∧ y.f1 < (l.length : Int)) := by
  unfold nOk at h
  simp only [Bool.and_eq_true, decide_eq_true_eq] at h
  obtain ⟨h8, h4, hw, hd, ho⟩ := h
  refine ⟨h8, h4, fun x hx => List.all_eq_true.1 hw x hx, fun y hy => ?_⟩
  obtain ⟨i, hi, rfl⟩ := List.mem_iff_getElem.1 hy
  have hdi := (dA_iff l m m.length 0).1 hd i (by omega) (by omega)
  unfold dOk at hdi
  rw [List.getElem?_eq_getElem hi] at hdi
  simp only [Bool.and_eq_true] at hdi
  have hc := hdi.1
  unfold ncl pB at hc
  simp only [Bool.and_eq_true, decide_eq_true_eq] at hc
  exact ⟨hc.1.1, hc.2.1, hc.2.2⟩
theorem aOk_rng {k i : Int} (h : aOk k i = true) : 0 ≤ i ∧ i ≤ 100000 := by
  unfold aOk at h; simp only [Bool.and_eq_true, decide_eq_true_eq] at h; omega
theorem tn2_grown {α : Type} {d : Kd α} {e base : Nat} {ok : Nat → Prop} {v : Value} {xs : List α} {w W W' : World} {g ty : Nat} {X : Array Value} (h : Tn2 w g ty X W) (hR : d.R e W base ok v xs) (he : ty ≠ e) (hg : W.grownBy W' v.ownBlock) (hb : Below w.heap.size w W') : Tn2 w g ty X W' := ⟨blk_grown h.h hg (nt_own hR h.h he), hb⟩
set_option maxRecDepth 100000 in
set_option maxHeartbeats 12800000 in
theorem netTextOk (l : List S43) (m : List S66) (A B : Option Addr) (c d : Nat) (w : World) (hc : l.length ≤ c) (hd : m.length ≤ d) (hC : Kd.C k43 w A l.length l) (hD : Kd.C k66 w B m.length m) (hok : nOk l m = true) (ht : Tb w) :
    Calls Tryz.prog 9 #[.agg #[.slice A l.length c, .slice B m.length d]] w fun e w' => e = .returned (.string (netB l m)) ∧ Below w.heap.size w w' := by
  have hu31 := Tryz.underlying31
  have hu43 := Tryz.underlying43
  have hu41 := Tryz.underlying41
  have hu39 := Tryz.underlying39
  have hu66 := Tryz.underlying66
  have hT : Tn2 w w.heap.size 31 #[.slice A l.length c, .slice B m.length d] (w.alloc (.cells #[.slice A l.length c, .slice B m.length d] 31)) := ⟨heap_alloc_new _ _, al w _⟩
  have c23 := netOkC l m A B c d _ hc hd (Kd.C_below hC hT.bel) (Kd.C_below hD hT.bel)
  rw [hok] at c23
  obtain ⟨h8, h4, hW, hDr⟩ := nOk_facts hok
  have HW := aM_ hW
  have HDR := aM_ hDr
  clear hW hDr hok
  have i0 : (w.alloc (.cells #[.slice A l.length c, .slice B m.length d] 31)).cell? ⟨w.heap.size, 0, none⟩ = some (.slice A l.length c) := (kC_ hT.h 0).trans rfl
  have i1 : (w.alloc (.cells #[.slice A l.length c, .slice B m.length d] 31)).cell? ⟨w.heap.size, 1, none⟩ = some (.slice B m.length d) := (kC_ hT.h 1).trans rfl
  go_enter Tryz.func9, Tryz.ntmps9
  go_wp2_with fail
  refine c23.mono ?_
  rintro e w1 ⟨rfl, hb⟩
  replace hT := hT.below hb
  obtain ⟨g1, hg1⟩ : ∃ q, w.heap.size = q := ⟨_, rfl⟩
  rw [hg1] at hT
  clear hb c23 i0 i1
  have i0 : w1.cell? ⟨g1, 0, none⟩ = some (.slice A l.length c) := (kC_ hT.h 0).trans rfl
  try rw [hg1]
  clear hg1
  go_wp2
  go_loopw [3, 17] (fun tu i wr => ∃ (k : Nat) (u : Value), k ≤ l.length ∧ u = tu ∧ i = .int .i64 (k : Int) ∧ Tn2 w g1 31 #[.slice A l.length c, .slice B m.length d] wr ∧ Aside0 (Kd.R Kd.string 9 wr w.heap.size (fun _ => True) u ((l.take k).map wireB))) (fun _ i _ => l.length - (intOf i).toNat)
  case atStart => exact ⟨0, _, by omega, rfl, rfl, hT, ⟨Kd.R_nil _ _ _ _ _⟩⟩
  case round =>
    rename World => wo
    clear hT i0
    obtain ⟨k, u, hk, rfl, rfl, hT, hR⟩ := hrel
    by_cases hkl : k < l.length
    · have d1 : decide ((k : Int) < (l.length : Int)) = true := by simp; omega
      obtain ⟨ad, rfl, e0, e1, e2, e3, e4, e5, e6, e7, e8, e9, e10, e11⟩ := at_T43 hC (k : Int) (by omega) (by omega)
      rw [Int.toNat_natCast] at e0 e1 e2 e3 e4 e5 e6 e7 e8 e9 e10 e11
      have far : ∀ {a : Addr} {v : Value}, w.cell? a = some v → wo.cell? a = some v := fun e => (hT.bel.cell (bL_ _ _ e)).trans e
      replace e0 := far e0
      replace e1 := far e1
      replace e2 := far e2
      replace e3 := far e3
      replace e4 := far e4
      replace e5 := far e5
      replace e6 := far e6
      replace e7 := far e7
      replace e8 := far e8
      replace e9 := far e9
      replace e10 := far e10
      replace e11 := far e11
      clear far
      have hx : Aside0 (rd_T43 l (k : Int) = l[k]) := ⟨by unfold rd_T43; rw [Int.toNat_natCast, List.getD_eq_getElem?_getD, List.getElem?_eq_getElem hkl]; rfl⟩
      have hwx : Aside0 (wOk (rd_T43 l (k : Int)) l.length = true) := ⟨by rw [hx.out]; exact HW.out _ (List.getElem_mem hkl)⟩
      generalize rd_T43 l (k : Int) = x at *
      have htr := ht.at_ hT.bel
      go_upto_region 7 with (fail)
      have hZ : Tn2 wo wo.heap.size 43 #[.int .i64 x.f0, .int .i64 x.f1, .int .i64 x.f2.f0, .int .i64 x.f2.f1, .int .i64 x.f2.f2.f0, .int .i64 x.f2.f2.f1, .bool x.f2.f3, .int .i64 x.f3.f0, .int .i64 x.f3.f1, .int .i64 x.f3.f2.f0, .int .i64 x.f3.f2.f1, .bool x.f3.f3] (wo.alloc (.cells #[.int .i64 x.f0, .int .i64 x.f1, .int .i64 x.f2.f0, .int .i64 x.f2.f1, .int .i64 x.f2.f2.f0, .int .i64 x.f2.f2.f1, .bool x.f2.f3, .int .i64 x.f3.f0, .int .i64 x.f3.f1, .int .i64 x.f3.f2.f0, .int .i64 x.f3.f2.f1, .bool x.f3.f3] 43)) := ⟨heap_alloc_new wo _, al wo _⟩
      clear e0 e1 e2 e3 e4 e5 e6 e7 e8 e9 e10 e11
      generalize wo.alloc (Obj.cells _ 43) = w2 at hZ ⊢
      obtain ⟨gz, hgz⟩ : ∃ q, wo.heap.size = q := ⟨_, rfl⟩
      have HGZ := aM_ hgz
      rw [hgz] at hZ ⊢
      clear hgz
      obtain ⟨kw, hkw⟩ : ∃ q, rdOf ByteArray.empty kindL x.f0 = q := ⟨_, rfl⟩
      have KW := aM_ hkw
      clear hkw
      have hZd := hZ.below (b1_ (Below.refl _ _))
      clear hZ
      refine start_ (n := 6) (S := fun w' => w'.cell? ⟨gz, 0, none⟩ = some (.int .i64 x.f0) ∧ Tn2 wo gz 43 #[.int .i64 x.f0, .int .i64 x.f1, .int .i64 x.f2.f0, .int .i64 x.f2.f1, .int .i64 x.f2.f2.f0, .int .i64 x.f2.f2.f1, .bool x.f2.f3, .int .i64 x.f3.f0, .int .i64 x.f3.f1, .int .i64 x.f3.f2.f0, .int .i64 x.f3.f2.f1, .bool x.f3.f3] w') (ds := [3, 4]) #[F_, F_, F_, F_, F_, F_] (by kernel_rfl) rfl rfl ⟨(kC_ hZd.h 0).trans rfl, hZd⟩ (fun hHeld => ?_)
      refine pure_ (i := 1) (N := some 22) (v := ?_) (a' := ?_) #[F_, T_, F_, F_, F_, F_] rfl rfl (by kernel_rfl) (fun _ _ _ h => h) (Or.inl ⟨by rfl, ?_⟩) ?_ ?_
      rotate_left
      · intro w'
        go_simp
        with_reducible rfl
      rotate_left
      · simp only [Act.put, sA_, sB_, sC_, i64_w, i32_w]
        rfl
      refine take_ (i := 2) (N := some 23) (v := ?_) (a' := ?_) #[F_, T_, T_, F_, F_, F_] rfl rfl (by kernel_rfl) (fun _ _ _ h => h) (Or.inl ⟨by rfl, ?_⟩) hHeld ?_ ?_
      rotate_left
      · rintro w' ⟨s0, s1⟩
        go_simp
        with_reducible rfl
      rotate_left
      · simp only [Act.put, sA_, sB_, sC_, i64_w, i32_w]
        rfl
      refine one_ (i := 0) (N := some 21) #[T_, T_, T_, F_, F_, F_] rfl rfl (by kernel_rfl) (by decide) (fun K hK => ?_)
      generalize w2.drew = wv at hZd hHeld ⊢
      refine goes_ Tryz.func24 (by kernel_rfl) rfl #[] (by rfl) rfl rfl (by simp only [mA_, List.map_cons, List.map_nil]) ?_
      with_reducible refine (w_names _).mono ?_
      rintro e w3 ⟨rfl, hw3⟩
      refine ⟨_, rfl, ?_⟩
      have hM : w3.heap[wv.heap.size]? = some (.map wns 8) := by rw [← hw3]; exact heap_alloc_at _ _
      have hX3 : Tn2 wo gz 43 #[.int .i64 x.f0, .int .i64 x.f1, .int .i64 x.f2.f0, .int .i64 x.f2.f1, .int .i64 x.f2.f2.f0, .int .i64 x.f2.f2.f1, .bool x.f2.f3, .int .i64 x.f3.f0, .int .i64 x.f3.f1, .int .i64 x.f3.f2.f0, .int .i64 x.f3.f2.f1, .bool x.f3.f3] w3 := hHeld.2.below (by rw [← hw3]; exact al _ _)
      have hl := look_nm x.f0 (wk_facts hwx.out).1 hM
      rw [KW.out] at hl
      clear hw3 hM
      refine hK.out _ _ ⟨(kC_ hX3.h 0).trans rfl, hX3⟩ (fun hHeld => ?_)
      clear hK K
      refine norm_ (a' := ?_) ?_ ?_
      rotate_left
      · show Act.put _ (some 21) _ = _
        simp only [Act.put, sA_, sB_, sC_, i64_w, i32_w]
        rfl
      refine last_ (i := 3) (N := some 24) #[T_, T_, T_, T_, F_, F_] rfl rfl (by kernel_rfl) (by decide) (fun K hK => ?_)
      refine value_ (w1 := ?_) (v := ?_) (by rfl) rfl ?_ ?_
      rotate_left 2
      · go_simp
        constructor
        · rfl
        · rfl
      refine hK.out _ _ ?_
      clear hK K
      refine norm_ (a' := ?_) ?_ ?_
      rotate_left
      · show Act.put _ (some 24) _ = _
        simp only [Act.put, sA_, sB_, sC_, i64_w, i32_w]
        rfl
      refine last_ (i := 4) (N := some 25) #[T_, T_, T_, T_, T_, F_] rfl rfl (by kernel_rfl) (by decide) (fun K hK => ?_)
      refine Kd.R_lit_step Kd.string (w0 := wo) wo.heap.size 9 (by rfl) (N := 25) rfl (xs := [kw]) (inner := [.string kw]) (ok := fun _ => True) (okp := fun _ => True) ?hr ?hp (fun _ hk => hk) trivial ?hb ?hs (by simp) ?_
      (case hr => first | (go_simp; done) | (go_simp; rfl))
      (case hp => exact (Reps.one (show Kd.M Kd.string _ _ _ kw [.string kw] from rfl) (Reps.none _ _)))
      (case hb => exact hX3.bel)
      (case hs => exact hX3.bel.size)
      intro v4 w4 ho hb hg hat
      have hZ4 : Tn2 wo gz 43 #[.int .i64 x.f0, .int .i64 x.f1, .int .i64 x.f2.f0, .int .i64 x.f2.f1, .int .i64 x.f2.f2.f0, .int .i64 x.f2.f2.f1, .bool x.f2.f3, .int .i64 x.f3.f0, .int .i64 x.f3.f1, .int .i64 x.f3.f2.f0, .int .i64 x.f3.f2.f1, .bool x.f3.f3] w4 := ⟨blk_grown hX3.h hg (by simp), hb⟩
      clear hg hat hb
      refine hK.out _ _ ?_
      clear hK K
      refine norm_ (a' := ?_) ?_ ?_
      rotate_left
      · show Act.put _ (some 25) _ = _
        simp only [Act.put, sA_, sB_, sC_, i64_w, i32_w]
        rfl
      refine pure_ (i := 5) (N := some 6) (v := ?_) (a' := ?_) #[T_, T_, T_, T_, T_, T_] rfl rfl (by kernel_rfl) (fun _ _ _ h => h) (Or.inl ⟨by rfl, ?_⟩) ?_ ?_
      rotate_left
      · intro w'
        go_simp
        with_reducible rfl
      rotate_left
      · simp only [Act.put, sA_, sB_, sC_, i64_w, i32_w]
        rfl
      refine done_ (by kernel_rfl) ?_
      clear hZd
      have ho4 := aM_ ho
      clear ho
      have hin := aM_ (wk_facts hwx.out).2.2
      have hnn := aM_ (wk_facts hwx.out).2.1
      have hwsx : Aside0 (wordsB x = (kw :: (if (blB x.f0 && decide (x.f0 ≤ 3)) = true then [itoaS x.f1] else [])) ++ (insL x).map srcB) := ⟨by unfold wordsB; rw [KW.out]⟩
      have hfx := words_facts hwx.out (by omega)
      have HFX := aM_ hfx
      clear hfx
      have hZd := hZ4.below (b1_ (Below.refl _ _))
      have hOd := aM_ (rD_ ho4.out)
      clear hZ4 ho4
      have c25 := fun W => blockC x W
      go_upto_region 8 with (fail)
      cases hbl : blB x.f0 with
      | false =>
        rw [hbl] at c25
        refine start_ (n := 9) (S := fun w' => w'.cell? ⟨gz, 0, none⟩ = some (.int .i64 x.f0) ∧ w'.cell? ⟨gz, 1, none⟩ = some (.int .i64 x.f1) ∧ w'.cell? ⟨gz, 2, none⟩ = some (.int .i64 x.f2.f0) ∧ w'.cell? ⟨gz, 3, none⟩ = some (.int .i64 x.f2.f1) ∧ w'.cell? ⟨gz, 4, none⟩ = some (.int .i64 x.f2.f2.f0) ∧ w'.cell? ⟨gz, 5, none⟩ = some (.int .i64 x.f2.f2.f1) ∧ w'.cell? ⟨gz, 6, none⟩ = some (.bool x.f2.f3) ∧ w'.cell? ⟨gz, 7, none⟩ = some (.int .i64 x.f3.f0) ∧ w'.cell? ⟨gz, 8, none⟩ = some (.int .i64 x.f3.f1) ∧ w'.cell? ⟨gz, 9, none⟩ = some (.int .i64 x.f3.f2.f0) ∧ w'.cell? ⟨gz, 10, none⟩ = some (.int .i64 x.f3.f2.f1) ∧ w'.cell? ⟨gz, 11, none⟩ = some (.bool x.f3.f3) ∧ Tn2 wo gz 43 #[.int .i64 x.f0, .int .i64 x.f1, .int .i64 x.f2.f0, .int .i64 x.f2.f1, .int .i64 x.f2.f2.f0, .int .i64 x.f2.f2.f1, .bool x.f2.f3, .int .i64 x.f3.f0, .int .i64 x.f3.f1, .int .i64 x.f3.f2.f0, .int .i64 x.f3.f2.f1, .bool x.f3.f3] w' ∧ Aside0 (Kd.R Kd.string 9 w' wo.heap.size (fun _ => True) v4 [kw])) (ds := []) #[F_, F_, F_, F_, F_, F_, F_, F_, F_] (by kernel_rfl) rfl rfl ⟨(kC_ hZd.h 0).trans rfl, (kC_ hZd.h 1).trans rfl, (kC_ hZd.h 2).trans rfl, (kC_ hZd.h 3).trans rfl, (kC_ hZd.h 4).trans rfl, (kC_ hZd.h 5).trans rfl, (kC_ hZd.h 6).trans rfl, (kC_ hZd.h 7).trans rfl, (kC_ hZd.h 8).trans rfl, (kC_ hZd.h 9).trans rfl, (kC_ hZd.h 10).trans rfl, (kC_ hZd.h 11).trans rfl, hZd, hOd⟩ (fun hHeld => ?_)
        refine take_ (i := 0) (N := some 26) (v := ?_) (a' := ?_) #[T_, F_, F_, F_, F_, F_, F_, F_, F_] rfl rfl (by kernel_rfl) (fun _ _ _ h => h) (Or.inl ⟨by rfl, ?_⟩) hHeld ?_ ?_
        rotate_left
        · rintro w' ⟨s0, s1, s2, s3, s4, s5, s6, s7, s8, s9, s10, s11, s12, s13⟩
          go_simp
          with_reducible rfl
        rotate_left
        · simp only [Act.put, sA_, sB_, sC_, i64_w, i32_w]
          rfl
        refine one_ (i := 1) (N := some 27) #[T_, T_, F_, F_, F_, F_, F_, F_, F_] rfl rfl (by kernel_rfl) (by decide) (fun K hK => ?_)
        refine goes_ Tryz.func25 (by kernel_rfl) rfl #[.agg #[.int .i64 x.f0, .int .i64 x.f1, .int .i64 x.f2.f0, .int .i64 x.f2.f1, .int .i64 x.f2.f2.f0, .int .i64 x.f2.f2.f1, .bool x.f2.f3, .int .i64 x.f3.f0, .int .i64 x.f3.f1, .int .i64 x.f3.f2.f0, .int .i64 x.f3.f2.f1, .bool x.f3.f3]] (by rfl) rfl rfl (by simp only [mA_, List.map_cons, List.map_nil]; rfl) ?_
        with_reducible refine (c25 _).mono ?_
        rintro e w5 ⟨rfl, hb5⟩
        refine ⟨_, rfl, ?_⟩
        have hX5 := hHeld.2.2.2.2.2.2.2.2.2.2.2.2.1.below hb5
        have hO5 := aM_ (Kd.R_below hHeld.2.2.2.2.2.2.2.2.2.2.2.2.2.out hb5)
        refine hK.out _ _ ⟨(kC_ hX5.h 0).trans rfl, (kC_ hX5.h 1).trans rfl, (kC_ hX5.h 2).trans rfl, (kC_ hX5.h 3).trans rfl, (kC_ hX5.h 4).trans rfl, (kC_ hX5.h 5).trans rfl, (kC_ hX5.h 6).trans rfl, (kC_ hX5.h 7).trans rfl, (kC_ hX5.h 8).trans rfl, (kC_ hX5.h 9).trans rfl, (kC_ hX5.h 10).trans rfl, (kC_ hX5.h 11).trans rfl, hX5, hO5⟩ (fun hHeld => ?_)
        clear hK K
        refine norm_ (a' := ?_) ?_ ?_
        rotate_left
        · show Act.put _ (some 27) _ = _
          simp only [Act.put, sA_, sB_, sC_, i64_w, i32_w]
          rfl
        refine pure_ (i := 2) (N := some 28) (v := ?_) (a' := ?_) #[T_, T_, T_, F_, F_, F_, F_, F_, F_] rfl rfl (by kernel_rfl) (fun _ _ _ h => h) (Or.inl ⟨by rfl, ?_⟩) ?_ ?_
        rotate_left
        · intro w'
          go_simp
          with_reducible rfl
        rotate_left
        · simp only [Act.put, sA_, sB_, sC_, i64_w, i32_w]
          rfl
        refine pure_ (i := 3) (N := some 29) (v := undef) (a' := ?_) #[T_, T_, T_, T_, F_, F_, F_, F_, F_] rfl rfl (by kernel_rfl) (fun _ _ _ h => h) (Or.inr ⟨by rfl, rfl⟩) ?_ ?_
        rotate_left
        · simp only [Act.put, sA_, sB_, sC_, i64_w, i32_w]
          rfl
        refine pure_ (i := 4) (N := some 30) (v := undef) (a' := ?_) #[T_, T_, T_, T_, T_, F_, F_, F_, F_] rfl rfl (by kernel_rfl) (fun _ _ _ h => h) (Or.inr ⟨by rfl, rfl⟩) ?_ ?_
        rotate_left
        · simp only [Act.put, sA_, sB_, sC_, i64_w, i32_w]
          rfl
        refine pure_ (i := 5) (N := some 31) (v := undef) (a' := ?_) #[T_, T_, T_, T_, T_, T_, F_, F_, F_] rfl rfl (by kernel_rfl) (fun _ _ _ h => h) (Or.inr ⟨by rfl, rfl⟩) ?_ ?_
        rotate_left
        · simp only [Act.put, sA_, sB_, sC_, i64_w, i32_w]
          rfl
        refine pure_ (i := 6) (N := some 32) (v := undef) (a' := ?_) #[T_, T_, T_, T_, T_, T_, T_, F_, F_] rfl rfl (by kernel_rfl) (fun _ _ _ h => h) (Or.inr ⟨by rfl, rfl⟩) ?_ ?_
        rotate_left
        · simp only [Act.put, sA_, sB_, sC_, i64_w, i32_w]
          rfl
        refine pure_ (i := 7) (N := some 33) (v := undef) (a' := ?_) #[T_, T_, T_, T_, T_, T_, T_, T_, F_] rfl rfl (by kernel_rfl) (fun _ _ _ h => h) (Or.inr ⟨by rfl, rfl⟩) ?_ ?_
        rotate_left
        · simp only [Act.put, sA_, sB_, sC_, i64_w, i32_w]
          rfl
        refine pure_ (i := 8) (N := some 34) (v := ?_) (a' := ?_) #[T_, T_, T_, T_, T_, T_, T_, T_, T_] rfl rfl (by kernel_rfl) (fun _ _ _ h => h) (Or.inl ⟨by rfl, ?_⟩) ?_ ?_
        rotate_left
        · intro w'
          go_simp
          with_reducible rfl
        rotate_left
        · simp only [Act.put, sA_, sB_, sC_, i64_w, i32_w]
          rfl
        refine done_ (by kernel_rfl) ?_
        have hX := hHeld.2.2.2.2.2.2.2.2.2.2.2.2.1
        have hO := hHeld.2.2.2.2.2.2.2.2.2.2.2.2.2
        clear hHeld hZd hOd c25
        have HH : Aside0 ((kw :: (if (blB x.f0 && decide (x.f0 ≤ 3)) = true then [itoaS x.f1] else [])) = [kw]) := ⟨by rw [show (blB x.f0 && decide (x.f0 ≤ 3)) = false by rw [hbl]; rfl]; rfl⟩
        have hwl : Aside0 (wordsB x = [kw] ++ (insL x).map srcB) := ⟨by rw [hwsx.out, HH.out]⟩
        have hwn : Aside0 (([kw]).length ≤ 2) := ⟨by simp⟩
        obtain ⟨ws, hws⟩ : ∃ q, ([kw] : List ByteArray) = q := ⟨_, rfl⟩
        rw [hws] at hwl hwn hO
        clear hws hwsx HH
        have c28 := fun W => impl_Wire_inputs.calls x.f0 x.f1 x.f2.f0 x.f2.f1 x.f2.f2.f0 x.f2.f2.f1 x.f2.f3 x.f3.f0 x.f3.f1 x.f3.f2.f0 x.f3.f2.f1 x.f3.f3 _ W (insS x)
        have hil := aM_ (ins_len x)
        generalize insL x = xi at c28 hwl hin hil
        (obtain ⟨j0, j1, j2, j3, j4, j5, j6, j7, j8, j9, j10, j11⟩ := HFnNetSame.cells12 hX.h)
        go_wp2_with fail
        refine (c28 _).mono ?_
        rintro e w10 ⟨v10, rfl, hI, hb⟩
        replace hX := hX.below hb
        replace hO := aM_ (Kd.R_below hO.out hb)
        clear hb c28 j0 j1 j2 j3 j4 j5 j6 j7 j8 j9 j10 j11
        replace hI := aM_ (Kd.R_lower hI (Nat.zero_le _))
        obtain ⟨P, p, rfl⟩ := Kd.R_slice hI.out
        go_wp2
        go_loopw [6, 44] (fun tv i wr => ∃ (j : Nat) (v : Value), j ≤ xi.length ∧ v = tv ∧ i = .int .i64 (j : Int) ∧ Tn2 wo gz 43 #[.int .i64 x.f0, .int .i64 x.f1, .int .i64 x.f2.f0, .int .i64 x.f2.f1, .int .i64 x.f2.f2.f0, .int .i64 x.f2.f2.f1, .bool x.f2.f3, .int .i64 x.f3.f0, .int .i64 x.f3.f1, .int .i64 x.f3.f2.f0, .int .i64 x.f3.f2.f1, .bool x.f3.f3] wr ∧ Aside0 (Kd.R Kd.string 9 wr wo.heap.size (fun _ => True) v (ws ++ (xi.take j).map srcB)) ∧ Aside0 (Kd.R k41 41 wr 0 (fun _ => True) (.slice P xi.length p) xi)) (fun _ i _ => xi.length - (intOf i).toNat)
        case atStart => exact ⟨0, _, by omega, rfl, rfl, hX, ⟨by rw [List.take_zero, List.map_nil, List.append_nil]; exact hO.out⟩, hI⟩
        case round =>
          clear hX hO hI
          obtain ⟨j, v, hj, rfl, rfl, hX, hO, hI⟩ := hrel
          by_cases hjl : j < xi.length
          · have d2 : decide ((j : Int) < (xi.length : Int)) = true := by simp; omega
            obtain ⟨ae, rfl, s0, s1, s2, s3, s4⟩ := at_T41 (Kd.R_reads' hI.out).2.2 (j : Int) (by omega) (by omega)
            rw [Int.toNat_natCast] at s0 s1 s2 s3 s4
            have hs : Aside0 (rd_T41 xi (j : Int) = xi[j]) := ⟨by unfold rd_T41; rw [Int.toNat_natCast, List.getD_eq_getElem?_getD, List.getElem?_eq_getElem hjl]; rfl⟩
            have hso : Aside0 (sOkS (rd_T41 xi (j : Int)) l.length = true) := ⟨by rw [hs.out]; exact hin.out _ (List.getElem_mem hjl)⟩
            have HJ : Aside0 (ws ++ (xi.take (j + 1)).map srcB = (ws ++ (xi.take j).map srcB) ++ [srcB (rd_T41 xi (j : Int))]) := ⟨by rw [hs.out, List.take_succ_eq_append_getElem hjl, List.map_append, List.map_singleton, List.append_assoc]⟩
            have HJL : Aside0 ((ws ++ (xi.take j).map srcB).length ≤ 100) := ⟨by have := hwn.out; have := hil.out; rw [List.length_append, List.length_map, lT_]; omega⟩
            clear hs
            generalize rd_T41 xi (j : Int) = sx at *
            obtain ⟨wj, hwj⟩ : ∃ q, ws ++ (xi.take j).map srcB = q := ⟨_, rfl⟩
            rw [hwj] at hO HJ HJL
            clear hwj
            go_upto_region 13 with (fail)
            have hQ : Tn2 wr wr.heap.size 41 #[.int .i64 sx.f0, .int .i64 sx.f1, .int .i64 sx.f2.f0, .int .i64 sx.f2.f1, .bool sx.f3] (wr.alloc (.cells #[.int .i64 sx.f0, .int .i64 sx.f1, .int .i64 sx.f2.f0, .int .i64 sx.f2.f1, .bool sx.f3] 41)) := ⟨heap_alloc_new wr _, al wr _⟩
            replace hX := hX.below hQ.bel
            replace hO := aM_ (Kd.R_below hO.out hQ.bel)
            replace hI := aM_ (Kd.R_below hI.out hQ.bel)
            replace hQ := hQ.h
            clear s0 s1 s2 s3 s4
            generalize wr.alloc (Obj.cells _ 41) = w11 at hX hO hI hQ ⊢
            obtain ⟨gq, hgq⟩ : ∃ q, wr.heap.size = q := ⟨_, rfl⟩
            rw [hgq] at hQ ⊢
            clear hgq
            (obtain ⟨s0, s1, s2, s3, s4⟩ := HFnNetSame.cells5 hQ)
            have cs := srcTextC sx l.length hso.out (by omega) _ (htr.at_ hX.bel)
            go_wp2_with fail
            refine cs.mono ?_
            rintro e w12 ⟨rfl, hb⟩
            replace hX := hX.below hb
            replace hO := aM_ (Kd.R_below hO.out hb)
            replace hI := aM_ (Kd.R_below hI.out hb)
            clear hb cs s0 s1 s2 s3 s4 hQ
            obtain ⟨sb, hsb⟩ : ∃ q, srcB sx = q := ⟨_, rfl⟩
            rw [hsb] at HJ ⊢
            clear hsb
            have hil2 := hil.out
            go_wp2_with (first | ((with_reducible refine gate_dst (N := 52) rfl ?_); refine Kd.R_append Kd.string (w0 := wo) wo.heap.size rfl (.tmp 48) (.tmp 51) 52 9 (.string ⟨#[]⟩) 16 rfl Tryz.underlying52 info9 rfl (by decide) (by omega) v wj sb [.string sb] (fun _ => True) (fun _ => False) rfl (by first | (go_simp; done) | (go_simp; rfl)) ?aP (fun _ hk_ => hk_.elim) ?aF ?aO ?aB ?aS ?aL ?_; (case aP => exact rfl); (case aF => exact fun _ _ => trivial); (case aO => exact hO.out); (case aB => exact hX.bel); (case aS => exact (hX.bel).size); (case aL => have := HJL.out; omega); intro v13 w13 ho hb hg hat; have hX13 := tn2_grown hX hO.out (by decide) hg hb; have hI13 := aM_ (Kd.R_over' hI.out (Kd.R_typed hO.out) (by decide) hg); have hO13 := aM_ ho; clear ho hb hg hat hX hO hI))
            go_roundw
            case rel => exact ⟨j + 1, _, by omega, rfl, by go_num, hX13, ⟨by rw [HJ.out]; exact hO13.out⟩, hI13⟩
            case measure => first | (simp [intOf]; done) | (simp [intOf]; omega)
          · obtain rfl : j = xi.length := by omega
            rw [List.take_of_length_le (Nat.le_refl _), ← hwl.out] at hO
            have d2 : decide ((xi.length : Int) < (xi.length : Int)) = false := by simp
            have hwp : Aside0 (1 ≤ (wordsB x).length) := ⟨by unfold wordsB; simp⟩
            have cj := joinC v (wordsB x) ⟨#[32]⟩ wr hO.out hwp.out (by have := HFX.out.2; omega) (join_fit _ _ (fun y hy => by have := HFX.out.1 y hy; omega) (by have := HFX.out.2; omega) (by decide))
            have eb : joinS (wordsB x) ⟨#[32]⟩ = wireB x := rfl
            rw [eb] at cj
            clear eb hI hjl hj
            have HK : Aside0 ((l.take (k + 1)).map wireB = (l.take k).map wireB ++ [wireB x]) := ⟨by rw [hx.out, List.take_succ_eq_append_getElem hkl, List.map_append, List.map_singleton]⟩
            have HKL : Aside0 (((l.take k).map wireB).length ≤ 100) := ⟨by rw [List.length_map, lT_]; omega⟩
            obtain ⟨xb, hxb⟩ : ∃ q, wireB x = q := ⟨_, rfl⟩
            rw [hxb] at cj HK
            clear hxb
            obtain ⟨xk, hxk⟩ : ∃ q, (l.take k).map wireB = q := ⟨_, rfl⟩
            rw [hxk] at hR HK HKL
            clear hxk
            go_wp2_with fail
            refine cj.mono ?_
            rintro e w15 ⟨rfl, hb⟩
            replace hX := hX.below hb
            have hR15 := aM_ (Kd.R_below hR.out hX.bel)
            have hT15 := hT.below hX.bel
            clear hb cj hO hR
            go_wp2_with (first | ((with_reducible refine gate_dst (N := 58) rfl ?_); refine Kd.R_append Kd.string (w0 := w) w.heap.size rfl (.tmp 54) (.tmp 57) 52 9 (.string ⟨#[]⟩) 16 rfl Tryz.underlying52 info9 rfl (by decide) (by omega) u xk xb [.string xb] (fun _ => True) (fun _ => False) rfl (by first | (go_simp; done) | (go_simp; rfl)) ?aP (fun _ hk_ => hk_.elim) ?aF ?aO ?aB ?aS ?aL ?_; (case aP => exact rfl); (case aF => exact fun _ _ => trivial); (case aO => exact hR15.out); (case aB => exact hT15.bel); (case aS => exact (hT15.bel).size); (case aL => have := HKL.out; omega); intro v16 w16 ho hb hg hat; have hT16 := tn2_grown hT15 hR15.out (by decide) hg hb; have hO16 := aM_ ho; clear ho hb hg hat hX hT hT15 hR15))
            go_roundw
            case rel => exact ⟨k + 1, _, by omega, rfl, by go_num, hT16, ⟨by rw [HK.out]; exact hO16.out⟩⟩
            case measure => first | (simp [intOf]; done) | (simp [intOf]; omega)
      | true =>
        rw [hbl] at c25
        have hb15 : 1 ≤ x.f0 ∧ x.f0 ≤ 5 := by unfold blB at hbl; simpa using hbl
        obtain ⟨T, fn, bi, hfi, hme, hcf, hcn⟩ := blk_facts x.f0 hb15
        clear hb15
        by_cases h3 : x.f0 ≤ 3
        · rw [dT_ h3] at hcn
          refine start_ (n := 9) (S := fun w' => w'.cell? ⟨gz, 0, none⟩ = some (.int .i64 x.f0) ∧ w'.cell? ⟨gz, 1, none⟩ = some (.int .i64 x.f1) ∧ w'.cell? ⟨gz, 2, none⟩ = some (.int .i64 x.f2.f0) ∧ w'.cell? ⟨gz, 3, none⟩ = some (.int .i64 x.f2.f1) ∧ w'.cell? ⟨gz, 4, none⟩ = some (.int .i64 x.f2.f2.f0) ∧ w'.cell? ⟨gz, 5, none⟩ = some (.int .i64 x.f2.f2.f1) ∧ w'.cell? ⟨gz, 6, none⟩ = some (.bool x.f2.f3) ∧ w'.cell? ⟨gz, 7, none⟩ = some (.int .i64 x.f3.f0) ∧ w'.cell? ⟨gz, 8, none⟩ = some (.int .i64 x.f3.f1) ∧ w'.cell? ⟨gz, 9, none⟩ = some (.int .i64 x.f3.f2.f0) ∧ w'.cell? ⟨gz, 10, none⟩ = some (.int .i64 x.f3.f2.f1) ∧ w'.cell? ⟨gz, 11, none⟩ = some (.bool x.f3.f3) ∧ Tn2 wo gz 43 #[.int .i64 x.f0, .int .i64 x.f1, .int .i64 x.f2.f0, .int .i64 x.f2.f1, .int .i64 x.f2.f2.f0, .int .i64 x.f2.f2.f1, .bool x.f2.f3, .int .i64 x.f3.f0, .int .i64 x.f3.f1, .int .i64 x.f3.f2.f0, .int .i64 x.f3.f2.f1, .bool x.f3.f3] w' ∧ Aside0 (Kd.R Kd.string 9 w' wo.heap.size (fun _ => True) v4 [kw])) (ds := [6, 7]) #[F_, F_, F_, F_, F_, F_, F_, F_, F_] (by kernel_rfl) rfl rfl ⟨(kC_ hZd.h 0).trans rfl, (kC_ hZd.h 1).trans rfl, (kC_ hZd.h 2).trans rfl, (kC_ hZd.h 3).trans rfl, (kC_ hZd.h 4).trans rfl, (kC_ hZd.h 5).trans rfl, (kC_ hZd.h 6).trans rfl, (kC_ hZd.h 7).trans rfl, (kC_ hZd.h 8).trans rfl, (kC_ hZd.h 9).trans rfl, (kC_ hZd.h 10).trans rfl, (kC_ hZd.h 11).trans rfl, hZd, hOd⟩ (fun hHeld => ?_)
          refine take_ (i := 0) (N := some 26) (v := ?_) (a' := ?_) #[T_, F_, F_, F_, F_, F_, F_, F_, F_] rfl rfl (by kernel_rfl) (fun _ _ _ h => h) (Or.inl ⟨by rfl, ?_⟩) hHeld ?_ ?_
          rotate_left
          · rintro w' ⟨s0, s1, s2, s3, s4, s5, s6, s7, s8, s9, s10, s11, s12, s13⟩
            go_simp
            with_reducible rfl
          rotate_left
          · simp only [Act.put, sA_, sB_, sC_, i64_w, i32_w]
            rfl
          refine one_ (i := 1) (N := some 27) #[T_, T_, F_, F_, F_, F_, F_, F_, F_] rfl rfl (by kernel_rfl) (by decide) (fun K hK => ?_)
          refine goes_ Tryz.func25 (by kernel_rfl) rfl #[.agg #[.int .i64 x.f0, .int .i64 x.f1, .int .i64 x.f2.f0, .int .i64 x.f2.f1, .int .i64 x.f2.f2.f0, .int .i64 x.f2.f2.f1, .bool x.f2.f3, .int .i64 x.f3.f0, .int .i64 x.f3.f1, .int .i64 x.f3.f2.f0, .int .i64 x.f3.f2.f1, .bool x.f3.f3]] (by rfl) rfl rfl (by simp only [mA_, List.map_cons, List.map_nil]; rfl) ?_
          with_reducible refine (c25 _).mono ?_
          rintro e w5 ⟨rfl, hb5⟩
          refine ⟨_, rfl, ?_⟩
          have hX5 := hHeld.2.2.2.2.2.2.2.2.2.2.2.2.1.below hb5
          have hO5 := aM_ (Kd.R_below hHeld.2.2.2.2.2.2.2.2.2.2.2.2.2.out hb5)
          refine hK.out _ _ ⟨(kC_ hX5.h 0).trans rfl, (kC_ hX5.h 1).trans rfl, (kC_ hX5.h 2).trans rfl, (kC_ hX5.h 3).trans rfl, (kC_ hX5.h 4).trans rfl, (kC_ hX5.h 5).trans rfl, (kC_ hX5.h 6).trans rfl, (kC_ hX5.h 7).trans rfl, (kC_ hX5.h 8).trans rfl, (kC_ hX5.h 9).trans rfl, (kC_ hX5.h 10).trans rfl, (kC_ hX5.h 11).trans rfl, hX5, hO5⟩ (fun hHeld => ?_)
          clear hK K
          refine norm_ (a' := ?_) ?_ ?_
          rotate_left
          · show Act.put _ (some 27) _ = _
            simp only [Act.put, sA_, sB_, sC_, i64_w, i32_w]
            rfl
          refine pure_ (i := 2) (N := some 28) (v := ?_) (a' := ?_) #[T_, T_, T_, F_, F_, F_, F_, F_, F_] rfl rfl (by kernel_rfl) (fun _ _ _ h => h) (Or.inl ⟨by rfl, ?_⟩) ?_ ?_
          rotate_left
          · intro w'
            go_simp
            with_reducible rfl
          rotate_left
          · simp only [Act.put, sA_, sB_, sC_, i64_w, i32_w]
            rfl
          refine pure_ (i := 4) (N := some 30) (v := ?_) (a' := ?_) #[T_, T_, T_, F_, T_, F_, F_, F_, F_] rfl rfl (by kernel_rfl) (fun _ _ _ h => h) (Or.inl ⟨by rfl, ?_⟩) ?_ ?_
          rotate_left
          · intro w'
            go_simp
            with_reducible rfl
          rotate_left
          · simp only [Act.put, sA_, sB_, sC_, i64_w, i32_w]
            rfl
          refine take_ (i := 5) (N := some 31) (v := ?_) (a' := ?_) #[T_, T_, T_, F_, T_, T_, F_, F_, F_] rfl rfl (by kernel_rfl) (fun _ _ _ h => h) (Or.inl ⟨by rfl, ?_⟩) hHeld ?_ ?_
          rotate_left
          · rintro w' ⟨s0, s1, s2, s3, s4, s5, s6, s7, s8, s9, s10, s11, s12, s13⟩
            go_simp
            with_reducible rfl
          rotate_left
          · simp only [Act.put, sA_, sB_, sC_, i64_w, i32_w]
            rfl
          refine one_ (i := 3) (N := some 29) #[T_, T_, T_, T_, T_, T_, F_, F_, F_] rfl rfl (by kernel_rfl) (by decide) (fun K hK => ?_)
          refine goes_ Tryz.func26 (by kernel_rfl) rfl #[] (by rfl) rfl rfl (by simp only [mA_, List.map_cons, List.map_nil]) ?_
          with_reducible refine (w_workings _).mono ?_
          rintro e w6 ⟨rfl, hw6⟩
          refine ⟨_, rfl, ?_⟩
          have hM : w6.heap[w5.heap.size]? = some (.map wks 5) := by rw [← hw6]; exact heap_alloc_at _ _
          have hb6 : Below w5.heap.size w5 w6 := by rw [← hw6]; exact al _ _
          have hX6 := hHeld.2.2.2.2.2.2.2.2.2.2.2.2.1.below hb6
          have hO6 := aM_ (Kd.R_below hHeld.2.2.2.2.2.2.2.2.2.2.2.2.2.out hb6)
          have hl := look_hit w6 Tryz.underlying58 Tryz.underlying3 hM x.f0 false hfi
          simp only [Bool.false_eq_true, if_false] at hl
          clear hw6 hM hb6
          refine hK.out _ _ ⟨(kC_ hX6.h 0).trans rfl, (kC_ hX6.h 1).trans rfl, (kC_ hX6.h 2).trans rfl, (kC_ hX6.h 3).trans rfl, (kC_ hX6.h 4).trans rfl, (kC_ hX6.h 5).trans rfl, (kC_ hX6.h 6).trans rfl, (kC_ hX6.h 7).trans rfl, (kC_ hX6.h 8).trans rfl, (kC_ hX6.h 9).trans rfl, (kC_ hX6.h 10).trans rfl, (kC_ hX6.h 11).trans rfl, hX6, hO6⟩ (fun hHeld => ?_)
          clear hK K
          refine norm_ (a' := ?_) ?_ ?_
          rotate_left
          · show Act.put _ (some 29) _ = _
            simp only [Act.put, sA_, sB_, sC_, i64_w, i32_w]
            rfl
          refine last_ (i := 6) (N := some 32) #[T_, T_, T_, T_, T_, T_, T_, F_, F_] rfl rfl (by kernel_rfl) (by decide) (fun K hK => ?_)
          refine value_ (w1 := ?_) (v := ?_) (by rfl) rfl ?_ ?_
          rotate_left 2
          · go_simp
            constructor
            · rfl
            · rfl
          refine hK.out _ _ ?_
          clear hK K
          refine norm_ (a' := ?_) ?_ ?_
          rotate_left
          · show Act.put _ (some 32) _ = _
            simp only [Act.put, sA_, sB_, sC_, i64_w, i32_w]
            rfl
          refine last_ (i := 7) (N := some 33) #[T_, T_, T_, T_, T_, T_, T_, T_, F_] rfl rfl (by kernel_rfl) (by decide) (fun K hK => ?_)
          refine call_ (N := some 33) fn #[.agg #[]] (by rfl) rfl ?_ ?_
          · first | (go_simp; done) | (go_simp; rfl)
          refine (hcn _).mono ?_
          rintro e w7 ⟨rfl, hb7⟩
          refine ⟨_, rfl, ?_⟩
          have hX7 := hX6.below hb7
          have hO7 := aM_ (Kd.R_below hO6.out hb7)
          refine hK.out _ _ ?_
          clear hK K
          refine norm_ (a' := ?_) ?_ ?_
          rotate_left
          · show Act.put _ (some 33) _ = _
            simp only [Act.put, sA_, sB_, sC_, i64_w, i32_w]
            rfl
          refine pure_ (i := 8) (N := some 34) (v := ?_) (a' := ?_) #[T_, T_, T_, T_, T_, T_, T_, T_, T_] rfl rfl (by kernel_rfl) (fun _ _ _ h => h) (Or.inl ⟨by rfl, ?_⟩) ?_ ?_
          rotate_left
          · intro w'
            go_simp
            with_reducible rfl
          rotate_left
          · simp only [Act.put, sA_, sB_, sC_, i64_w, i32_w]
            rfl
          refine done_ (by kernel_rfl) ?_
          clear hHeld hZd hOd c25 hX5 hO5 hX6 hO6 hcn hme hcf hfi hl
          have hX := hX7
          have hO := hO7
          have hn1 := hnn.out hbl h3
          have c27 := itoaC x.f1 hn1.1 (by omega) _ (htr.at_ hX.bel)
          clear hn1
          have HH : Aside0 ((kw :: (if (blB x.f0 && decide (x.f0 ≤ 3)) = true then [itoaS x.f1] else [])) = [kw] ++ [itoaS x.f1]) := ⟨by rw [show (blB x.f0 && decide (x.f0 ≤ 3)) = true by rw [hbl, dT_ h3]; rfl]; rfl⟩
          obtain ⟨nb, hnb⟩ : ∃ q, itoaS x.f1 = q := ⟨_, rfl⟩
          rw [hnb] at c27
          rw [hnb] at HH
          rw [hnb] at hwsx
          have j1 : w7.cell? ⟨gz, 1, none⟩ = some (.int .i64 x.f1) := (kC_ hX.h 1).trans rfl
          go_wp2_with fail
          refine c27.mono ?_
          rintro e w8 ⟨rfl, hb⟩
          replace hX := hX.below hb
          replace hO := aM_ (Kd.R_below hO.out hb)
          clear hb c27 j1 hX7 hO7
          go_upto_region 10 with (first | ((with_reducible refine gate_dst (N := 40) rfl ?_); refine Kd.R_append Kd.string (w0 := wo) wo.heap.size rfl (.tmp 35) (.tmp 39) 52 9 (.string ⟨#[]⟩) 16 rfl Tryz.underlying52 info9 rfl (by decide) (by omega) v4 [kw] nb [.string nb] (fun _ => True) (fun _ => False) rfl (by first | (go_simp; done) | (go_simp; rfl)) ?aP (fun _ hk_ => hk_.elim) ?aF ?aO ?aB ?aS ?aL ?_; (case aP => exact rfl); (case aF => exact fun _ _ => trivial); (case aO => exact hO.out); (case aB => exact hX.bel); (case aS => exact (hX.bel).size); (case aL => simp); intro v9 w9 ho hb hg hat; have hX9 := tn2_grown hX hO.out (by decide) hg hb; have hO9 := aM_ ho; clear ho hb hg hat hX hO))
          have hX := hX9
          have hO := hO9
          clear hX9 hO9 hnb
          have hwl : Aside0 (wordsB x = [kw] ++ [nb] ++ (insL x).map srcB) := ⟨by rw [hwsx.out, HH.out]⟩
          have hwn : Aside0 (([kw] ++ [nb]).length ≤ 2) := ⟨by simp⟩
          obtain ⟨ws, hws⟩ : ∃ q, ([kw] ++ [nb] : List ByteArray) = q := ⟨_, rfl⟩
          rw [hws] at hwl hwn hO
          clear hws hwsx HH
          have c28 := fun W => impl_Wire_inputs.calls x.f0 x.f1 x.f2.f0 x.f2.f1 x.f2.f2.f0 x.f2.f2.f1 x.f2.f3 x.f3.f0 x.f3.f1 x.f3.f2.f0 x.f3.f2.f1 x.f3.f3 _ W (insS x)
          have hil := aM_ (ins_len x)
          generalize insL x = xi at c28 hwl hin hil
          (obtain ⟨j0, j1, j2, j3, j4, j5, j6, j7, j8, j9, j10, j11⟩ := HFnNetSame.cells12 hX.h)
          go_wp2_with fail
          refine (c28 _).mono ?_
          rintro e w10 ⟨v10, rfl, hI, hb⟩
          replace hX := hX.below hb
          replace hO := aM_ (Kd.R_below hO.out hb)
          clear hb c28 j0 j1 j2 j3 j4 j5 j6 j7 j8 j9 j10 j11
          replace hI := aM_ (Kd.R_lower hI (Nat.zero_le _))
          obtain ⟨P, p, rfl⟩ := Kd.R_slice hI.out
          go_wp2
          go_loopw [6, 44] (fun tv i wr => ∃ (j : Nat) (v : Value), j ≤ xi.length ∧ v = tv ∧ i = .int .i64 (j : Int) ∧ Tn2 wo gz 43 #[.int .i64 x.f0, .int .i64 x.f1, .int .i64 x.f2.f0, .int .i64 x.f2.f1, .int .i64 x.f2.f2.f0, .int .i64 x.f2.f2.f1, .bool x.f2.f3, .int .i64 x.f3.f0, .int .i64 x.f3.f1, .int .i64 x.f3.f2.f0, .int .i64 x.f3.f2.f1, .bool x.f3.f3] wr ∧ Aside0 (Kd.R Kd.string 9 wr wo.heap.size (fun _ => True) v (ws ++ (xi.take j).map srcB)) ∧ Aside0 (Kd.R k41 41 wr 0 (fun _ => True) (.slice P xi.length p) xi)) (fun _ i _ => xi.length - (intOf i).toNat)
          case atStart => exact ⟨0, _, by omega, rfl, rfl, hX, ⟨by rw [List.take_zero, List.map_nil, List.append_nil]; exact hO.out⟩, hI⟩
          case round =>
            clear hX hO hI
            obtain ⟨j, v, hj, rfl, rfl, hX, hO, hI⟩ := hrel
            by_cases hjl : j < xi.length
            · have d2 : decide ((j : Int) < (xi.length : Int)) = true := by simp; omega
              obtain ⟨ae, rfl, s0, s1, s2, s3, s4⟩ := at_T41 (Kd.R_reads' hI.out).2.2 (j : Int) (by omega) (by omega)
              rw [Int.toNat_natCast] at s0 s1 s2 s3 s4
              have hs : Aside0 (rd_T41 xi (j : Int) = xi[j]) := ⟨by unfold rd_T41; rw [Int.toNat_natCast, List.getD_eq_getElem?_getD, List.getElem?_eq_getElem hjl]; rfl⟩
              have hso : Aside0 (sOkS (rd_T41 xi (j : Int)) l.length = true) := ⟨by rw [hs.out]; exact hin.out _ (List.getElem_mem hjl)⟩
              have HJ : Aside0 (ws ++ (xi.take (j + 1)).map srcB = (ws ++ (xi.take j).map srcB) ++ [srcB (rd_T41 xi (j : Int))]) := ⟨by rw [hs.out, List.take_succ_eq_append_getElem hjl, List.map_append, List.map_singleton, List.append_assoc]⟩
              have HJL : Aside0 ((ws ++ (xi.take j).map srcB).length ≤ 100) := ⟨by have := hwn.out; have := hil.out; rw [List.length_append, List.length_map, lT_]; omega⟩
              clear hs
              generalize rd_T41 xi (j : Int) = sx at *
              obtain ⟨wj, hwj⟩ : ∃ q, ws ++ (xi.take j).map srcB = q := ⟨_, rfl⟩
              rw [hwj] at hO HJ HJL
              clear hwj
              go_upto_region 13 with (fail)
              have hQ : Tn2 wr wr.heap.size 41 #[.int .i64 sx.f0, .int .i64 sx.f1, .int .i64 sx.f2.f0, .int .i64 sx.f2.f1, .bool sx.f3] (wr.alloc (.cells #[.int .i64 sx.f0, .int .i64 sx.f1, .int .i64 sx.f2.f0, .int .i64 sx.f2.f1, .bool sx.f3] 41)) := ⟨heap_alloc_new wr _, al wr _⟩
              replace hX := hX.below hQ.bel
              replace hO := aM_ (Kd.R_below hO.out hQ.bel)
              replace hI := aM_ (Kd.R_below hI.out hQ.bel)
              replace hQ := hQ.h
              clear s0 s1 s2 s3 s4
              generalize wr.alloc (Obj.cells _ 41) = w11 at hX hO hI hQ ⊢
              obtain ⟨gq, hgq⟩ : ∃ q, wr.heap.size = q := ⟨_, rfl⟩
              rw [hgq] at hQ ⊢
              clear hgq
              (obtain ⟨s0, s1, s2, s3, s4⟩ := HFnNetSame.cells5 hQ)
              have cs := srcTextC sx l.length hso.out (by omega) _ (htr.at_ hX.bel)
              go_wp2_with fail
              refine cs.mono ?_
              rintro e w12 ⟨rfl, hb⟩
              replace hX := hX.below hb
              replace hO := aM_ (Kd.R_below hO.out hb)
              replace hI := aM_ (Kd.R_below hI.out hb)
              clear hb cs s0 s1 s2 s3 s4 hQ
              obtain ⟨sb, hsb⟩ : ∃ q, srcB sx = q := ⟨_, rfl⟩
              rw [hsb] at HJ ⊢
              clear hsb
              have hil2 := hil.out
              go_wp2_with (first | ((with_reducible refine gate_dst (N := 52) rfl ?_); refine Kd.R_append Kd.string (w0 := wo) wo.heap.size rfl (.tmp 48) (.tmp 51) 52 9 (.string ⟨#[]⟩) 16 rfl Tryz.underlying52 info9 rfl (by decide) (by omega) v wj sb [.string sb] (fun _ => True) (fun _ => False) rfl (by first | (go_simp; done) | (go_simp; rfl)) ?aP (fun _ hk_ => hk_.elim) ?aF ?aO ?aB ?aS ?aL ?_; (case aP => exact rfl); (case aF => exact fun _ _ => trivial); (case aO => exact hO.out); (case aB => exact hX.bel); (case aS => exact (hX.bel).size); (case aL => have := HJL.out; omega); intro v13 w13 ho hb hg hat; have hX13 := tn2_grown hX hO.out (by decide) hg hb; have hI13 := aM_ (Kd.R_over' hI.out (Kd.R_typed hO.out) (by decide) hg); have hO13 := aM_ ho; clear ho hb hg hat hX hO hI))
              go_roundw
              case rel => exact ⟨j + 1, _, by omega, rfl, by go_num, hX13, ⟨by rw [HJ.out]; exact hO13.out⟩, hI13⟩
              case measure => first | (simp [intOf]; done) | (simp [intOf]; omega)
            · obtain rfl : j = xi.length := by omega
              rw [List.take_of_length_le (Nat.le_refl _), ← hwl.out] at hO
              have d2 : decide ((xi.length : Int) < (xi.length : Int)) = false := by simp
              have hwp : Aside0 (1 ≤ (wordsB x).length) := ⟨by unfold wordsB; simp⟩
              have cj := joinC v (wordsB x) ⟨#[32]⟩ wr hO.out hwp.out (by have := HFX.out.2; omega) (join_fit _ _ (fun y hy => by have := HFX.out.1 y hy; omega) (by have := HFX.out.2; omega) (by decide))
              have eb : joinS (wordsB x) ⟨#[32]⟩ = wireB x := rfl
              rw [eb] at cj
              clear eb hI hjl hj
              have HK : Aside0 ((l.take (k + 1)).map wireB = (l.take k).map wireB ++ [wireB x]) := ⟨by rw [hx.out, List.take_succ_eq_append_getElem hkl, List.map_append, List.map_singleton]⟩
              have HKL : Aside0 (((l.take k).map wireB).length ≤ 100) := ⟨by rw [List.length_map, lT_]; omega⟩
              obtain ⟨xb, hxb⟩ : ∃ q, wireB x = q := ⟨_, rfl⟩
              rw [hxb] at cj HK
              clear hxb
              obtain ⟨xk, hxk⟩ : ∃ q, (l.take k).map wireB = q := ⟨_, rfl⟩
              rw [hxk] at hR HK HKL
              clear hxk
              go_wp2_with fail
              refine cj.mono ?_
              rintro e w15 ⟨rfl, hb⟩
              replace hX := hX.below hb
              have hR15 := aM_ (Kd.R_below hR.out hX.bel)
              have hT15 := hT.below hX.bel
              clear hb cj hO hR
              go_wp2_with (first | ((with_reducible refine gate_dst (N := 58) rfl ?_); refine Kd.R_append Kd.string (w0 := w) w.heap.size rfl (.tmp 54) (.tmp 57) 52 9 (.string ⟨#[]⟩) 16 rfl Tryz.underlying52 info9 rfl (by decide) (by omega) u xk xb [.string xb] (fun _ => True) (fun _ => False) rfl (by first | (go_simp; done) | (go_simp; rfl)) ?aP (fun _ hk_ => hk_.elim) ?aF ?aO ?aB ?aS ?aL ?_; (case aP => exact rfl); (case aF => exact fun _ _ => trivial); (case aO => exact hR15.out); (case aB => exact hT15.bel); (case aS => exact (hT15.bel).size); (case aL => have := HKL.out; omega); intro v16 w16 ho hb hg hat; have hT16 := tn2_grown hT15 hR15.out (by decide) hg hb; have hO16 := aM_ ho; clear ho hb hg hat hX hT hT15 hR15))
              go_roundw
              case rel => exact ⟨k + 1, _, by omega, rfl, by go_num, hT16, ⟨by rw [HK.out]; exact hO16.out⟩⟩
              case measure => first | (simp [intOf]; done) | (simp [intOf]; omega)
        · rw [dF_ h3] at hcn
          refine start_ (n := 9) (S := fun w' => w'.cell? ⟨gz, 0, none⟩ = some (.int .i64 x.f0) ∧ w'.cell? ⟨gz, 1, none⟩ = some (.int .i64 x.f1) ∧ w'.cell? ⟨gz, 2, none⟩ = some (.int .i64 x.f2.f0) ∧ w'.cell? ⟨gz, 3, none⟩ = some (.int .i64 x.f2.f1) ∧ w'.cell? ⟨gz, 4, none⟩ = some (.int .i64 x.f2.f2.f0) ∧ w'.cell? ⟨gz, 5, none⟩ = some (.int .i64 x.f2.f2.f1) ∧ w'.cell? ⟨gz, 6, none⟩ = some (.bool x.f2.f3) ∧ w'.cell? ⟨gz, 7, none⟩ = some (.int .i64 x.f3.f0) ∧ w'.cell? ⟨gz, 8, none⟩ = some (.int .i64 x.f3.f1) ∧ w'.cell? ⟨gz, 9, none⟩ = some (.int .i64 x.f3.f2.f0) ∧ w'.cell? ⟨gz, 10, none⟩ = some (.int .i64 x.f3.f2.f1) ∧ w'.cell? ⟨gz, 11, none⟩ = some (.bool x.f3.f3) ∧ Tn2 wo gz 43 #[.int .i64 x.f0, .int .i64 x.f1, .int .i64 x.f2.f0, .int .i64 x.f2.f1, .int .i64 x.f2.f2.f0, .int .i64 x.f2.f2.f1, .bool x.f2.f3, .int .i64 x.f3.f0, .int .i64 x.f3.f1, .int .i64 x.f3.f2.f0, .int .i64 x.f3.f2.f1, .bool x.f3.f3] w' ∧ Aside0 (Kd.R Kd.string 9 w' wo.heap.size (fun _ => True) v4 [kw])) (ds := [6, 7]) #[F_, F_, F_, F_, F_, F_, F_, F_, F_] (by kernel_rfl) rfl rfl ⟨(kC_ hZd.h 0).trans rfl, (kC_ hZd.h 1).trans rfl, (kC_ hZd.h 2).trans rfl, (kC_ hZd.h 3).trans rfl, (kC_ hZd.h 4).trans rfl, (kC_ hZd.h 5).trans rfl, (kC_ hZd.h 6).trans rfl, (kC_ hZd.h 7).trans rfl, (kC_ hZd.h 8).trans rfl, (kC_ hZd.h 9).trans rfl, (kC_ hZd.h 10).trans rfl, (kC_ hZd.h 11).trans rfl, hZd, hOd⟩ (fun hHeld => ?_)
          refine take_ (i := 0) (N := some 26) (v := ?_) (a' := ?_) #[T_, F_, F_, F_, F_, F_, F_, F_, F_] rfl rfl (by kernel_rfl) (fun _ _ _ h => h) (Or.inl ⟨by rfl, ?_⟩) hHeld ?_ ?_
          rotate_left
          · rintro w' ⟨s0, s1, s2, s3, s4, s5, s6, s7, s8, s9, s10, s11, s12, s13⟩
            go_simp
            with_reducible rfl
          rotate_left
          · simp only [Act.put, sA_, sB_, sC_, i64_w, i32_w]
            rfl
          refine one_ (i := 1) (N := some 27) #[T_, T_, F_, F_, F_, F_, F_, F_, F_] rfl rfl (by kernel_rfl) (by decide) (fun K hK => ?_)
          refine goes_ Tryz.func25 (by kernel_rfl) rfl #[.agg #[.int .i64 x.f0, .int .i64 x.f1, .int .i64 x.f2.f0, .int .i64 x.f2.f1, .int .i64 x.f2.f2.f0, .int .i64 x.f2.f2.f1, .bool x.f2.f3, .int .i64 x.f3.f0, .int .i64 x.f3.f1, .int .i64 x.f3.f2.f0, .int .i64 x.f3.f2.f1, .bool x.f3.f3]] (by rfl) rfl rfl (by simp only [mA_, List.map_cons, List.map_nil]; rfl) ?_
          with_reducible refine (c25 _).mono ?_
          rintro e w5 ⟨rfl, hb5⟩
          refine ⟨_, rfl, ?_⟩
          have hX5 := hHeld.2.2.2.2.2.2.2.2.2.2.2.2.1.below hb5
          have hO5 := aM_ (Kd.R_below hHeld.2.2.2.2.2.2.2.2.2.2.2.2.2.out hb5)
          refine hK.out _ _ ⟨(kC_ hX5.h 0).trans rfl, (kC_ hX5.h 1).trans rfl, (kC_ hX5.h 2).trans rfl, (kC_ hX5.h 3).trans rfl, (kC_ hX5.h 4).trans rfl, (kC_ hX5.h 5).trans rfl, (kC_ hX5.h 6).trans rfl, (kC_ hX5.h 7).trans rfl, (kC_ hX5.h 8).trans rfl, (kC_ hX5.h 9).trans rfl, (kC_ hX5.h 10).trans rfl, (kC_ hX5.h 11).trans rfl, hX5, hO5⟩ (fun hHeld => ?_)
          clear hK K
          refine norm_ (a' := ?_) ?_ ?_
          rotate_left
          · show Act.put _ (some 27) _ = _
            simp only [Act.put, sA_, sB_, sC_, i64_w, i32_w]
            rfl
          refine pure_ (i := 2) (N := some 28) (v := ?_) (a' := ?_) #[T_, T_, T_, F_, F_, F_, F_, F_, F_] rfl rfl (by kernel_rfl) (fun _ _ _ h => h) (Or.inl ⟨by rfl, ?_⟩) ?_ ?_
          rotate_left
          · intro w'
            go_simp
            with_reducible rfl
          rotate_left
          · simp only [Act.put, sA_, sB_, sC_, i64_w, i32_w]
            rfl
          refine pure_ (i := 4) (N := some 30) (v := ?_) (a' := ?_) #[T_, T_, T_, F_, T_, F_, F_, F_, F_] rfl rfl (by kernel_rfl) (fun _ _ _ h => h) (Or.inl ⟨by rfl, ?_⟩) ?_ ?_
          rotate_left
          · intro w'
            go_simp
            with_reducible rfl
          rotate_left
          · simp only [Act.put, sA_, sB_, sC_, i64_w, i32_w]
            rfl
          refine take_ (i := 5) (N := some 31) (v := ?_) (a' := ?_) #[T_, T_, T_, F_, T_, T_, F_, F_, F_] rfl rfl (by kernel_rfl) (fun _ _ _ h => h) (Or.inl ⟨by rfl, ?_⟩) hHeld ?_ ?_
          rotate_left
          · rintro w' ⟨s0, s1, s2, s3, s4, s5, s6, s7, s8, s9, s10, s11, s12, s13⟩
            go_simp
            with_reducible rfl
          rotate_left
          · simp only [Act.put, sA_, sB_, sC_, i64_w, i32_w]
            rfl
          refine one_ (i := 3) (N := some 29) #[T_, T_, T_, T_, T_, T_, F_, F_, F_] rfl rfl (by kernel_rfl) (by decide) (fun K hK => ?_)
          refine goes_ Tryz.func26 (by kernel_rfl) rfl #[] (by rfl) rfl rfl (by simp only [mA_, List.map_cons, List.map_nil]) ?_
          with_reducible refine (w_workings _).mono ?_
          rintro e w6 ⟨rfl, hw6⟩
          refine ⟨_, rfl, ?_⟩
          have hM : w6.heap[w5.heap.size]? = some (.map wks 5) := by rw [← hw6]; exact heap_alloc_at _ _
          have hb6 : Below w5.heap.size w5 w6 := by rw [← hw6]; exact al _ _
          have hX6 := hHeld.2.2.2.2.2.2.2.2.2.2.2.2.1.below hb6
          have hO6 := aM_ (Kd.R_below hHeld.2.2.2.2.2.2.2.2.2.2.2.2.2.out hb6)
          have hl := look_hit w6 Tryz.underlying58 Tryz.underlying3 hM x.f0 false hfi
          simp only [Bool.false_eq_true, if_false] at hl
          clear hw6 hM hb6
          refine hK.out _ _ ⟨(kC_ hX6.h 0).trans rfl, (kC_ hX6.h 1).trans rfl, (kC_ hX6.h 2).trans rfl, (kC_ hX6.h 3).trans rfl, (kC_ hX6.h 4).trans rfl, (kC_ hX6.h 5).trans rfl, (kC_ hX6.h 6).trans rfl, (kC_ hX6.h 7).trans rfl, (kC_ hX6.h 8).trans rfl, (kC_ hX6.h 9).trans rfl, (kC_ hX6.h 10).trans rfl, (kC_ hX6.h 11).trans rfl, hX6, hO6⟩ (fun hHeld => ?_)
          clear hK K
          refine norm_ (a' := ?_) ?_ ?_
          rotate_left
          · show Act.put _ (some 29) _ = _
            simp only [Act.put, sA_, sB_, sC_, i64_w, i32_w]
            rfl
          refine last_ (i := 6) (N := some 32) #[T_, T_, T_, T_, T_, T_, T_, F_, F_] rfl rfl (by kernel_rfl) (by decide) (fun K hK => ?_)
          refine value_ (w1 := ?_) (v := ?_) (by rfl) rfl ?_ ?_
          rotate_left 2
          · go_simp
            constructor
            · rfl
            · rfl
          refine hK.out _ _ ?_
          clear hK K
          refine norm_ (a' := ?_) ?_ ?_
          rotate_left
          · show Act.put _ (some 32) _ = _
            simp only [Act.put, sA_, sB_, sC_, i64_w, i32_w]
            rfl
          refine last_ (i := 7) (N := some 33) #[T_, T_, T_, T_, T_, T_, T_, T_, F_] rfl rfl (by kernel_rfl) (by decide) (fun K hK => ?_)
          refine call_ (N := some 33) fn #[.agg #[]] (by rfl) rfl ?_ ?_
          · first | (go_simp; done) | (go_simp; rfl)
          refine (hcn _).mono ?_
          rintro e w7 ⟨rfl, hb7⟩
          refine ⟨_, rfl, ?_⟩
          have hX7 := hX6.below hb7
          have hO7 := aM_ (Kd.R_below hO6.out hb7)
          refine hK.out _ _ ?_
          clear hK K
          refine norm_ (a' := ?_) ?_ ?_
          rotate_left
          · show Act.put _ (some 33) _ = _
            simp only [Act.put, sA_, sB_, sC_, i64_w, i32_w]
            rfl
          refine pure_ (i := 8) (N := some 34) (v := ?_) (a' := ?_) #[T_, T_, T_, T_, T_, T_, T_, T_, T_] rfl rfl (by kernel_rfl) (fun _ _ _ h => h) (Or.inl ⟨by rfl, ?_⟩) ?_ ?_
          rotate_left
          · intro w'
            go_simp
            with_reducible rfl
          rotate_left
          · simp only [Act.put, sA_, sB_, sC_, i64_w, i32_w]
            rfl
          refine done_ (by kernel_rfl) ?_
          clear hHeld hZd hOd c25 hX5 hO5 hX6 hO6 hcn hme hcf hfi hl
          have hX := hX7
          have hO := hO7
          clear hX7 hO7
          have HH : Aside0 ((kw :: (if (blB x.f0 && decide (x.f0 ≤ 3)) = true then [itoaS x.f1] else [])) = [kw]) := ⟨by rw [show (blB x.f0 && decide (x.f0 ≤ 3)) = false by rw [dF_ h3, Bool.and_false]]; rfl⟩
          have hwl : Aside0 (wordsB x = [kw] ++ (insL x).map srcB) := ⟨by rw [hwsx.out, HH.out]⟩
          have hwn : Aside0 (([kw]).length ≤ 2) := ⟨by simp⟩
          obtain ⟨ws, hws⟩ : ∃ q, ([kw] : List ByteArray) = q := ⟨_, rfl⟩
          rw [hws] at hwl hwn hO
          clear hws hwsx HH
          have c28 := fun W => impl_Wire_inputs.calls x.f0 x.f1 x.f2.f0 x.f2.f1 x.f2.f2.f0 x.f2.f2.f1 x.f2.f3 x.f3.f0 x.f3.f1 x.f3.f2.f0 x.f3.f2.f1 x.f3.f3 _ W (insS x)
          have hil := aM_ (ins_len x)
          generalize insL x = xi at c28 hwl hin hil
          (obtain ⟨j0, j1, j2, j3, j4, j5, j6, j7, j8, j9, j10, j11⟩ := HFnNetSame.cells12 hX.h)
          go_wp2_with fail
          refine (c28 _).mono ?_
          rintro e w10 ⟨v10, rfl, hI, hb⟩
          replace hX := hX.below hb
          replace hO := aM_ (Kd.R_below hO.out hb)
          clear hb c28 j0 j1 j2 j3 j4 j5 j6 j7 j8 j9 j10 j11
          replace hI := aM_ (Kd.R_lower hI (Nat.zero_le _))
          obtain ⟨P, p, rfl⟩ := Kd.R_slice hI.out
          go_wp2
          go_loopw [6, 44] (fun tv i wr => ∃ (j : Nat) (v : Value), j ≤ xi.length ∧ v = tv ∧ i = .int .i64 (j : Int) ∧ Tn2 wo gz 43 #[.int .i64 x.f0, .int .i64 x.f1, .int .i64 x.f2.f0, .int .i64 x.f2.f1, .int .i64 x.f2.f2.f0, .int .i64 x.f2.f2.f1, .bool x.f2.f3, .int .i64 x.f3.f0, .int .i64 x.f3.f1, .int .i64 x.f3.f2.f0, .int .i64 x.f3.f2.f1, .bool x.f3.f3] wr ∧ Aside0 (Kd.R Kd.string 9 wr wo.heap.size (fun _ => True) v (ws ++ (xi.take j).map srcB)) ∧ Aside0 (Kd.R k41 41 wr 0 (fun _ => True) (.slice P xi.length p) xi)) (fun _ i _ => xi.length - (intOf i).toNat)
          case atStart => exact ⟨0, _, by omega, rfl, rfl, hX, ⟨by rw [List.take_zero, List.map_nil, List.append_nil]; exact hO.out⟩, hI⟩
          case round =>
            clear hX hO hI
            obtain ⟨j, v, hj, rfl, rfl, hX, hO, hI⟩ := hrel
            by_cases hjl : j < xi.length
            · have d2 : decide ((j : Int) < (xi.length : Int)) = true := by simp; omega
              obtain ⟨ae, rfl, s0, s1, s2, s3, s4⟩ := at_T41 (Kd.R_reads' hI.out).2.2 (j : Int) (by omega) (by omega)
              rw [Int.toNat_natCast] at s0 s1 s2 s3 s4
              have hs : Aside0 (rd_T41 xi (j : Int) = xi[j]) := ⟨by unfold rd_T41; rw [Int.toNat_natCast, List.getD_eq_getElem?_getD, List.getElem?_eq_getElem hjl]; rfl⟩
              have hso : Aside0 (sOkS (rd_T41 xi (j : Int)) l.length = true) := ⟨by rw [hs.out]; exact hin.out _ (List.getElem_mem hjl)⟩
              have HJ : Aside0 (ws ++ (xi.take (j + 1)).map srcB = (ws ++ (xi.take j).map srcB) ++ [srcB (rd_T41 xi (j : Int))]) := ⟨by rw [hs.out, List.take_succ_eq_append_getElem hjl, List.map_append, List.map_singleton, List.append_assoc]⟩
              have HJL : Aside0 ((ws ++ (xi.take j).map srcB).length ≤ 100) := ⟨by have := hwn.out; have := hil.out; rw [List.length_append, List.length_map, lT_]; omega⟩
              clear hs
              generalize rd_T41 xi (j : Int) = sx at *
              obtain ⟨wj, hwj⟩ : ∃ q, ws ++ (xi.take j).map srcB = q := ⟨_, rfl⟩
              rw [hwj] at hO HJ HJL
              clear hwj
              go_upto_region 13 with (fail)
              have hQ : Tn2 wr wr.heap.size 41 #[.int .i64 sx.f0, .int .i64 sx.f1, .int .i64 sx.f2.f0, .int .i64 sx.f2.f1, .bool sx.f3] (wr.alloc (.cells #[.int .i64 sx.f0, .int .i64 sx.f1, .int .i64 sx.f2.f0, .int .i64 sx.f2.f1, .bool sx.f3] 41)) := ⟨heap_alloc_new wr _, al wr _⟩
              replace hX := hX.below hQ.bel
              replace hO := aM_ (Kd.R_below hO.out hQ.bel)
              replace hI := aM_ (Kd.R_below hI.out hQ.bel)
              replace hQ := hQ.h
              clear s0 s1 s2 s3 s4
              generalize wr.alloc (Obj.cells _ 41) = w11 at hX hO hI hQ ⊢
              obtain ⟨gq, hgq⟩ : ∃ q, wr.heap.size = q := ⟨_, rfl⟩
              rw [hgq] at hQ ⊢
              clear hgq
              (obtain ⟨s0, s1, s2, s3, s4⟩ := HFnNetSame.cells5 hQ)
              have cs := srcTextC sx l.length hso.out (by omega) _ (htr.at_ hX.bel)
              go_wp2_with fail
              refine cs.mono ?_
              rintro e w12 ⟨rfl, hb⟩
              replace hX := hX.below hb
              replace hO := aM_ (Kd.R_below hO.out hb)
              replace hI := aM_ (Kd.R_below hI.out hb)
              clear hb cs s0 s1 s2 s3 s4 hQ
              obtain ⟨sb, hsb⟩ : ∃ q, srcB sx = q := ⟨_, rfl⟩
              rw [hsb] at HJ ⊢
              clear hsb
              have hil2 := hil.out
              go_wp2_with (first | ((with_reducible refine gate_dst (N := 52) rfl ?_); refine Kd.R_append Kd.string (w0 := wo) wo.heap.size rfl (.tmp 48) (.tmp 51) 52 9 (.string ⟨#[]⟩) 16 rfl Tryz.underlying52 info9 rfl (by decide) (by omega) v wj sb [.string sb] (fun _ => True) (fun _ => False) rfl (by first | (go_simp; done) | (go_simp; rfl)) ?aP (fun _ hk_ => hk_.elim) ?aF ?aO ?aB ?aS ?aL ?_; (case aP => exact rfl); (case aF => exact fun _ _ => trivial); (case aO => exact hO.out); (case aB => exact hX.bel); (case aS => exact (hX.bel).size); (case aL => have := HJL.out; omega); intro v13 w13 ho hb hg hat; have hX13 := tn2_grown hX hO.out (by decide) hg hb; have hI13 := aM_ (Kd.R_over' hI.out (Kd.R_typed hO.out) (by decide) hg); have hO13 := aM_ ho; clear ho hb hg hat hX hO hI))
              go_roundw
              case rel => exact ⟨j + 1, _, by omega, rfl, by go_num, hX13, ⟨by rw [HJ.out]; exact hO13.out⟩, hI13⟩
              case measure => first | (simp [intOf]; done) | (simp [intOf]; omega)
            · obtain rfl : j = xi.length := by omega
              rw [List.take_of_length_le (Nat.le_refl _), ← hwl.out] at hO
              have d2 : decide ((xi.length : Int) < (xi.length : Int)) = false := by simp
              have hwp : Aside0 (1 ≤ (wordsB x).length) := ⟨by unfold wordsB; simp⟩
              have cj := joinC v (wordsB x) ⟨#[32]⟩ wr hO.out hwp.out (by have := HFX.out.2; omega) (join_fit _ _ (fun y hy => by have := HFX.out.1 y hy; omega) (by have := HFX.out.2; omega) (by decide))
              have eb : joinS (wordsB x) ⟨#[32]⟩ = wireB x := rfl
              rw [eb] at cj
              clear eb hI hjl hj
              have HK : Aside0 ((l.take (k + 1)).map wireB = (l.take k).map wireB ++ [wireB x]) := ⟨by rw [hx.out, List.take_succ_eq_append_getElem hkl, List.map_append, List.map_singleton]⟩
              have HKL : Aside0 (((l.take k).map wireB).length ≤ 100) := ⟨by rw [List.length_map, lT_]; omega⟩
              obtain ⟨xb, hxb⟩ : ∃ q, wireB x = q := ⟨_, rfl⟩
              rw [hxb] at cj HK
              clear hxb
              obtain ⟨xk, hxk⟩ : ∃ q, (l.take k).map wireB = q := ⟨_, rfl⟩
              rw [hxk] at hR HK HKL
              clear hxk
              go_wp2_with fail
              refine cj.mono ?_
              rintro e w15 ⟨rfl, hb⟩
              replace hX := hX.below hb
              have hR15 := aM_ (Kd.R_below hR.out hX.bel)
              have hT15 := hT.below hX.bel
              clear hb cj hO hR
              go_wp2_with (first | ((with_reducible refine gate_dst (N := 58) rfl ?_); refine Kd.R_append Kd.string (w0 := w) w.heap.size rfl (.tmp 54) (.tmp 57) 52 9 (.string ⟨#[]⟩) 16 rfl Tryz.underlying52 info9 rfl (by decide) (by omega) u xk xb [.string xb] (fun _ => True) (fun _ => False) rfl (by first | (go_simp; done) | (go_simp; rfl)) ?aP (fun _ hk_ => hk_.elim) ?aF ?aO ?aB ?aS ?aL ?_; (case aP => exact rfl); (case aF => exact fun _ _ => trivial); (case aO => exact hR15.out); (case aB => exact hT15.bel); (case aS => exact (hT15.bel).size); (case aL => have := HKL.out; omega); intro v16 w16 ho hb hg hat; have hT16 := tn2_grown hT15 hR15.out (by decide) hg hb; have hO16 := aM_ ho; clear ho hb hg hat hX hT hT15 hR15))
              go_roundw
              case rel => exact ⟨k + 1, _, by omega, rfl, by go_num, hT16, ⟨by rw [HK.out]; exact hO16.out⟩⟩
              case measure => first | (simp [intOf]; done) | (simp [intOf]; omega)
    · obtain rfl : k = l.length := by omega
      rw [List.take_of_length_le (Nat.le_refl _)] at hR
      have d1 : decide ((l.length : Int) < (l.length : Int)) = false := by simp
      have i1 : wo.cell? ⟨g1, 1, none⟩ = some (.slice B m.length d) := (kC_ hT.h 1).trans rfl
      obtain ⟨lw, hlw⟩ : ∃ q, l.map wireB = q := ⟨_, rfl⟩
      rw [hlw] at hR
      have HLL : Aside0 (lw.length ≤ 8) := ⟨by rw [← hlw, List.length_map]; exact h8⟩
      have HLW := aM_ hlw
      clear hlw
      go_wp2
      go_loopw [3, 63] (fun tu i wr => ∃ (k : Nat) (u : Value), k ≤ m.length ∧ u = tu ∧ i = .int .i64 (k : Int) ∧ Tn2 w g1 31 #[.slice A l.length c, .slice B m.length d] wr ∧ Aside0 (Kd.R Kd.string 9 wr w.heap.size (fun _ => True) u (lw ++ (m.take k).map driveB))) (fun _ i _ => m.length - (intOf i).toNat)
      case atStart => exact ⟨0, _, by omega, rfl, rfl, hT, ⟨by rw [List.take_zero, List.map_nil, List.append_nil]; exact hR.out⟩⟩
      case round =>
        rename World => wp
        clear hT hR i1 d1
        obtain ⟨k, u, hk, rfl, rfl, hT, hR⟩ := hrel
        by_cases hkl : k < m.length
        · have d1 : decide ((k : Int) < (m.length : Int)) = true := by simp; omega
          obtain ⟨ad, rfl, e0, e1, e2⟩ := at_T66 hD (k : Int) (by omega) (by omega)
          rw [Int.toNat_natCast] at e0 e1 e2
          have far : ∀ {a : Addr} {v : Value}, w.cell? a = some v → wp.cell? a = some v := fun e => (hT.bel.cell (bL_ _ _ e)).trans e
          replace e0 := far e0
          replace e1 := far e1
          replace e2 := far e2
          clear far
          have hx : Aside0 (rd_T66 m (k : Int) = m[k]) := ⟨by unfold rd_T66; rw [Int.toNat_natCast, List.getD_eq_getElem?_getD, List.getElem?_eq_getElem hkl]; rfl⟩
          have HY : Aside0 (aOk (rd_T66 m (k : Int)).f0.f0 (rd_T66 m (k : Int)).f0.f1 = true ∧ 0 ≤ (rd_T66 m (k : Int)).f1 ∧ (rd_T66 m (k : Int)).f1 < (l.length : Int)) := ⟨by rw [hx.out]; exact HDR.out _ (List.getElem_mem hkl)⟩
          have HK : Aside0 (lw ++ (m.take (k + 1)).map driveB = (lw ++ (m.take k).map driveB) ++ [driveB (rd_T66 m (k : Int))]) := ⟨by rw [hx.out, List.take_succ_eq_append_getElem hkl, List.map_append, List.map_singleton, List.append_assoc]⟩
          have HKL : Aside0 ((lw ++ (m.take k).map driveB).length ≤ 100) := ⟨by have := HLL.out; rw [List.length_append, List.length_map, lT_]; omega⟩
          clear hx
          generalize rd_T66 m (k : Int) = y at *
          obtain ⟨xk, hxk⟩ : ∃ q, lw ++ (m.take k).map driveB = q := ⟨_, rfl⟩
          rw [hxk] at hR HK HKL
          clear hxk
          have htr := ht.at_ hT.bel
          go_upto_region 20 with (fail)
          have hZ : Tn2 wp wp.heap.size 66 #[.int .i64 y.f0.f0, .int .i64 y.f0.f1, .int .i64 y.f1] (wp.alloc (.cells #[.int .i64 y.f0.f0, .int .i64 y.f0.f1, .int .i64 y.f1] 66)) := ⟨heap_alloc_new wp _, al wp _⟩
          clear e0 e1 e2
          generalize wp.alloc (Obj.cells _ 66) = w2 at hZ ⊢
          obtain ⟨gz, hgz⟩ : ∃ q, wp.heap.size = q := ⟨_, rfl⟩
          rw [hgz] at hZ ⊢
          clear hgz
          have hZd := hZ.below (b1_ (Below.refl _ _))
          clear hZ
          have hA := aOk_rng HY.out.1
          have HA := aM_ (addr_size y.f0.f0 y.f0.f1 hA.1 hA.2)
          clear hA
          have HI := aM_ (itoa_size y.f1 HY.out.2.1 (by have := HY.out.2.2; omega))
          have cA := fun W k => addrTextC y.f0.f0 y.f0.f1 HY.out.1 W k
          have cI := fun W k => itoaC y.f1 HY.out.2.1 (by have := HY.out.2.2; omega) W k
          have HDB : Aside0 (driveB y = (⟨#[116, 111, 32]⟩ : ByteArray) ++ addrS y.f0.f0 y.f0.f1 ++ (⟨#[32, 119]⟩ : ByteArray) ++ itoaS y.f1) := ⟨rfl⟩
          obtain ⟨ab, hab⟩ : ∃ q, addrS y.f0.f0 y.f0.f1 = q := ⟨_, rfl⟩
          rw [hab] at HA cA HDB
          obtain ⟨nb, hnb⟩ : ∃ q, itoaS y.f1 = q := ⟨_, rfl⟩
          rw [hnb] at HI cI HDB
          rw [HDB.out] at HK
          clear hab hnb HDB
          have f1 : (9223372036854775807 < 3 + ab.size) = False := eq_false (by have := HA.out; omega)
          have f2 : (9223372036854775807 < 3 + ab.size + 2) = False := eq_false (by have := HA.out; omega)
          have f3 : (9223372036854775807 < 3 + ab.size + 2 + nb.size) = False := eq_false (by have := HA.out; have := HI.out; omega)
          refine start_ (n := 13) (S := fun w' => w'.cell? ⟨gz, 0, none⟩ = some (.int .i64 y.f0.f0) ∧ w'.cell? ⟨gz, 1, none⟩ = some (.int .i64 y.f0.f1) ∧ w'.cell? ⟨gz, 2, none⟩ = some (.int .i64 y.f1) ∧ Tn2 wp gz 66 #[.int .i64 y.f0.f0, .int .i64 y.f0.f1, .int .i64 y.f1] w') (ds := [11]) #[F_, F_, F_, F_, F_, F_, F_, F_, F_, F_, F_, F_, F_] (by kernel_rfl) rfl rfl ⟨(kC_ hZd.h 0).trans rfl, (kC_ hZd.h 1).trans rfl, (kC_ hZd.h 2).trans rfl, hZd⟩ (fun hHeld => ?_)
          refine pure_ (i := 0) (N := some 67) (v := ?_) (a' := ?_) #[T_, F_, F_, F_, F_, F_, F_, F_, F_, F_, F_, F_, F_] rfl rfl (by kernel_rfl) (fun _ _ _ h => h) (Or.inl ⟨by rfl, ?_⟩) ?_ ?_
          rotate_left
          · intro w'
            go_simp
            with_reducible rfl
          rotate_left
          · simp only [Act.put, sA_, sB_, sC_, i64_w, i32_w]
            rfl
          refine pure_ (i := 1) (N := some 68) (v := ?_) (a' := ?_) #[T_, T_, F_, F_, F_, F_, F_, F_, F_, F_, F_, F_, F_] rfl rfl (by kernel_rfl) (fun _ _ _ h => h) (Or.inl ⟨by rfl, ?_⟩) ?_ ?_
          rotate_left
          · intro w'
            go_simp
            with_reducible rfl
          rotate_left
          · simp only [Act.put, sA_, sB_, sC_, i64_w, i32_w]
            rfl
          refine pure_ (i := 6) (N := some 73) (v := ?_) (a' := ?_) #[T_, T_, F_, F_, F_, F_, T_, F_, F_, F_, F_, F_, F_] rfl rfl (by kernel_rfl) (fun _ _ _ h => h) (Or.inl ⟨by rfl, ?_⟩) ?_ ?_
          rotate_left
          · intro w'
            go_simp
            with_reducible rfl
          rotate_left
          · simp only [Act.put, sA_, sB_, sC_, i64_w, i32_w]
            rfl
          refine take_ (i := 2) (N := some 69) (v := ?_) (a' := ?_) #[T_, T_, T_, F_, F_, F_, T_, F_, F_, F_, F_, F_, F_] rfl rfl (by kernel_rfl) (fun _ _ _ h => h) (Or.inl ⟨by rfl, ?_⟩) hHeld ?_ ?_
          rotate_left
          · rintro w' ⟨s0, s1, s2, s3⟩
            go_simp
            with_reducible rfl
          rotate_left
          · simp only [Act.put, sA_, sB_, sC_, i64_w, i32_w]
            rfl
          refine take_ (i := 7) (N := some 74) (v := ?_) (a' := ?_) #[T_, T_, T_, F_, F_, F_, T_, T_, F_, F_, F_, F_, F_] rfl rfl (by kernel_rfl) (fun _ _ _ h => h) (Or.inl ⟨by rfl, ?_⟩) hHeld ?_ ?_
          rotate_left
          · rintro w' ⟨s0, s1, s2, s3⟩
            go_simp
            with_reducible rfl
          rotate_left
          · simp only [Act.put, sA_, sB_, sC_, i64_w, i32_w]
            rfl
          refine one_ (i := 3) (N := some 70) #[T_, T_, T_, T_, F_, F_, T_, T_, F_, F_, F_, F_, F_] rfl rfl (by kernel_rfl) (by decide) (fun K hK => ?_)
          refine goes_ Tryz.func31 (by kernel_rfl) rfl #[.agg #[.int .i64 y.f0.f0, .int .i64 y.f0.f1]] (by rfl) rfl rfl (by simp only [mA_, List.map_cons, List.map_nil]; rfl) ?_
          with_reducible refine (cA _ (htr.at_ hHeld.2.2.2.bel)).mono ?_
          rintro e w22 ⟨rfl, hb⟩
          refine ⟨_, rfl, ?_⟩
          have hX22 := hHeld.2.2.2.below hb
          refine hK.out _ _ ⟨(kC_ hX22.h 0).trans rfl, (kC_ hX22.h 1).trans rfl, (kC_ hX22.h 2).trans rfl, hX22⟩ (fun hHeld => ?_)
          clear hK K
          refine norm_ (a' := ?_) ?_ ?_
          rotate_left
          · show Act.put _ (some 70) _ = _
            simp only [Act.put, sA_, sB_, sC_, i64_w, i32_w]
            rfl
          refine pure_ (i := 4) (N := some 71) (v := ?_) (a' := ?_) #[T_, T_, T_, T_, T_, F_, T_, T_, F_, F_, F_, F_, F_] rfl rfl (by kernel_rfl) (fun _ _ _ h => h) (Or.inl ⟨by rfl, ?_⟩) ?_ ?_
          rotate_left
          · intro w'
            go_simp
            with_reducible rfl
          rotate_left
          · simp only [Act.put, sA_, sB_, sC_, i64_w, i32_w]
            rfl
          refine pure_ (i := 5) (N := some 72) (v := ?_) (a' := ?_) #[T_, T_, T_, T_, T_, T_, T_, T_, F_, F_, F_, F_, F_] rfl rfl (by kernel_rfl) (fun _ _ _ h => h) (Or.inl ⟨by rfl, ?_⟩) ?_ ?_
          rotate_left
          · intro w'
            go_simp
            with_reducible rfl
          rotate_left
          · simp only [Act.put, sA_, sB_, sC_, i64_w, i32_w]
            rfl
          refine one_ (i := 8) (N := some 75) #[T_, T_, T_, T_, T_, T_, T_, T_, T_, F_, F_, F_, F_] rfl rfl (by kernel_rfl) (by decide) (fun K hK => ?_)
          refine goes_ Tryz.func27 (by kernel_rfl) rfl #[.int .i64 y.f1] (by rfl) rfl rfl (by simp only [mA_, List.map_cons, List.map_nil]; rfl) ?_
          with_reducible refine (cI _ (htr.at_ hHeld.2.2.2.bel)).mono ?_
          rintro e w23 ⟨rfl, hb⟩
          refine ⟨_, rfl, ?_⟩
          have hX23 := hHeld.2.2.2.below hb
          refine hK.out _ _ ⟨(kC_ hX23.h 0).trans rfl, (kC_ hX23.h 1).trans rfl, (kC_ hX23.h 2).trans rfl, hX23⟩ (fun hHeld => ?_)
          clear hK K
          refine norm_ (a' := ?_) ?_ ?_
          rotate_left
          · show Act.put _ (some 75) _ = _
            simp only [Act.put, sA_, sB_, sC_, i64_w, i32_w]
            rfl
          refine pure_ (i := 9) (N := some 76) (v := ?_) (a' := ?_) #[T_, T_, T_, T_, T_, T_, T_, T_, T_, T_, F_, F_, F_] rfl rfl (by kernel_rfl) (fun _ _ _ h => h) (Or.inl ⟨by rfl, ?_⟩) ?_ ?_
          rotate_left
          · intro w'
            go_simp
            with_reducible rfl
          rotate_left
          · simp only [Act.put, sA_, sB_, sC_, i64_w, i32_w]
            rfl
          refine one_ (i := 10) (N := some 77) #[T_, T_, T_, T_, T_, T_, T_, T_, T_, T_, T_, F_, F_] rfl rfl (by kernel_rfl) (by decide) (fun K hK => ?_)
          refine value_ (w1 := ?_) (v := ?_) (by rfl) rfl ?_ ?_
          rotate_left 2
          · go_simp
            constructor
            · rfl
            · rfl
          have hX24 := hX23.below (al w23 (.cells #[.string ((⟨#[116, 111, 32]⟩ : ByteArray) ++ ab ++ (⟨#[32, 119]⟩ : ByteArray) ++ nb)] 9))
          refine hK.out _ _ ⟨(kC_ hX24.h 0).trans rfl, (kC_ hX24.h 1).trans rfl, (kC_ hX24.h 2).trans rfl, hX24⟩ (fun hHeld => ?_)
          clear hK K
          refine norm_ (a' := ?_) ?_ ?_
          rotate_left
          · show Act.put _ (some 77) _ = _
            simp only [Act.put, sA_, sB_, sC_, i64_w, i32_w]
            rfl
          refine last_ (i := 11) (N := some 78) #[T_, T_, T_, T_, T_, T_, T_, T_, T_, T_, T_, T_, F_] rfl rfl (by kernel_rfl) (by decide) (fun K hK => ?_)
          have hR24 := aM_ (Kd.R_below hR.out hX23.bel)
          have hT24 := hT.below hX23.bel
          refine Kd.R_append_step Kd.string (w0 := w) w.heap.size (by rfl) (.tmp 67) (.tmp 77) 52 9 (.string ⟨#[]⟩) 16 rfl Tryz.underlying52 info9 rfl (by decide) (by omega) u xk ((⟨#[116, 111, 32]⟩ : ByteArray) ++ ab ++ (⟨#[32, 119]⟩ : ByteArray) ++ nb) [.string ((⟨#[116, 111, 32]⟩ : ByteArray) ++ ab ++ (⟨#[32, 119]⟩ : ByteArray) ++ nb)] (fun _ => True) (fun _ => False) rfl rfl ?aP (fun _ hk => hk.elim) ?aF ?aO ?aB ?aS ?aL ?_
          (case aP => exact rfl)
          (case aF => exact (fun _ _ => trivial))
          (case aO => exact hR24.out)
          (case aB => exact hT24.bel)
          (case aS => exact hT24.bel.size)
          (case aL => have := HKL.out; omega)
          intro v25 w25 ho hb hg hat
          have hX25 := blk_grown hX23.h hg (nt_own hR24.out hX23.h (by decide))
          have hT25 := tn2_grown hT24 hR24.out (by decide) hg hb
          have hO25 := aM_ ho
          clear ho hb hg hat
          refine hK.out _ _ ?_
          clear hK K
          refine norm_ (a' := ?_) ?_ ?_
          rotate_left
          · show Act.put _ (some 78) _ = _
            simp only [Act.put, sA_, sB_, sC_, i64_w, i32_w]
            rfl
          refine pure_ (i := 12) (N := some 3) (v := ?_) (a' := ?_) #[T_, T_, T_, T_, T_, T_, T_, T_, T_, T_, T_, T_, T_] rfl rfl (by kernel_rfl) (fun _ _ _ h => h) (Or.inl ⟨by rfl, ?_⟩) ?_ ?_
          rotate_left
          · intro w'
            go_simp
            with_reducible rfl
          rotate_left
          · simp only [Act.put, sA_, sB_, sC_, i64_w, i32_w]
            rfl
          refine done_ (by kernel_rfl) ?_
          clear hHeld hZd f1 f2 f3 cA cI
          go_wp2
          go_roundw
          case rel => exact ⟨k + 1, _, by omega, rfl, by go_num, hT25, ⟨by rw [HK.out]; exact hO25.out⟩⟩
          case measure => first | (simp [intOf]; done) | (simp [intOf]; omega)
        · obtain rfl : k = m.length := by omega
          rw [List.take_of_length_le (Nat.le_refl _)] at hR
          have d1 : decide ((m.length : Int) < (m.length : Int)) = false := by simp
          have e : lw ++ m.map driveB = itemsB l m := by unfold itemsB; rw [HLW.out]
          rw [e] at hR
          have hLx : Aside0 ((itemsB l m).length ≤ 12) := ⟨by unfold itemsB; rw [List.length_append, List.length_map, List.length_map]; omega⟩
          have hSx : Aside0 (∀ z ∈ itemsB l m, z.size ≤ 1000) := ⟨by
            intro z hz
            unfold itemsB at hz
            rcases List.mem_append.1 hz with hz | hz
            · obtain ⟨x, hx, rfl⟩ := List.mem_map.1 hz
              exact wireB_size (HW.out x hx) (by omega)
            · obtain ⟨y, hy, rfl⟩ := List.mem_map.1 hz
              have hY := HDR.out y hy
              have hA := aOk_rng hY.1
              exact driveB_size hA.1 hA.2 hY.2.1 (by omega)⟩
          have HN : Aside0 (netB l m = if (itemsB l m).length = 0 then ⟨#[45]⟩ else joinS (itemsB l m) ⟨#[32, 59, 32]⟩) := ⟨rfl⟩
          clear e HLW HLL hk hkl
          generalize itemsB l m = its at *
          obtain ⟨A2, c2, rfl⟩ := Kd.R_slice hR.out
          by_cases hz : its.length = 0
          · have d2 : ((its.length : Int) == 0) = true := by simp [hz]
            have HZ := aM_ hz
            clear hz
            go_wp2
            go_ret
            exact ⟨by rw [HN.out, if_pos HZ.out]; rfl, hT.bel⟩
          · have d2 : ((its.length : Int) == 0) = false := by simpa using hz
            have cj := joinC _ its ⟨#[32, 59, 32]⟩ wp hR.out (by omega) (by have := hLx.out; omega) (join_fit _ _ hSx.out (by have := hLx.out; omega) (by decide))
            have HZ := aM_ hz
            clear hz
            go_wp2_with fail
            refine cj.mono ?_
            rintro e w26 ⟨rfl, hb⟩
            have hB := (hT.below hb).bel
            clear hb cj hT hR
            go_wp2
            go_ret
            exact ⟨by rw [HN.out, if_neg HZ.out]; rfl, hB⟩
set_option maxRecDepth 100000 in
theorem netTextBad (l : List S43) (m : List S66) (A B : Option Addr) (c d : Nat) (w : World) (hc : l.length ≤ c) (hd : m.length ≤ d) (hC : Kd.C k43 w A l.length l) (hD : Kd.C k66 w B m.length m) (hok : nOk l m = false) :
    Calls Tryz.prog 9 #[.agg #[.slice A l.length c, .slice B m.length d]] w fun e w' => e = .returned (.string ⟨#[]⟩) ∧ Below w.heap.size w w' := by
  have hu31 := Tryz.underlying31
  have hT : Tn2 w w.heap.size 31 #[.slice A l.length c, .slice B m.length d] (w.alloc (.cells #[.slice A l.length c, .slice B m.length d] 31)) := ⟨heap_alloc_new _ _, al w _⟩
  have c23 := netOkC l m A B c d _ hc hd (Kd.C_below hC hT.bel) (Kd.C_below hD hT.bel)
  rw [hok] at c23
  have i0 : (w.alloc (.cells #[.slice A l.length c, .slice B m.length d] 31)).cell? ⟨w.heap.size, 0, none⟩ = some (.slice A l.length c) := (kC_ hT.h 0).trans rfl
  have i1 : (w.alloc (.cells #[.slice A l.length c, .slice B m.length d] 31)).cell? ⟨w.heap.size, 1, none⟩ = some (.slice B m.length d) := (kC_ hT.h 1).trans rfl
  go_enter Tryz.func9, Tryz.ntmps9
  go_wp2_with fail
  refine c23.mono ?_
  rintro e w1 ⟨rfl, hb⟩
  have hB := (hT.below hb).bel
  clear hb c23 i0 i1 hT
  go_wp2
  go_ret
  exact ⟨rfl, hB⟩
def netT (l : List S43) (m : List S66) : ByteArray := if nOk l m = true then netB l m else ⟨#[]⟩
theorem netTextC (l : List S43) (m : List S66) (A B : Option Addr) (c d : Nat) (w : World) (hc : l.length ≤ c) (hd : m.length ≤ d) (hC : Kd.C k43 w A l.length l) (hD : Kd.C k66 w B m.length m) (ht : Tb w) :
    Calls Tryz.prog 9 #[.agg #[.slice A l.length c, .slice B m.length d]] w fun e w' => e = .returned (.string (netT l m)) ∧ Below w.heap.size w w' := by
  unfold netT
  cases hok : nOk l m with
  | true => exact netTextOk l m A B c d w hc hd hC hD hok ht
  | false => exact netTextBad l m A B c d w hc hd hC hD hok
end Go.Proofs.YtphblfmjdiigkaaGreatDoor.Hv4
