-- Made by a program of this session (hp.py) over the kit's print: functions told by hand stand beside printed ones. Lean checks it.
import Derived.Test.YtjamfddhcigchaaGreatDoorTFnCodeSameHFnCodeSamex11
namespace Go.Proofs.YtjamfddhcigchaaGreatDoor.HFnCodeSame
open Go.RowKit Go.Proofs.YtjamfddhcigchaaGreatDoorW.PrintWords Go.Proofs.YtjamfddhcigchaaGreatDoorW.PrintLast Go.Proofs.YtjamfddhcigchaaGreatDoorW.PrintMore
attribute [local go_sem] max2_int min2_int max_two min_two max_three min_three max_four min_four
set_option linter.unusedVariables false
set_option linter.unusedSimpArgs false
attribute [local go_sem high] eqA30
def impl_CodeSame.f (k : Nat) (l0 : List (S30)) (l1 : List (S30)) : Option (Bool) := (impl_Ins.f k l0 l1).bind fun t396 => (some t396)
set_option maxHeartbeats 8000000 in
set_option maxRecDepth 100000 in
theorem impl_CodeSame.calls (k : Nat) (A0 : Option Addr) (c0 : Nat) (l0 : List (S30)) (A1 : Option Addr) (c1 : Nat) (l1 : List (S30)) (r : Bool) (w : World) (hr0 : Kd.C k30 w A0 l0.length l0) (hc0 : l0.length ≤ c0) (hr1 : Kd.C k30 w A1 l1.length l1) (hc1 : l1.length ≤ c1) (h : impl_CodeSame.f k l0 l1 = some r) :
    Calls Tryz.prog 9 #[.slice A0 l0.length c0, .slice A1 l1.length c1] w fun e w' => e = .returned (.bool r) ∧ Drawn0 w w' := by
 have HR0 := aM_ hr0
 have HC0 := aM_ hc0
 clear hr0 hc0
 have HR1 := aM_ hr1
 have HC1 := aM_ hc1
 clear hr1 hc1
 have H : ((impl_Ins.f k l0 l1).bind fun t396 => (some t396)) = some r := h
 clear h
 replace H := oB_ H
 obtain ⟨t396, A30, H⟩ := H
 have A3 := aM_ A30
 clear A30
 obtain rfl := oI_ H
 go_enter Tryz.func9, Tryz.ntmps9
 go_wp2_with (first | ((with_reducible refine gc_ 33 ?_); refine gL_ (some 7) Tryz.func33 #[.slice A0 l0.length c0, .slice A1 l1.length c1] ?_; (with_reducible refine (impl_Ins.calls k _ _ l0 _ _ l1 t396 _ ?side1 ?side2 ?side3 ?side4 A3.out).mono ?_); (case side1 => exact qC (HR0.out)); (case side2 => exact HC0.out); (case side3 => exact qC (HR1.out)); (case side4 => exact HC1.out); rintro e w' ⟨rfl, ⟨nd, rfl⟩⟩; refine ⟨_, rfl, ?_⟩))
 go_ret
 exact ⟨qF, by repeat (first | exact Drawn0.refl _ | apply Drawn0.step)⟩
def spec_CodeSame.l0 : Nat → List (S30) → List (S30) → Int → Option (Bool)
  | 0, _, _, _ => none
  | k + 1, x0, x1, x5 => if x5 < (x0.length : Int) then (if 0 ≤ x5 then (if x5 < (x1.length : Int) then (if (!(((rd_T30 x0 x5).f0) == ((rd_T30 x1 x5).f0)) || (!(((rd_T30 x0 x5).f1) == ((rd_T30 x1 x5).f1)) || ((!(((rd_T30 x0 x5).f2.f0) == ((rd_T30 x1 x5).f2.f0)) || (!(((rd_T30 x0 x5).f2.f1) == ((rd_T30 x1 x5).f2.f1))))))) = true then (some false) else (spec_CodeSame.l0 k x0 x1 (wrap64 (x5 + 1)))) else (none)) else (none)) else (some true)
def spec_CodeSame.f (k : Nat) (l0 : List (S30)) (l1 : List (S30)) : Option (Bool) := if (l0.length : Int) = (l1.length : Int) then (spec_CodeSame.l0 k l0 l1 0) else (some false)
set_option maxHeartbeats 8000000 in
set_option maxRecDepth 100000 in
theorem spec_CodeSame.calls (k : Nat) (A0 : Option Addr) (c0 : Nat) (l0 : List (S30)) (A1 : Option Addr) (c1 : Nat) (l1 : List (S30)) (r : Bool) (w : World) (hr0 : Kd.C k30 w A0 l0.length l0) (hc0 : l0.length ≤ c0) (hr1 : Kd.C k30 w A1 l1.length l1) (hc1 : l1.length ≤ c1) (h : spec_CodeSame.f k l0 l1 = some r) :
    Calls Tryz.prog 10 #[.slice A0 l0.length c0, .slice A1 l1.length c1] w fun e w' => e = .returned (.bool r) ∧ Drawn0 w w' := by
 have hu30 := Tryz.underlying30
 have HR0 := aM_ hr0
 have HC0 := aM_ hc0
 clear hr0 hc0
 have HR1 := aM_ hr1
 have HC1 := aM_ hc1
 clear hr1 hc1
 have H : (if (l0.length : Int) = (l1.length : Int) then (spec_CodeSame.l0 k l0 l1 0) else (some false)) = some r := h
 clear h
 by_cases c3 : (l0.length : Int) = (l1.length : Int)
 rotate_left
 · rw [if_neg c3] at H
   have c3b0 : ((l0.length : Int) == (l1.length : Int)) = false := beq_eq_false_iff_ne.mpr c3
   have c3b1 : ((l0.length : Int) != (l1.length : Int)) = true := bne_iff_ne.mpr c3
   have c3b2 : (l0.length == l1.length) = false := by first | simpa using c3 | (simp at c3 ⊢; omega)
   obtain rfl := oI_ H
   go_enter Tryz.func10, Tryz.ntmps10
   go_wp2
   repeat (go_quiet (fail); try go_wp2)
   go_ret
   exact ⟨qF, by repeat (first | exact Drawn0.refl _ | apply Drawn0.step)⟩
 rw [if_pos c3] at H
 have c3b0 : ((l0.length : Int) == (l1.length : Int)) = true := beq_iff_eq.mpr c3
 have c3b1 : ((l0.length : Int) != (l1.length : Int)) = false := bne_eq_false_iff_eq.mpr c3
 have c3b2 : (l0.length == l1.length) = true := by first | simpa using c3 | (simp at c3 ⊢; omega)
 clear c3
 have H' := aM_ H
 clear H
 go_enter Tryz.func10, Tryz.ntmps10
 go_wp2
 repeat (go_quiet (fail); try go_wp2)
 go_loopg [5] k (fun kq v5 w' => ∃ (x5_1 : Int), v5 = .int .i64 x5_1 ∧ Aside0 (spec_CodeSame.l0 kq l0 l1 x5_1 = some r) ∧ Aside0 (kq ≤ k) ∧ Drawn0 w w')
 case atStart => exact ⟨(0), qF, H', ⟨Nat.le_refl _⟩, by repeat (first | exact Drawn0.refl _ | apply Drawn0.step)⟩
 case round =>
  clear H'
  try clear c1
  try clear p2
  try clear c3
  try clear c3b0
  try clear c3b1
  try clear c3b2
  obtain ⟨x5_1, rfl, HA, HK1, ⟨m1, rfl⟩⟩ := hrel
  cases gk with
  | zero => exact absurd HA.out (by simp [spec_CodeSame.l0])
  | succ k1 =>
   have H := HA.out
   clear HA
   simp only [spec_CodeSame.l0] at H
   by_cases c4 : x5_1 < (l0.length : Int)
   rotate_left
   · rw [if_neg c4] at H
     have c4b0 : decide (x5_1 < (l0.length : Int)) = false := dF_ c4
     clear c4
     obtain rfl := oI_ H
     go_wp2
     repeat (go_quiet (fail); try go_wp2)
     go_ret
     exact ⟨qF, by repeat (first | exact Drawn0.refl _ | apply Drawn0.step)⟩
   rw [if_pos c4] at H
   have c4b0 : decide (x5_1 < (l0.length : Int)) = true := dT_ c4
   clear c4
   by_cases c5 : 0 ≤ x5_1
   rotate_left
   · rw [if_neg c5] at H
     exact absurd H (by simp)
   rw [if_pos c5] at H
   have c5b0 : decide (0 ≤ x5_1) = true := dT_ c5
   clear c5
   by_cases c6 : x5_1 < (l1.length : Int)
   rotate_left
   · rw [if_neg c6] at H
     exact absurd H (by simp)
   rw [if_pos c6] at H
   have c6b0 : decide (x5_1 < (l1.length : Int)) = true := dT_ c6
   clear c6
   by_cases c7 : (!(((rd_T30 l0 x5_1).f0) == ((rd_T30 l1 x5_1).f0)) || (!(((rd_T30 l0 x5_1).f1) == ((rd_T30 l1 x5_1).f1)) || ((!(((rd_T30 l0 x5_1).f2.f0) == ((rd_T30 l1 x5_1).f2.f0)) || (!(((rd_T30 l0 x5_1).f2.f1) == ((rd_T30 l1 x5_1).f2.f1))))))) = true
   · rw [if_pos c7] at H
     have c7b0 : (!(((rd_T30 l0 x5_1).f0) == ((rd_T30 l1 x5_1).f0)) || (!(((rd_T30 l0 x5_1).f1) == ((rd_T30 l1 x5_1).f1)) || ((!(((rd_T30 l0 x5_1).f2.f0) == ((rd_T30 l1 x5_1).f2.f0)) || (!(((rd_T30 l0 x5_1).f2.f1) == ((rd_T30 l1 x5_1).f2.f1))))))) = true := c7
     clear c7
     obtain rfl := oI_ H
     have p397 : 0 ≤ (x5_1 : Int) := oD_ (by first | (with_reducible assumption) | assumption)
     have q397 : x5_1 < (l0.length : Int) := oD_ (by first | (with_reducible assumption) | assumption)
     obtain ⟨ad397, e397, hx397_0, hx397_1, hx397_2, hx397_3⟩ := at_T30 HR0.out x5_1 p397 q397
     cases e397
     replace p397 := eq_true p397
     replace q397 := eq_true q397
     have p398 : 0 ≤ (x5_1 : Int) := oD_ (by first | (with_reducible assumption) | assumption)
     have q398 : x5_1 < (l1.length : Int) := oD_ (by first | (with_reducible assumption) | assumption)
     obtain ⟨ad398, e398, hx398_0, hx398_1, hx398_2, hx398_3⟩ := at_T30 HR1.out x5_1 p398 q398
     cases e398
     replace p398 := eq_true p398
     replace q398 := eq_true q398
     go_wp2
     repeat (go_quiet (fail); try go_wp2)
     go_ret
     exact ⟨qF, by repeat (first | exact Drawn0.refl _ | apply Drawn0.step)⟩
   rw [if_neg c7] at H
   have c7b0 : (!(((rd_T30 l0 x5_1).f0) == ((rd_T30 l1 x5_1).f0)) || (!(((rd_T30 l0 x5_1).f1) == ((rd_T30 l1 x5_1).f1)) || ((!(((rd_T30 l0 x5_1).f2.f0) == ((rd_T30 l1 x5_1).f2.f0)) || (!(((rd_T30 l0 x5_1).f2.f1) == ((rd_T30 l1 x5_1).f2.f1))))))) = false := by simpa using c7
   clear c7
   have H' := aM_ H
   clear H
   have p397 : 0 ≤ (x5_1 : Int) := oD_ (by first | (with_reducible assumption) | assumption)
   have q397 : x5_1 < (l0.length : Int) := oD_ (by first | (with_reducible assumption) | assumption)
   obtain ⟨ad397, e397, hx397_0, hx397_1, hx397_2, hx397_3⟩ := at_T30 HR0.out x5_1 p397 q397
   cases e397
   replace p397 := eq_true p397
   replace q397 := eq_true q397
   have p398 : 0 ≤ (x5_1 : Int) := oD_ (by first | (with_reducible assumption) | assumption)
   have q398 : x5_1 < (l1.length : Int) := oD_ (by first | (with_reducible assumption) | assumption)
   obtain ⟨ad398, e398, hx398_0, hx398_1, hx398_2, hx398_3⟩ := at_T30 HR1.out x5_1 p398 q398
   cases e398
   replace p398 := eq_true p398
   replace q398 := eq_true q398
   go_wp2
   repeat (go_quiet (fail); try go_wp2)
   go_roundg k1
   case measure => have := HK1.out; omega
   case rel => exact ⟨(wrap64 (x5_1 + 1)), qF, H', ⟨by have := HK1.out; omega⟩, by repeat (first | exact Drawn0.refl _ | apply Drawn0.step)⟩
def spec_MemOpen.f  : Option (List Int × List Int × List Int) := if 6 ≤ 35184372088832 then (some ((List.replicate 6 0), (List.replicate 6 0), (List.replicate 6 0))) else (none)
set_option maxHeartbeats 8000000 in
set_option maxRecDepth 100000 in
theorem spec_MemOpen.calls  (r1 : List Int) (r2 : List Int) (r3 : List Int) (w : World) (h : spec_MemOpen.f  = some (r1, r2, r3)) :
    Calls Tryz.prog 88 #[] w fun e w' => ∃ v0_ v1_ v2_ : Value, e = .returned (.agg #[v0_, v1_, v2_]) ∧ Kd.R (Kd.int .i64) 3 w' w.heap.size (fun k_ => some k_ ≠ (v1_ : Value).ownBlock ∧ some k_ ≠ (v2_ : Value).ownBlock) v0_ r1 ∧ Kd.R (Kd.int .i64) 3 w' w.heap.size (fun k_ => some k_ ≠ (v0_ : Value).ownBlock ∧ some k_ ≠ (v2_ : Value).ownBlock) v1_ r2 ∧ Kd.R (Kd.int .i64) 3 w' w.heap.size (fun k_ => some k_ ≠ (v0_ : Value).ownBlock ∧ some k_ ≠ (v1_ : Value).ownBlock) v2_ r3 ∧ Below w.heap.size w w' := by
 have hu33 := Tryz.underlying33
 have HB := aM_ (Below.refl w.heap.size w)
 have H : (if 6 ≤ 35184372088832 then (some ((List.replicate 6 0), (List.replicate 6 0), (List.replicate 6 0))) else (none)) = some (r1, r2, r3) := h
 clear h
 by_cases c1 : 6 ≤ 35184372088832
 rotate_left
 · rw [if_neg c1] at H
   exact absurd H (by simp)
 rw [if_pos c1] at H
 have c1b0 := eq_true c1
 have c1b1 : decide (6 ≤ 35184372088832) = true := dT_ c1
 clear c1
 obtain ⟨y400, hy400⟩ : ∃ y_ : List Int, y_ = (List.replicate 6 0) := ⟨_, rfl⟩
 replace H : (some (y400, (List.replicate 6 0), (List.replicate 6 0))) = some (r1, r2, r3) := by subst hy400; exact H
 have Ny400 := aM_ hy400
 clear hy400
 obtain ⟨y403, hy403⟩ : ∃ y_ : List Int, y_ = (List.replicate 6 0) := ⟨_, rfl⟩
 replace H : (some (y400, y403, (List.replicate 6 0))) = some (r1, r2, r3) := by subst hy403; exact H
 have Ny403 := aM_ hy403
 clear hy403
 obtain ⟨y406, hy406⟩ : ∃ y_ : List Int, y_ = (List.replicate 6 0) := ⟨_, rfl⟩
 replace H : (some (y400, y403, y406)) = some (r1, r2, r3) := by subst hy406; exact H
 have Ny406 := aM_ hy406
 clear hy406
 simp only [Option.some.injEq, Prod.mk.injEq] at H
 obtain ⟨rfl, rfl, rfl⟩ := H
 go_enter Tryz.func88, Tryz.ntmps88
 try go_wp2_with (first | ((with_reducible refine gate_dst (N := 0) rfl ?_); refine box_event ?hg (N := 0) ?hd (cs := #[.slice none 0 0, .slice none 0 0, .slice none 0 0]) (t := 33) ?hr ?_; (case hd => rfl); (case hg => rfl); (case hr => first | (go_simp; done) | (go_simp; rfl)); intro gb399 hg w2 hbox hb; have n0_ := aM_ (bT_ (qB HB) hb); have n1_ := aM_ (hbox); have n2_ := aM_ ((by rw [hg]; exact (bZ_ (qB HB)) : w.heap.size ≤ gb399)); have n3_ := aM_ ((by rw [hg]; exact (bZ_ (qB HB)) : w.heap.size ≤ gb399)); clear HB; have HB := n0_; have BK399 := n1_; have GW399 := n2_; have GE399 := n3_; clear n0_ n1_ n2_ n3_ hb hbox hg))
 have n0_ := aM_ (kD_ BK399.out)
 have n1_ := aM_ (b1_ HB.out)
 clear BK399 HB
 revert n0_ n1_
 intro BK399 HB
 refine start_ (n := 5) (S := fun w' => True) (ds := []) #[F_, F_, F_, F_, F_] (by kernel_rfl) rfl rfl trivial (fun hHeld => ?_)
 generalize w2.drew = w3 at BK399 HB hHeld ⊢
 refine join_ (σ := Value × Value × Value) 2 #[T_, T_, T_, F_, F_] (fun s_ => [(1, s_.1), (2, s_.2.1), (3, s_.2.2)]) (fun s_ w' => (Kd.R (Kd.int .i64) 3 w' w.heap.size (fun k_ => some k_ ≠ (s_.2.1 : Value).ownBlock ∧ some k_ ≠ (s_.2.2 : Value).ownBlock) s_.1 y400) ∧ (Kd.R (Kd.int .i64) 3 w' w.heap.size (fun k_ => some k_ ≠ (s_.1 : Value).ownBlock ∧ some k_ ≠ (s_.2.2 : Value).ownBlock) s_.2.1 y403) ∧ (Kd.R (Kd.int .i64) 3 w' w.heap.size (fun k_ => some k_ ≠ (s_.1 : Value).ownBlock ∧ some k_ ≠ (s_.2.1 : Value).ownBlock) s_.2.2 y406) ∧ (w'.heap[gb399]? = some (.cells #[.slice none 0 0, .slice none 0 0, .slice none 0 0] 33 (0, 0))) ∧ (Below w.heap.size w w')) ?_ ?_
 rotate_left
 · intro hJ0_1_2
   refine join_ (σ := Value × Value) 3 #[T_, T_, F_, F_, F_] (fun s_ => [(1, s_.1), (2, s_.2)]) (fun s_ w' => (Kd.R (Kd.int .i64) 3 w' w.heap.size (fun k_ => some k_ ≠ (s_.2 : Value).ownBlock) s_.1 y400) ∧ (Kd.R (Kd.int .i64) 3 w' w.heap.size (fun k_ => some k_ ≠ (s_.1 : Value).ownBlock) s_.2 y403) ∧ (w'.heap[gb399]? = some (.cells #[.slice none 0 0, .slice none 0 0, .slice none 0 0] 33 (0, 0))) ∧ (Below w.heap.size w w')) ?_ ?_
   rotate_left
   · intro hJ0_1
     refine join_ (σ := Value × Value) 3 #[T_, F_, T_, F_, F_] (fun s_ => [(1, s_.1), (3, s_.2)]) (fun s_ w' => (Kd.R (Kd.int .i64) 3 w' w.heap.size (fun k_ => some k_ ≠ (s_.2 : Value).ownBlock) s_.1 y400) ∧ (Kd.R (Kd.int .i64) 3 w' w.heap.size (fun k_ => some k_ ≠ (s_.1 : Value).ownBlock) s_.2 y406) ∧ (w'.heap[gb399]? = some (.cells #[.slice none 0 0, .slice none 0 0, .slice none 0 0] 33 (0, 0))) ∧ (Below w.heap.size w w')) ?_ ?_
     rotate_left
     · intro hJ0_2
       refine join_ (σ := Value × Value) 3 #[F_, T_, T_, F_, F_] (fun s_ => [(2, s_.1), (3, s_.2)]) (fun s_ w' => (Kd.R (Kd.int .i64) 3 w' w.heap.size (fun k_ => some k_ ≠ (s_.2 : Value).ownBlock) s_.1 y403) ∧ (Kd.R (Kd.int .i64) 3 w' w.heap.size (fun k_ => some k_ ≠ (s_.1 : Value).ownBlock) s_.2 y406) ∧ (w'.heap[gb399]? = some (.cells #[.slice none 0 0, .slice none 0 0, .slice none 0 0] 33 (0, 0))) ∧ (Below w.heap.size w w')) ?_ ?_
       rotate_left
       · intro hJ1_2
         refine join_ (σ := Value) 4 #[T_, F_, F_, F_, F_] (fun s_ => [(1, s_)]) (fun s_ w' => (Kd.R (Kd.int .i64) 3 w' w.heap.size (fun _ => True) s_ y400) ∧ (w'.heap[gb399]? = some (.cells #[.slice none 0 0, .slice none 0 0, .slice none 0 0] 33 (0, 0))) ∧ (Below w.heap.size w w')) ?_ ?_
         rotate_left
         · intro hJ0
           refine join_ (σ := Value) 4 #[F_, T_, F_, F_, F_] (fun s_ => [(2, s_)]) (fun s_ w' => (Kd.R (Kd.int .i64) 3 w' w.heap.size (fun _ => True) s_ y403) ∧ (w'.heap[gb399]? = some (.cells #[.slice none 0 0, .slice none 0 0, .slice none 0 0] 33 (0, 0))) ∧ (Below w.heap.size w w')) ?_ ?_
           rotate_left
           · intro hJ1
             refine join_ (σ := Value) 4 #[F_, F_, T_, F_, F_] (fun s_ => [(3, s_)]) (fun s_ w' => (Kd.R (Kd.int .i64) 3 w' w.heap.size (fun _ => True) s_ y406) ∧ (w'.heap[gb399]? = some (.cells #[.slice none 0 0, .slice none 0 0, .slice none 0 0] 33 (0, 0))) ∧ (Below w.heap.size w w')) ?_ ?_
             rotate_left
             · intro hJ2
               refine three_ (i := 0) (j := 1) (k := 2) (Ni := some 1) (Nj := some 2) (Nk := some 3) #[T_, F_, F_, F_, F_] #[F_, T_, F_, F_, F_] #[F_, F_, T_, F_, F_] rfl rfl rfl rfl rfl rfl (by kernel_rfl) (by decide) (by decide) (by decide) (fun K hK => ?_) (fun K hK => ?_) (fun K hK => ?_)
               · skip
                 refine Kd.R_make_step (Kd.int .i64) _ 3 (by rfl) (N := 1) rfl 31 _ _ rfl 6 rfl rfl Tryz.underlying31 (.int .i64 0) 8 info3 rfl (by decide) (by omega) 0 (ok := fun _ => True) (okp := fun _ => True) rfl (fun _ hk => hk) trivial (by omega) (by omega) (Below.refl _ _) (Nat.le_refl _) ?_
                 intro v401 w4 ho5 hb hg_ hnew_
                 clear hg_ hnew_
                 (first | rw [← Ny400.out] at ho5 | (simp only [Int.reduceToNat] at ho5; rw [← Ny400.out] at ho5))
                 have n0_ := aM_ (Kd.R_lower ho5 (bZ_ (qB HB)))
                 have n1_ := aM_ (blk_below (g := gb399) (o := .cells #[.slice none 0 0, .slice none 0 0, .slice none 0 0] 33 (0, 0)) qk hb)
                 have n2_ := aM_ (bT_ (qB HB) hb)
                 clear BK399 HB
                 have HO402 := n0_
                 have BK399 := n1_
                 have HB := n2_
                 clear n0_ n1_ n2_ hb ho5
                 refine hK.out _ _ trivial (fun hHeld => ?_)
                 clear hK K
                 refine norm_ (a' := ?_) ?_ ?_
                 rotate_left
                 · show Act.put _ (some 1) _ = _
                   simp only [Act.put, sA_, sB_, sC_, i64_w, i32_w]
                   rfl
                 exact norm_ (by first | (simp only [putAll, Act.put, sA_, sB_, sC_]; done) | (simp only [putAll, Act.put, sA_, sB_, sC_]; rfl)) (hJ0 (v401) _ ⟨(qR HO402), qk, (qB HB)⟩)
               · skip
                 refine Kd.R_make_step (Kd.int .i64) _ 3 (by rfl) (N := 2) rfl 31 _ _ rfl 6 rfl rfl Tryz.underlying31 (.int .i64 0) 8 info3 rfl (by decide) (by omega) 0 (ok := fun _ => True) (okp := fun _ => True) rfl (fun _ hk => hk) trivial (by omega) (by omega) (Below.refl _ _) (Nat.le_refl _) ?_
                 intro v404 w4 ho5 hb hg_ hnew_
                 clear hg_ hnew_
                 (first | rw [← Ny403.out] at ho5 | (simp only [Int.reduceToNat] at ho5; rw [← Ny403.out] at ho5))
                 have n0_ := aM_ (Kd.R_lower ho5 (bZ_ (qB HB)))
                 have n1_ := aM_ (blk_below (g := gb399) (o := .cells #[.slice none 0 0, .slice none 0 0, .slice none 0 0] 33 (0, 0)) qk hb)
                 have n2_ := aM_ (bT_ (qB HB) hb)
                 clear BK399 HB
                 have HO405 := n0_
                 have BK399 := n1_
                 have HB := n2_
                 clear n0_ n1_ n2_ hb ho5
                 refine hK.out _ _ trivial (fun hHeld => ?_)
                 clear hK K
                 refine norm_ (a' := ?_) ?_ ?_
                 rotate_left
                 · show Act.put _ (some 2) _ = _
                   simp only [Act.put, sA_, sB_, sC_, i64_w, i32_w]
                   rfl
                 exact norm_ (by first | (simp only [putAll, Act.put, sA_, sB_, sC_]; done) | (simp only [putAll, Act.put, sA_, sB_, sC_]; rfl)) (hJ1 (v404) _ ⟨(qR HO405), qk, (qB HB)⟩)
               · skip
                 refine Kd.R_make_step (Kd.int .i64) _ 3 (by rfl) (N := 3) rfl 31 _ _ rfl 6 rfl rfl Tryz.underlying31 (.int .i64 0) 8 info3 rfl (by decide) (by omega) 0 (ok := fun _ => True) (okp := fun _ => True) rfl (fun _ hk => hk) trivial (by omega) (by omega) (Below.refl _ _) (Nat.le_refl _) ?_
                 intro v407 w4 ho5 hb hg_ hnew_
                 clear hg_ hnew_
                 (first | rw [← Ny406.out] at ho5 | (simp only [Int.reduceToNat] at ho5; rw [← Ny406.out] at ho5))
                 have n0_ := aM_ (Kd.R_lower ho5 (bZ_ (qB HB)))
                 have n1_ := aM_ (blk_below (g := gb399) (o := .cells #[.slice none 0 0, .slice none 0 0, .slice none 0 0] 33 (0, 0)) qk hb)
                 have n2_ := aM_ (bT_ (qB HB) hb)
                 clear BK399 HB
                 have HO408 := n0_
                 have BK399 := n1_
                 have HB := n2_
                 clear n0_ n1_ n2_ hb ho5
                 refine hK.out _ _ trivial (fun hHeld => ?_)
                 clear hK K
                 refine norm_ (a' := ?_) ?_ ?_
                 rotate_left
                 · show Act.put _ (some 3) _ = _
                   simp only [Act.put, sA_, sB_, sC_, i64_w, i32_w]
                   rfl
                 exact norm_ (by first | (simp only [putAll, Act.put, sA_, sB_, sC_]; done) | (simp only [putAll, Act.put, sA_, sB_, sC_]; rfl)) (hJ2 (v407) _ ⟨(qR HO408), qk, (qB HB)⟩)
             · skip
               rintro v407 w6 ⟨h0_, h1_, h2_⟩
               have n0_ : Aside0 (Kd.R (Kd.int .i64) 3 w6 w.heap.size (fun _ => True) v407 y406) := ⟨h0_⟩
               have n1_ : Aside0 (w6.heap[gb399]? = some (.cells #[.slice none 0 0, .slice none 0 0, .slice none 0 0] 33 (0, 0))) := ⟨h1_⟩
               have n2_ : Aside0 (Below w.heap.size w w6) := ⟨h2_⟩
               clear BK399 HB h0_ h1_ h2_
               revert n0_ n1_ n2_
               intro HO408 BK399 HB
               have hHeld := trivial
               refine norm_ (a' := ?_) ?_ ?_
               rotate_left
               · simp only [putAll, Act.put, sA_, sB_, sC_]
                 rfl
               refine two_ (i := 0) (j := 1) (Ni := some 1) (Nj := some 2) #[T_, F_, T_, F_, F_] #[F_, T_, T_, F_, F_] rfl rfl rfl rfl (by kernel_rfl) (by decide) (by decide) (fun K hK => ?_) (fun K hK => ?_)
               · skip
                 refine Kd.R_make_step (Kd.int .i64) _ 3 (by rfl) (N := 1) rfl 31 _ _ rfl 6 rfl rfl Tryz.underlying31 (.int .i64 0) 8 info3 rfl (by decide) (by omega) 0 (ok := fun _ => True) (okp := fun _ => True) rfl (fun _ hk => hk) trivial (by omega) (by omega) (Below.refl _ _) (Nat.le_refl _) ?_
                 intro v401 w7 ho8 hb hg_ hnew_
                 clear hg_ hnew_
                 (first | rw [← Ny400.out] at ho8 | (simp only [Int.reduceToNat] at ho8; rw [← Ny400.out] at ho8))
                 have n0_ := aM_ (Kd.R_elder' (qR HO408) (Kd.R_base ho8) hb)
                 have n1_ := aM_ (Kd.R_lower (Kd.R_new' ho8 (Kd.R_lt (qR HO408))) (bZ_ (qB HB)))
                 have n2_ := aM_ (blk_below (g := gb399) (o := .cells #[.slice none 0 0, .slice none 0 0, .slice none 0 0] 33 (0, 0)) qk hb)
                 have n3_ := aM_ (bT_ (qB HB) hb)
                 clear HO408 BK399 HB
                 have HO408 := n0_
                 have HO402 := n1_
                 have BK399 := n2_
                 have HB := n3_
                 clear n0_ n1_ n2_ n3_ hb ho8
                 refine hK.out _ _ trivial (fun hHeld => ?_)
                 clear hK K
                 refine norm_ (a' := ?_) ?_ ?_
                 rotate_left
                 · show Act.put _ (some 1) _ = _
                   simp only [Act.put, sA_, sB_, sC_, i64_w, i32_w]
                   rfl
                 exact norm_ (by first | (simp only [putAll, Act.put, sA_, sB_, sC_]; done) | (simp only [putAll, Act.put, sA_, sB_, sC_]; rfl)) (hJ0_2 (v401, v407) _ ⟨(qr (Kd.R_mono HO402.out (fun _ hk => hk.2))), (qr (Kd.R_mono HO408.out (fun _ hk => hk.2))), qk, (qB HB)⟩)
               · skip
                 refine Kd.R_make_step (Kd.int .i64) _ 3 (by rfl) (N := 2) rfl 31 _ _ rfl 6 rfl rfl Tryz.underlying31 (.int .i64 0) 8 info3 rfl (by decide) (by omega) 0 (ok := fun _ => True) (okp := fun _ => True) rfl (fun _ hk => hk) trivial (by omega) (by omega) (Below.refl _ _) (Nat.le_refl _) ?_
                 intro v404 w7 ho8 hb hg_ hnew_
                 clear hg_ hnew_
                 (first | rw [← Ny403.out] at ho8 | (simp only [Int.reduceToNat] at ho8; rw [← Ny403.out] at ho8))
                 have n0_ := aM_ (Kd.R_elder' (qR HO408) (Kd.R_base ho8) hb)
                 have n1_ := aM_ (Kd.R_lower (Kd.R_new' ho8 (Kd.R_lt (qR HO408))) (bZ_ (qB HB)))
                 have n2_ := aM_ (blk_below (g := gb399) (o := .cells #[.slice none 0 0, .slice none 0 0, .slice none 0 0] 33 (0, 0)) qk hb)
                 have n3_ := aM_ (bT_ (qB HB) hb)
                 clear HO408 BK399 HB
                 have HO408 := n0_
                 have HO405 := n1_
                 have BK399 := n2_
                 have HB := n3_
                 clear n0_ n1_ n2_ n3_ hb ho8
                 refine hK.out _ _ trivial (fun hHeld => ?_)
                 clear hK K
                 refine norm_ (a' := ?_) ?_ ?_
                 rotate_left
                 · show Act.put _ (some 2) _ = _
                   simp only [Act.put, sA_, sB_, sC_, i64_w, i32_w]
                   rfl
                 exact norm_ (by first | (simp only [putAll, Act.put, sA_, sB_, sC_]; done) | (simp only [putAll, Act.put, sA_, sB_, sC_]; rfl)) (hJ1_2 (v404, v407) _ ⟨(qr (Kd.R_mono HO405.out (fun _ hk => hk.2))), (qr (Kd.R_mono HO408.out (fun _ hk => hk.2))), qk, (qB HB)⟩)
           · skip
             rintro v404 w6 ⟨h0_, h1_, h2_⟩
             have n0_ : Aside0 (Kd.R (Kd.int .i64) 3 w6 w.heap.size (fun _ => True) v404 y403) := ⟨h0_⟩
             have n1_ : Aside0 (w6.heap[gb399]? = some (.cells #[.slice none 0 0, .slice none 0 0, .slice none 0 0] 33 (0, 0))) := ⟨h1_⟩
             have n2_ : Aside0 (Below w.heap.size w w6) := ⟨h2_⟩
             clear BK399 HB h0_ h1_ h2_
             revert n0_ n1_ n2_
             intro HO405 BK399 HB
             have hHeld := trivial
             refine norm_ (a' := ?_) ?_ ?_
             rotate_left
             · simp only [putAll, Act.put, sA_, sB_, sC_]
               rfl
             refine two_ (i := 0) (j := 2) (Ni := some 1) (Nj := some 3) #[T_, T_, F_, F_, F_] #[F_, T_, T_, F_, F_] rfl rfl rfl rfl (by kernel_rfl) (by decide) (by decide) (fun K hK => ?_) (fun K hK => ?_)
             · skip
               refine Kd.R_make_step (Kd.int .i64) _ 3 (by rfl) (N := 1) rfl 31 _ _ rfl 6 rfl rfl Tryz.underlying31 (.int .i64 0) 8 info3 rfl (by decide) (by omega) 0 (ok := fun _ => True) (okp := fun _ => True) rfl (fun _ hk => hk) trivial (by omega) (by omega) (Below.refl _ _) (Nat.le_refl _) ?_
               intro v401 w7 ho8 hb hg_ hnew_
               clear hg_ hnew_
               (first | rw [← Ny400.out] at ho8 | (simp only [Int.reduceToNat] at ho8; rw [← Ny400.out] at ho8))
               have n0_ := aM_ (Kd.R_elder' (qR HO405) (Kd.R_base ho8) hb)
               have n1_ := aM_ (Kd.R_lower (Kd.R_new' ho8 (Kd.R_lt (qR HO405))) (bZ_ (qB HB)))
               have n2_ := aM_ (blk_below (g := gb399) (o := .cells #[.slice none 0 0, .slice none 0 0, .slice none 0 0] 33 (0, 0)) qk hb)
               have n3_ := aM_ (bT_ (qB HB) hb)
               clear HO405 BK399 HB
               have HO405 := n0_
               have HO402 := n1_
               have BK399 := n2_
               have HB := n3_
               clear n0_ n1_ n2_ n3_ hb ho8
               refine hK.out _ _ trivial (fun hHeld => ?_)
               clear hK K
               refine norm_ (a' := ?_) ?_ ?_
               rotate_left
               · show Act.put _ (some 1) _ = _
                 simp only [Act.put, sA_, sB_, sC_, i64_w, i32_w]
                 rfl
               exact norm_ (by first | (simp only [putAll, Act.put, sA_, sB_, sC_]; done) | (simp only [putAll, Act.put, sA_, sB_, sC_]; rfl)) (hJ0_1 (v401, v404) _ ⟨(qr (Kd.R_mono HO402.out (fun _ hk => hk.2))), (qr (Kd.R_mono HO405.out (fun _ hk => hk.2))), qk, (qB HB)⟩)
             · skip
               refine Kd.R_make_step (Kd.int .i64) _ 3 (by rfl) (N := 3) rfl 31 _ _ rfl 6 rfl rfl Tryz.underlying31 (.int .i64 0) 8 info3 rfl (by decide) (by omega) 0 (ok := fun _ => True) (okp := fun _ => True) rfl (fun _ hk => hk) trivial (by omega) (by omega) (Below.refl _ _) (Nat.le_refl _) ?_
               intro v407 w7 ho8 hb hg_ hnew_
               clear hg_ hnew_
               (first | rw [← Ny406.out] at ho8 | (simp only [Int.reduceToNat] at ho8; rw [← Ny406.out] at ho8))
               have n0_ := aM_ (Kd.R_elder' (qR HO405) (Kd.R_base ho8) hb)
               have n1_ := aM_ (Kd.R_lower (Kd.R_new' ho8 (Kd.R_lt (qR HO405))) (bZ_ (qB HB)))
               have n2_ := aM_ (blk_below (g := gb399) (o := .cells #[.slice none 0 0, .slice none 0 0, .slice none 0 0] 33 (0, 0)) qk hb)
               have n3_ := aM_ (bT_ (qB HB) hb)
               clear HO405 BK399 HB
               have HO405 := n0_
               have HO408 := n1_
               have BK399 := n2_
               have HB := n3_
               clear n0_ n1_ n2_ n3_ hb ho8
               refine hK.out _ _ trivial (fun hHeld => ?_)
               clear hK K
               refine norm_ (a' := ?_) ?_ ?_
               rotate_left
               · show Act.put _ (some 3) _ = _
                 simp only [Act.put, sA_, sB_, sC_, i64_w, i32_w]
                 rfl
               exact norm_ (by first | (simp only [putAll, Act.put, sA_, sB_, sC_]; done) | (simp only [putAll, Act.put, sA_, sB_, sC_]; rfl)) (hJ1_2 (v404, v407) _ ⟨(qr (Kd.R_mono HO405.out (fun _ hk => hk.2))), (qr (Kd.R_mono HO408.out (fun _ hk => hk.2))), qk, (qB HB)⟩)
         · skip
           rintro v401 w6 ⟨h0_, h1_, h2_⟩
           have n0_ : Aside0 (Kd.R (Kd.int .i64) 3 w6 w.heap.size (fun _ => True) v401 y400) := ⟨h0_⟩
           have n1_ : Aside0 (w6.heap[gb399]? = some (.cells #[.slice none 0 0, .slice none 0 0, .slice none 0 0] 33 (0, 0))) := ⟨h1_⟩
           have n2_ : Aside0 (Below w.heap.size w w6) := ⟨h2_⟩
           clear BK399 HB h0_ h1_ h2_
           revert n0_ n1_ n2_
           intro HO402 BK399 HB
           have hHeld := trivial
           refine norm_ (a' := ?_) ?_ ?_
           rotate_left
           · simp only [putAll, Act.put, sA_, sB_, sC_]
             rfl
           refine two_ (i := 1) (j := 2) (Ni := some 2) (Nj := some 3) #[T_, T_, F_, F_, F_] #[T_, F_, T_, F_, F_] rfl rfl rfl rfl (by kernel_rfl) (by decide) (by decide) (fun K hK => ?_) (fun K hK => ?_)
           · skip
             refine Kd.R_make_step (Kd.int .i64) _ 3 (by rfl) (N := 2) rfl 31 _ _ rfl 6 rfl rfl Tryz.underlying31 (.int .i64 0) 8 info3 rfl (by decide) (by omega) 0 (ok := fun _ => True) (okp := fun _ => True) rfl (fun _ hk => hk) trivial (by omega) (by omega) (Below.refl _ _) (Nat.le_refl _) ?_
             intro v404 w7 ho8 hb hg_ hnew_
             clear hg_ hnew_
             (first | rw [← Ny403.out] at ho8 | (simp only [Int.reduceToNat] at ho8; rw [← Ny403.out] at ho8))
             have n0_ := aM_ (Kd.R_elder' (qR HO402) (Kd.R_base ho8) hb)
             have n1_ := aM_ (Kd.R_lower (Kd.R_new' ho8 (Kd.R_lt (qR HO402))) (bZ_ (qB HB)))
             have n2_ := aM_ (blk_below (g := gb399) (o := .cells #[.slice none 0 0, .slice none 0 0, .slice none 0 0] 33 (0, 0)) qk hb)
             have n3_ := aM_ (bT_ (qB HB) hb)
             clear HO402 BK399 HB
             have HO402 := n0_
             have HO405 := n1_
             have BK399 := n2_
             have HB := n3_
             clear n0_ n1_ n2_ n3_ hb ho8
             refine hK.out _ _ trivial (fun hHeld => ?_)
             clear hK K
             refine norm_ (a' := ?_) ?_ ?_
             rotate_left
             · show Act.put _ (some 2) _ = _
               simp only [Act.put, sA_, sB_, sC_, i64_w, i32_w]
               rfl
             exact norm_ (by first | (simp only [putAll, Act.put, sA_, sB_, sC_]; done) | (simp only [putAll, Act.put, sA_, sB_, sC_]; rfl)) (hJ0_1 (v401, v404) _ ⟨(qr (Kd.R_mono HO402.out (fun _ hk => hk.2))), (qr (Kd.R_mono HO405.out (fun _ hk => hk.2))), qk, (qB HB)⟩)
           · skip
             refine Kd.R_make_step (Kd.int .i64) _ 3 (by rfl) (N := 3) rfl 31 _ _ rfl 6 rfl rfl Tryz.underlying31 (.int .i64 0) 8 info3 rfl (by decide) (by omega) 0 (ok := fun _ => True) (okp := fun _ => True) rfl (fun _ hk => hk) trivial (by omega) (by omega) (Below.refl _ _) (Nat.le_refl _) ?_
             intro v407 w7 ho8 hb hg_ hnew_
             clear hg_ hnew_
             (first | rw [← Ny406.out] at ho8 | (simp only [Int.reduceToNat] at ho8; rw [← Ny406.out] at ho8))
             have n0_ := aM_ (Kd.R_elder' (qR HO402) (Kd.R_base ho8) hb)
             have n1_ := aM_ (Kd.R_lower (Kd.R_new' ho8 (Kd.R_lt (qR HO402))) (bZ_ (qB HB)))
             have n2_ := aM_ (blk_below (g := gb399) (o := .cells #[.slice none 0 0, .slice none 0 0, .slice none 0 0] 33 (0, 0)) qk hb)
             have n3_ := aM_ (bT_ (qB HB) hb)
             clear HO402 BK399 HB
             have HO402 := n0_
             have HO408 := n1_
             have BK399 := n2_
             have HB := n3_
             clear n0_ n1_ n2_ n3_ hb ho8
             refine hK.out _ _ trivial (fun hHeld => ?_)
             clear hK K
             refine norm_ (a' := ?_) ?_ ?_
             rotate_left
             · show Act.put _ (some 3) _ = _
               simp only [Act.put, sA_, sB_, sC_, i64_w, i32_w]
               rfl
             exact norm_ (by first | (simp only [putAll, Act.put, sA_, sB_, sC_]; done) | (simp only [putAll, Act.put, sA_, sB_, sC_]; rfl)) (hJ0_2 (v401, v407) _ ⟨(qr (Kd.R_mono HO402.out (fun _ hk => hk.2))), (qr (Kd.R_mono HO408.out (fun _ hk => hk.2))), qk, (qB HB)⟩)
       · skip
         rintro ⟨v404, v407⟩ w8 ⟨h0_, h1_, h2_, h3_⟩
         have n0_ : Aside0 (Kd.R (Kd.int .i64) 3 w8 w.heap.size (fun k_ => some k_ ≠ (v407 : Value).ownBlock) v404 y403) := ⟨h0_⟩
         have n1_ : Aside0 (Kd.R (Kd.int .i64) 3 w8 w.heap.size (fun k_ => some k_ ≠ (v404 : Value).ownBlock) v407 y406) := ⟨h1_⟩
         have n2_ : Aside0 (w8.heap[gb399]? = some (.cells #[.slice none 0 0, .slice none 0 0, .slice none 0 0] 33 (0, 0))) := ⟨h2_⟩
         have n3_ : Aside0 (Below w.heap.size w w8) := ⟨h3_⟩
         clear BK399 HB h0_ h1_ h2_ h3_
         revert n0_ n1_ n2_ n3_
         intro HO405 HO408 BK399 HB
         have hHeld := trivial
         refine norm_ (a' := ?_) ?_ ?_
         rotate_left
         · simp only [putAll, Act.put, sA_, sB_, sC_]
           rfl
         refine one_ (i := 0) (N := some 1) #[T_, T_, T_, F_, F_] rfl rfl (by kernel_rfl) (by decide) (fun K hK => ?_)
         refine Kd.R_make_step (Kd.int .i64) _ 3 (by rfl) (N := 1) rfl 31 _ _ rfl 6 rfl rfl Tryz.underlying31 (.int .i64 0) 8 info3 rfl (by decide) (by omega) 0 (ok := fun _ => True) (okp := fun _ => True) rfl (fun _ hk => hk) trivial (by omega) (by omega) (Below.refl _ _) (Nat.le_refl _) ?_
         intro v401 w9 ho10 hb hg_ hnew_
         clear hg_ hnew_
         (first | rw [← Ny400.out] at ho10 | (simp only [Int.reduceToNat] at ho10; rw [← Ny400.out] at ho10))
         have n0_ := aM_ (Kd.R_elder' (qR HO405) (Kd.R_base ho10) hb)
         have n1_ := aM_ (Kd.R_elder' (qR HO408) (Kd.R_base ho10) hb)
         have n2_ := aM_ (Kd.R_lower (Kd.R_new' (Kd.R_new' ho10 (Kd.R_lt (qR HO405))) (Kd.R_lt (qR HO408))) (bZ_ (qB HB)))
         have n3_ := aM_ (blk_below (g := gb399) (o := .cells #[.slice none 0 0, .slice none 0 0, .slice none 0 0] 33 (0, 0)) qk hb)
         have n4_ := aM_ (bT_ (qB HB) hb)
         clear HO405 HO408 BK399 HB
         have HO405 := n0_
         have HO408 := n1_
         have HO402 := n2_
         have BK399 := n3_
         have HB := n4_
         clear n0_ n1_ n2_ n3_ n4_ hb ho10
         obtain ⟨Ao11, co11, eo11⟩ := Kd.R_slice HO408.out
         (first | subst eo11 | (injection eo11 with f1_ f2_ f3_; have f4_ := f1_.symm; have f5_ := f3_.symm; clear f1_ f2_ f3_; subst f4_; subst f5_))
         obtain ⟨Ao12, co12, eo12⟩ := Kd.R_slice HO405.out
         (first | subst eo12 | (injection eo12 with f1_ f2_ f3_; have f4_ := f1_.symm; have f5_ := f3_.symm; clear f1_ f2_ f3_; subst f4_; subst f5_))
         obtain ⟨Ao13, co13, eo13⟩ := Kd.R_slice HO402.out
         (first | subst eo13 | (injection eo13 with f1_ f2_ f3_; have f4_ := f1_.symm; have f5_ := f3_.symm; clear f1_ f2_ f3_; subst f4_; subst f5_))
         refine hK.out _ _ trivial (fun hHeld => ?_)
         clear hK K
         refine norm_ (a' := ?_) ?_ ?_
         rotate_left
         · show Act.put _ (some 1) _ = _
           simp only [Act.put, sA_, sB_, sC_, i64_w, i32_w]
           rfl
         exact norm_ (by first | (simp only [putAll, Act.put, sA_, sB_, sC_]; done) | (simp only [putAll, Act.put, sA_, sB_, sC_]; rfl)) (hJ0_1_2 (.slice Ao13 y400.length co13, .slice Ao12 y403.length co12, .slice Ao11 y406.length co11) _ ⟨(qr (Kd.R_mono HO402.out (fun _ hk => ⟨hk.1.2, hk.2⟩))), (qr (Kd.R_mono HO405.out (fun _ hk => ⟨hk.2, hk.1⟩))), (qr (Kd.R_mono HO408.out (fun _ hk => ⟨hk.2, hk.1⟩))), qk, (qB HB)⟩)
     · skip
       rintro ⟨v401, v407⟩ w8 ⟨h0_, h1_, h2_, h3_⟩
       have n0_ : Aside0 (Kd.R (Kd.int .i64) 3 w8 w.heap.size (fun k_ => some k_ ≠ (v407 : Value).ownBlock) v401 y400) := ⟨h0_⟩
       have n1_ : Aside0 (Kd.R (Kd.int .i64) 3 w8 w.heap.size (fun k_ => some k_ ≠ (v401 : Value).ownBlock) v407 y406) := ⟨h1_⟩
       have n2_ : Aside0 (w8.heap[gb399]? = some (.cells #[.slice none 0 0, .slice none 0 0, .slice none 0 0] 33 (0, 0))) := ⟨h2_⟩
       have n3_ : Aside0 (Below w.heap.size w w8) := ⟨h3_⟩
       clear BK399 HB h0_ h1_ h2_ h3_
       revert n0_ n1_ n2_ n3_
       intro HO402 HO408 BK399 HB
       have hHeld := trivial
       refine norm_ (a' := ?_) ?_ ?_
       rotate_left
       · simp only [putAll, Act.put, sA_, sB_, sC_]
         rfl
       refine one_ (i := 1) (N := some 2) #[T_, T_, T_, F_, F_] rfl rfl (by kernel_rfl) (by decide) (fun K hK => ?_)
       refine Kd.R_make_step (Kd.int .i64) _ 3 (by rfl) (N := 2) rfl 31 _ _ rfl 6 rfl rfl Tryz.underlying31 (.int .i64 0) 8 info3 rfl (by decide) (by omega) 0 (ok := fun _ => True) (okp := fun _ => True) rfl (fun _ hk => hk) trivial (by omega) (by omega) (Below.refl _ _) (Nat.le_refl _) ?_
       intro v404 w9 ho10 hb hg_ hnew_
       clear hg_ hnew_
       (first | rw [← Ny403.out] at ho10 | (simp only [Int.reduceToNat] at ho10; rw [← Ny403.out] at ho10))
       have n0_ := aM_ (Kd.R_elder' (qR HO402) (Kd.R_base ho10) hb)
       have n1_ := aM_ (Kd.R_elder' (qR HO408) (Kd.R_base ho10) hb)
       have n2_ := aM_ (Kd.R_lower (Kd.R_new' (Kd.R_new' ho10 (Kd.R_lt (qR HO402))) (Kd.R_lt (qR HO408))) (bZ_ (qB HB)))
       have n3_ := aM_ (blk_below (g := gb399) (o := .cells #[.slice none 0 0, .slice none 0 0, .slice none 0 0] 33 (0, 0)) qk hb)
       have n4_ := aM_ (bT_ (qB HB) hb)
       clear HO402 HO408 BK399 HB
       have HO402 := n0_
       have HO408 := n1_
       have HO405 := n2_
       have BK399 := n3_
       have HB := n4_
       clear n0_ n1_ n2_ n3_ n4_ hb ho10
       obtain ⟨Ao11, co11, eo11⟩ := Kd.R_slice HO408.out
       (first | subst eo11 | (injection eo11 with f1_ f2_ f3_; have f4_ := f1_.symm; have f5_ := f3_.symm; clear f1_ f2_ f3_; subst f4_; subst f5_))
       obtain ⟨Ao12, co12, eo12⟩ := Kd.R_slice HO405.out
       (first | subst eo12 | (injection eo12 with f1_ f2_ f3_; have f4_ := f1_.symm; have f5_ := f3_.symm; clear f1_ f2_ f3_; subst f4_; subst f5_))
       obtain ⟨Ao13, co13, eo13⟩ := Kd.R_slice HO402.out
       (first | subst eo13 | (injection eo13 with f1_ f2_ f3_; have f4_ := f1_.symm; have f5_ := f3_.symm; clear f1_ f2_ f3_; subst f4_; subst f5_))
       refine hK.out _ _ trivial (fun hHeld => ?_)
       clear hK K
       refine norm_ (a' := ?_) ?_ ?_
       rotate_left
       · show Act.put _ (some 2) _ = _
         simp only [Act.put, sA_, sB_, sC_, i64_w, i32_w]
         rfl
       exact norm_ (by first | (simp only [putAll, Act.put, sA_, sB_, sC_]; done) | (simp only [putAll, Act.put, sA_, sB_, sC_]; rfl)) (hJ0_1_2 (.slice Ao13 y400.length co13, .slice Ao12 y403.length co12, .slice Ao11 y406.length co11) _ ⟨(qr (Kd.R_mono HO402.out (fun _ hk => ⟨hk.2, hk.1⟩))), (qr (Kd.R_mono HO405.out (fun _ hk => ⟨hk.1.2, hk.2⟩))), (qR HO408), qk, (qB HB)⟩)
   · skip
     rintro ⟨v401, v404⟩ w8 ⟨h0_, h1_, h2_, h3_⟩
     have n0_ : Aside0 (Kd.R (Kd.int .i64) 3 w8 w.heap.size (fun k_ => some k_ ≠ (v404 : Value).ownBlock) v401 y400) := ⟨h0_⟩
     have n1_ : Aside0 (Kd.R (Kd.int .i64) 3 w8 w.heap.size (fun k_ => some k_ ≠ (v401 : Value).ownBlock) v404 y403) := ⟨h1_⟩
     have n2_ : Aside0 (w8.heap[gb399]? = some (.cells #[.slice none 0 0, .slice none 0 0, .slice none 0 0] 33 (0, 0))) := ⟨h2_⟩
     have n3_ : Aside0 (Below w.heap.size w w8) := ⟨h3_⟩
     clear BK399 HB h0_ h1_ h2_ h3_
     revert n0_ n1_ n2_ n3_
     intro HO402 HO405 BK399 HB
     have hHeld := trivial
     refine norm_ (a' := ?_) ?_ ?_
     rotate_left
     · simp only [putAll, Act.put, sA_, sB_, sC_]
       rfl
     refine one_ (i := 2) (N := some 3) #[T_, T_, T_, F_, F_] rfl rfl (by kernel_rfl) (by decide) (fun K hK => ?_)
     refine Kd.R_make_step (Kd.int .i64) _ 3 (by rfl) (N := 3) rfl 31 _ _ rfl 6 rfl rfl Tryz.underlying31 (.int .i64 0) 8 info3 rfl (by decide) (by omega) 0 (ok := fun _ => True) (okp := fun _ => True) rfl (fun _ hk => hk) trivial (by omega) (by omega) (Below.refl _ _) (Nat.le_refl _) ?_
     intro v407 w9 ho10 hb hg_ hnew_
     clear hg_ hnew_
     (first | rw [← Ny406.out] at ho10 | (simp only [Int.reduceToNat] at ho10; rw [← Ny406.out] at ho10))
     have n0_ := aM_ (Kd.R_elder' (qR HO402) (Kd.R_base ho10) hb)
     have n1_ := aM_ (Kd.R_elder' (qR HO405) (Kd.R_base ho10) hb)
     have n2_ := aM_ (Kd.R_lower (Kd.R_new' (Kd.R_new' ho10 (Kd.R_lt (qR HO402))) (Kd.R_lt (qR HO405))) (bZ_ (qB HB)))
     have n3_ := aM_ (blk_below (g := gb399) (o := .cells #[.slice none 0 0, .slice none 0 0, .slice none 0 0] 33 (0, 0)) qk hb)
     have n4_ := aM_ (bT_ (qB HB) hb)
     clear HO402 HO405 BK399 HB
     have HO402 := n0_
     have HO405 := n1_
     have HO408 := n2_
     have BK399 := n3_
     have HB := n4_
     clear n0_ n1_ n2_ n3_ n4_ hb ho10
     obtain ⟨Ao11, co11, eo11⟩ := Kd.R_slice HO408.out
     (first | subst eo11 | (injection eo11 with f1_ f2_ f3_; have f4_ := f1_.symm; have f5_ := f3_.symm; clear f1_ f2_ f3_; subst f4_; subst f5_))
     obtain ⟨Ao12, co12, eo12⟩ := Kd.R_slice HO405.out
     (first | subst eo12 | (injection eo12 with f1_ f2_ f3_; have f4_ := f1_.symm; have f5_ := f3_.symm; clear f1_ f2_ f3_; subst f4_; subst f5_))
     obtain ⟨Ao13, co13, eo13⟩ := Kd.R_slice HO402.out
     (first | subst eo13 | (injection eo13 with f1_ f2_ f3_; have f4_ := f1_.symm; have f5_ := f3_.symm; clear f1_ f2_ f3_; subst f4_; subst f5_))
     refine hK.out _ _ trivial (fun hHeld => ?_)
     clear hK K
     refine norm_ (a' := ?_) ?_ ?_
     rotate_left
     · show Act.put _ (some 3) _ = _
       simp only [Act.put, sA_, sB_, sC_, i64_w, i32_w]
       rfl
     exact norm_ (by first | (simp only [putAll, Act.put, sA_, sB_, sC_]; done) | (simp only [putAll, Act.put, sA_, sB_, sC_]; rfl)) (hJ0_1_2 (.slice Ao13 y400.length co13, .slice Ao12 y403.length co12, .slice Ao11 y406.length co11) _ ⟨(qR HO402), (qR HO405), (qr (Kd.R_mono HO408.out (fun _ hk => ⟨hk.1.2, hk.2⟩))), qk, (qB HB)⟩)
 rintro ⟨v401, v404, v407⟩ w13 ⟨h0_, h1_, h2_, h3_, h4_⟩
 have n0_ : Aside0 (Kd.R (Kd.int .i64) 3 w13 w.heap.size (fun k_ => some k_ ≠ (v404 : Value).ownBlock ∧ some k_ ≠ (v407 : Value).ownBlock) v401 y400) := ⟨h0_⟩
 have n1_ : Aside0 (Kd.R (Kd.int .i64) 3 w13 w.heap.size (fun k_ => some k_ ≠ (v401 : Value).ownBlock ∧ some k_ ≠ (v407 : Value).ownBlock) v404 y403) := ⟨h1_⟩
 have n2_ : Aside0 (Kd.R (Kd.int .i64) 3 w13 w.heap.size (fun k_ => some k_ ≠ (v401 : Value).ownBlock ∧ some k_ ≠ (v404 : Value).ownBlock) v407 y406) := ⟨h2_⟩
 have n3_ : Aside0 (w13.heap[gb399]? = some (.cells #[.slice none 0 0, .slice none 0 0, .slice none 0 0] 33 (0, 0))) := ⟨h3_⟩
 have n4_ : Aside0 (Below w.heap.size w w13) := ⟨h4_⟩
 clear BK399 HB h0_ h1_ h2_ h3_ h4_
 revert n0_ n1_ n2_ n3_ n4_
 intro HO402 HO405 HO408 BK399 HB
 have hHeld := trivial
 obtain ⟨Ao14, co14, eo14⟩ := Kd.R_slice HO408.out
 (first | subst eo14 | (injection eo14 with f1_ f2_ f3_; have f4_ := f1_.symm; have f5_ := f3_.symm; clear f1_ f2_ f3_; subst f4_; subst f5_))
 obtain ⟨Ao15, co15, eo15⟩ := Kd.R_slice HO405.out
 (first | subst eo15 | (injection eo15 with f1_ f2_ f3_; have f4_ := f1_.symm; have f5_ := f3_.symm; clear f1_ f2_ f3_; subst f4_; subst f5_))
 obtain ⟨Ao16, co16, eo16⟩ := Kd.R_slice HO402.out
 (first | subst eo16 | (injection eo16 with f1_ f2_ f3_; have f4_ := f1_.symm; have f5_ := f3_.symm; clear f1_ f2_ f3_; subst f4_; subst f5_))
 refine norm_ (a' := ?_) ?_ ?_
 rotate_left
 · simp only [putAll, Act.put, sA_, sB_, sC_]
   rfl
 refine pure_ (i := 3) (N := some 4) (v := ?_) (a' := ?_) #[T_, T_, T_, T_, F_] rfl rfl (by kernel_rfl) (fun _ _ _ h => h) (Or.inl ⟨by rfl, ?_⟩) ?_ ?_
 rotate_left
 · intro w'
   go_simp
   with_reducible rfl
 rotate_left
 · simp only [Act.put, sA_, sB_, sC_, i64_w, i32_w]
   rfl
 refine one_ (i := 4) (N := none) #[T_, T_, T_, T_, T_] rfl rfl (by kernel_rfl) (by decide) (fun K hK => ?_)
 have hs17 : w13.cell? ⟨gb399, 0, none⟩ = some (.slice none 0 0) := (kC_ BK399.out 0).trans rfl
 have hfs17 := blk_frozen BK399.out 0
 have hs18 : w13.cell? ⟨gb399, 1, none⟩ = some (.slice none 0 0) := (kC_ BK399.out 1).trans rfl
 have hfs18 := blk_frozen BK399.out 1
 have hs19 : w13.cell? ⟨gb399, 2, none⟩ = some (.slice none 0 0) := (kC_ BK399.out 2).trans rfl
 have hfs19 := blk_frozen BK399.out 2
 refine skip_ (w1 := ?_) (by rfl) rfl ?_ ?_
 rotate_left
 · go_simp
   rfl
 refine hK.out _ _ trivial (fun hHeld => ?_)
 clear hK K
 refine done_ (by kernel_rfl) ?_
 try go_wp2
 refine bodyPost_ret (results_cell_row rfl _ _ gb399 33 #[.slice Ao16 y400.length co16, .slice Ao15 y403.length co15, .slice Ao14 y406.length co14] (0, 0) _ rfl (by (with_reducible repeat (first | refine kN_ ?_ _ | refine kD_ ?_ | refine kA_ ?_ _)); refine kP_ (cs := #[.slice Ao16 y400.length co16, .slice Ao15 y403.length co15, .slice none 0 0]) ?_ 2 _ rfl; (with_reducible repeat (first | refine kN_ ?_ _ | refine kD_ ?_ | refine kA_ ?_ _)); refine kP_ (cs := #[.slice Ao16 y400.length co16, .slice none 0 0, .slice none 0 0]) ?_ 1 _ rfl; (with_reducible repeat (first | refine kN_ ?_ _ | refine kD_ ?_ | refine kA_ ?_ _)); refine kP_ (cs := #[.slice none 0 0, .slice none 0 0, .slice none 0 0]) ?_ 0 _ rfl; (with_reducible repeat (first | refine kN_ ?_ _ | refine kD_ ?_ | refine kA_ ?_ _)); exact BK399.out) Tryz.underlying33 rfl (by kernel_rfl)) rfl ?_
 exact ⟨_, _, _, qE, by (with_reducible repeat (first | apply rA_ | apply rN_ | apply rD_)); exact Kd.R_mono (rF_ (p := ⟨gb399, 2, none⟩) (rF_ (p := ⟨gb399, 1, none⟩) (rF_ (p := ⟨gb399, 0, none⟩) (Kd.R_types HO402.out BK399.out (by decide)) (fun _ hk => hk.2) (.slice Ao16 y400.length co16)) (fun _ hk => hk.2) (.slice Ao15 y403.length co15)) (fun _ hk => hk.2) (.slice Ao14 y406.length co14)) (fun _ hk => ⟨hk.1.1, hk.1.2⟩), by (with_reducible repeat (first | apply rA_ | apply rN_ | apply rD_)); exact Kd.R_mono (rF_ (p := ⟨gb399, 2, none⟩) (rF_ (p := ⟨gb399, 1, none⟩) (rF_ (p := ⟨gb399, 0, none⟩) (Kd.R_types HO405.out BK399.out (by decide)) (fun _ hk => hk.2) (.slice Ao16 y400.length co16)) (fun _ hk => hk.2) (.slice Ao15 y403.length co15)) (fun _ hk => hk.2) (.slice Ao14 y406.length co14)) (fun _ hk => ⟨hk.1.1, hk.1.2⟩), by (with_reducible repeat (first | apply rA_ | apply rN_ | apply rD_)); exact Kd.R_mono (rF_ (p := ⟨gb399, 2, none⟩) (rF_ (p := ⟨gb399, 1, none⟩) (rF_ (p := ⟨gb399, 0, none⟩) (Kd.R_types HO408.out BK399.out (by decide)) (fun _ hk => hk.2) (.slice Ao16 y400.length co16)) (fun _ hk => hk.2) (.slice Ao15 y403.length co15)) (fun _ hk => hk.2) (.slice Ao14 y406.length co14)) (fun _ hk => ⟨hk.1.1, hk.1.2⟩), qB HB⟩
end Go.Proofs.YtjamfddhcigchaaGreatDoor.HFnCodeSame
