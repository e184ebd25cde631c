import Derived.Test.YtjamfddhcigchaaGreatDoorTFnCodeSameGn
namespace Go.Proofs.YtjamfddhcigchaaGreatDoor.Gz
open Go.RowKit Go.Proofs.YtjamfddhcigchaaGreatDoorW.PrintWords Go.Proofs.YtjamfddhcigchaaGreatDoorW.PrintLast Go.Proofs.YtjamfddhcigchaaGreatDoorW.PrintMore Gm Gn
attribute [local go_sem] max2_int min2_int max_two min_two
set_option linter.unusedVariables false
set_option linter.unusedSimpArgs false
theorem info3 : (Tryz.prog.info? 3).map (fun i => (i.zero, i.size, i.bytes)) = some (some (.int .i64 0), 1, 8) := by kernel_rfl
set_option maxRecDepth 100000 in
theorem clone_any (ad : Addr) (c : Nat) (l : List Int) (w : World) (hr : Kd.C (Kd.int .i64) w (some ad) l.length l) (hl : l.length ≤ 1000) : Calls Tryz.prog 77 #[.slice (some ad) l.length c] w fun e w' => ∃ v, e = .returned v ∧ Kd.R (Kd.int .i64) 3 w' w.heap.size (fun _ => True) v l ∧ Below w.heap.size w w' := by
 have hu := Tryz.underlying31
 have heq : ∀ W, (binOp .eql 31 (.slice (some ad) l.length c) (.slice none 0 0)).run Tryz.prog W = .ok (.bool false) W := fun W => by
  simp only [binOp]
  simp [run_equal_slice_nil W 31 3 (some ad) l.length c Tryz.underlying31]
 go_enter Tryz.func77, Tryz.ntmps77
 go_wp2_with (first | ((with_reducible refine gate_dst (N := 5) rfl ?_); refine Kd.R_lit (Kd.int .i64) _ 3 ?hg (N := 5) ?hd (xs := ([] : List Int)) (inner := []) (ok := fun _ => True) (okp := fun _ => True) ?hr ?hp (fun _ hk => hk) trivial (Below.refl _ _) (Nat.le_refl _) (by simp) ?_; (case hd => rfl); (case hg => rfl); (case hr => first | (go_simp; done) | (go_simp; rfl)); (case hp => exact (Reps.none _ _)); intro v1 w1 ho1 hb1 hg1 hn1; clear hg1 hn1) | ((with_reducible refine gate_dst (N := 7) rfl ?_); refine Kd.R_append_rows (Kd.int .i64) (w0 := w) w.heap.size (by rfl) (.tmp 5) (.tmp 6) 31 3 (.int .i64 0) 8 rfl Tryz.underlying31 info3 rfl (by decide) (by omega) v1 [] l _ _ _ (fun _ => True) (fun _ => False) rfl rfl ho1 (Kd.C_below hr hb1) (fun _ _ h => h) (fun _ h => h.elim) (fun _ _ => trivial) hb1 (below_size hb1) (by simp; omega) ?_; intro v2 w2 ho2 hb2 hg2 hat2; clear hg2 hat2))
 go_ret
 exact ⟨v2, rfl, by simpa using ho2, hb2⟩
theorem R_int_ok {k : IntKind} {e : Nat} {w : World} {base : Nat} {ok ok' : Nat → Prop} {v : Value} {xs : List Int} (h : (Kd.int k).R e w base ok v xs) (h2 : ∀ b, v.ownBlock = some b → ok' b) : (Kd.int k).R e w base ok' v xs := ⟨h2, h.2.imp_ (fun _ _ hp => hp)⟩
theorem add_none (g off n : Nat) : (⟨g, off, none⟩ : Addr).add n = ⟨g, off + n, none⟩ := by
 unfold Addr.add; split
 ·subst_vars; rfl
 ·rfl
theorem C_of_cells {w : World} {g off : Nat} {a : List Int} (ha : a.length ≤ 1000) (h : ∀ i (hi : i < a.length), w.cell? ⟨g, off + i, none⟩ = some (.int .i64 a[i])) : Kd.C (Kd.int .i64) w (some ⟨g, off, none⟩) a.length a := by
 refine ⟨rfl, by omega, fun _ => ⟨_, rfl, fun j q hj => ?_⟩⟩
 obtain ⟨hjl, hjq⟩ := List.getElem?_eq_some_iff.1 hj
 refine ⟨[.int .i64 q], rfl, rfl, fun i u hu => ?_⟩
 have hi : i = 0 := by
  have := (List.getElem?_eq_some_iff.1 hu).1
  simpa using this
 subst hi
 have hu2 : Value.int .i64 q = u := by simpa using hu
 rw [← hu2, ← hjq, ← h j hjl, add_none]
 show w.cell? ⟨g, off + (j * 1 + 0), none⟩ = _
 rw [Nat.mul_one, Nat.add_zero]
def mv (l : List Int) : List Value := l.map (Value.int .i64)
def mA (a b c : List Int) : Array Value := (mv a ++ mv b ++ mv c).toArray
theorem cl_at {g : Nat} {M : Array Value} {W : World} (off : Nat) (a : List Int) (hl : a.length = 6) (hg : W.heap[g]? = some (.cells M 82 (0, 0))) (hM : ∀ i (hi : i < a.length), M[off + i]? = some (.int .i64 a[i])) :
  Calls Tryz.prog 77 #[.slice (some ⟨g, off, none⟩) 6 6] W fun e w' => ∃ A c, e = .returned (.slice A 6 c) ∧ Kd.R (Kd.int .i64) 3 w' W.heap.size (fun _ => True) (.slice A 6 c) a ∧ Below W.heap.size W w' := by
 have hc : Kd.C (Kd.int .i64) W (some ⟨g, off, none⟩) a.length a := C_of_cells (by omega) (fun i hi => (blk_cell hg (off + i)).trans (hM i hi))
 have := clone_any ⟨g, off, none⟩ 6 a W hc (by omega)
 rw [hl] at this
 refine this.mono ?_
 rintro e w' ⟨v, rfl, ho, hb⟩
 obtain ⟨A, c, rfl, _⟩ := Kd.R_reads ho
 rw [hl] at ho ⊢
 exact ⟨A, c, rfl, ho, hb⟩
theorem mA_at (a b c : List Int) (ha : a.length = 6) (hb : b.length = 6) (i : Nat) : (∀ (hi : i < a.length), (mA a b c)[0 + i]? = some (.int .i64 a[i])) ∧ (∀ (hi : i < b.length), (mA a b c)[6 + i]? = some (.int .i64 b[i])) ∧ (∀ (hi : i < c.length), (mA a b c)[12 + i]? = some (.int .i64 c[i])) := by
 have h1 : (mv a).length = 6 := by simp [mv, ha]
 have h2 : (mv b).length = 6 := by simp [mv, hb]
 refine ⟨fun hi => ?_, fun hi => ?_, fun hi => ?_⟩
 ·simp only [mA, List.getElem?_toArray]
  rw [List.append_assoc, List.getElem?_append_left (by omega)]; simp [mv]
 ·simp only [mA, List.getElem?_toArray]
  rw [List.append_assoc, List.getElem?_append_right (by omega), List.getElem?_append_left (by omega), h1]; simp [mv, hi]
 ·simp only [mA, List.getElem?_toArray]
  rw [List.append_assoc, List.getElem?_append_right (by omega), List.getElem?_append_right (by omega), h1, h2, show 12 + i - 6 - 6 = i by omega]; simp [mv, hi]
def Mem3 (w w' : World) (v0 v1 v2 : Value) (a b c : List Int) : Prop := Kd.R (Kd.int .i64) 3 w' w.heap.size (fun k_ => some k_ ≠ (v1 : Value).ownBlock ∧ some k_ ≠ (v2 : Value).ownBlock) v0 a ∧ Kd.R (Kd.int .i64) 3 w' w.heap.size (fun k_ => some k_ ≠ (v0 : Value).ownBlock ∧ some k_ ≠ (v2 : Value).ownBlock) v1 b ∧ Kd.R (Kd.int .i64) 3 w' w.heap.size (fun k_ => some k_ ≠ (v0 : Value).ownBlock ∧ some k_ ≠ (v1 : Value).ownBlock) v2 c
def Z3 : Array Value := #[.slice none 0 0, .slice none 0 0, .slice none 0 0]
theorem res_store {W : World} {z : Nat} (hz : W.heap[z]? = some (.cells Z3 33 (0, 0))) (v0 v1 v2 : Value) : (((W.setCell ⟨z, 0, none⟩ v0).setCell ⟨z, 1, none⟩ v1).setCell ⟨z, 2, none⟩ v2).heap[z]? = some (.cells #[v0, v1, v2] 33 (0, 0)) := blk_put (blk_put (blk_put hz 0 v0 rfl) 1 v1 rfl) 2 v2 rfl
theorem R_store {W : World} {z base : Nat} {v : Value} {l : List Int} {ok : Nat → Prop} (h : Kd.R (Kd.int .i64) 3 W base ok v l) (hz : W.heap[z]? = some (.cells Z3 33 (0, 0))) (v0 v1 v2 : Value) : Kd.R (Kd.int .i64) 3 (((W.setCell ⟨z, 0, none⟩ v0).setCell ⟨z, 1, none⟩ v1).setCell ⟨z, 2, none⟩ v2) base ok v l := by
 have ht : ∀ q, q ∈ 3 :: (Kd.int .i64).E → q ≠ 33 := by
  intro q hq
  rcases List.mem_cons.1 hq with rfl | h
  ·decide
  ·exact absurd (show q ∈ ([] : List Nat) from h) (by simp)
 exact Kd.R_set (Kd.R_set (Kd.R_set h hz ht _ _) (blk_put hz 0 v0 rfl) ht _ _) (blk_put (blk_put hz 0 v0 rfl) 1 v1 rfl) ht _ _
theorem mem3_of {w Wa Wb Wc Wd : World} {z : Nat} {v0 v1 v2 : Value} {a b c : List Int} (hsz : w.heap.size ≤ Wa.heap.size) (hab : Below Wa.heap.size Wa Wb) (hbc : Below Wb.heap.size Wb Wc) (hcd : Below Wc.heap.size Wc Wd)
  (ho0 : Kd.R (Kd.int .i64) 3 Wb Wa.heap.size (fun _ => True) v0 a) (ho1 : Kd.R (Kd.int .i64) 3 Wc Wb.heap.size (fun _ => True) v1 b) (ho2 : Kd.R (Kd.int .i64) 3 Wd Wc.heap.size (fun _ => True) v2 c) (hz : Wd.heap[z]? = some (.cells Z3 33 (0, 0))) :
  Mem3 w (((Wd.setCell ⟨z, 0, none⟩ v0).setCell ⟨z, 1, none⟩ v1).setCell ⟨z, 2, none⟩ v2) v0 v1 v2 a b c := by
 have s1 := below_size hab
 have s2 := below_size hbc
 have s3 := below_size hcd
 have ne : ∀ {u v : Value} {n : Nat}, (∀ k, u.ownBlock = some k → k < n) → (∀ k, v.ownBlock = some k → n ≤ k) → ∀ k, u.ownBlock = some k → some k ≠ v.ownBlock := fun h1 h2 k hk he => by
  have := h1 k hk; have := h2 k he.symm; omega
 have ne' : ∀ {u v : Value} {n : Nat}, (∀ k, u.ownBlock = some k → n ≤ k) → (∀ k, v.ownBlock = some k → k < n) → ∀ k, u.ownBlock = some k → some k ≠ v.ownBlock := fun h1 h2 k hk he => by
  have := h1 k hk; have := h2 k he.symm; omega
 have l0 := Kd.R_lt ho0
 have b0 := Kd.R_base ho0
 have l1 := Kd.R_lt ho1
 have b1 := Kd.R_base ho1
 have l2 := Kd.R_lt ho2
 have b2 := Kd.R_base ho2
 have l0' : ∀ k, v0.ownBlock = some k → k < Wc.heap.size := fun k hk => Nat.lt_of_lt_of_le (l0 k hk) s2
 refine ⟨?_, ?_, ?_⟩
 ·refine R_int_ok (Kd.R_lower (R_store (Kd.R_below (Kd.R_below ho0 hbc) hcd) hz _ _ _) hsz) (fun k hk => ⟨ne l0 b1 k hk, ne l0' b2 k hk⟩)
 ·refine R_int_ok (Kd.R_lower (R_store (Kd.R_below ho1 hcd) hz _ _ _) (by omega)) (fun k hk => ⟨ne' b1 l0 k hk, ne l1 b2 k hk⟩)
 ·refine R_int_ok (Kd.R_lower (R_store ho2 hz _ _ _) (by omega)) (fun k hk => ⟨ne' b2 l0' k hk, ne' b2 l1 k hk⟩)
set_option maxRecDepth 100000 in
set_option maxHeartbeats 6400000 in
theorem mem_any (g : Nat) (a b c : List Int) (w : World) (ha : a.length = 6) (hb : b.length = 6) (hc : c.length = 6) (hg : w.heap[g]? = some (.cells (mA a b c) 82 (0, 0))) :
  Calls Tryz.prog 43 #[.pointer (some ⟨g, 0, none⟩)] w fun e w' => ∃ v0 v1 v2, e = .returned (.agg #[v0, v1, v2]) ∧ Mem3 w w' v0 v1 v2 a b c ∧ Below w.heap.size w w' := by
 have cl0 := fun W hW => cl_at (g := g) (M := mA a b c) (W := W) 0 a ha hW (fun i hi => (mA_at a b c ha hb i).1 hi)
 have cl1 := fun W hW => cl_at (g := g) (M := mA a b c) (W := W) 6 b hb hW (fun i hi => (mA_at a b c ha hb i).2.1 hi)
 have cl2 := fun W hW => cl_at (g := g) (M := mA a b c) (W := W) 12 c hc hW (fun i hi => (mA_at a b c ha hb i).2.2 hi)
 generalize mA a b c = M at hg cl0 cl1 cl2
 clear ha hb hc
 have hgl : g < w.heap.size := (Array.getElem?_eq_some_iff.1 hg).1
 have hu24 := Tryz.underlying33
 have hu56 := Tryz.underlying82
 have hu54 := Tryz.underlying80
 have hu53 := Tryz.underlying79
 have hu22 := Tryz.underlying31
 have al : ∀ o : Obj, Below w.heap.size w (w.alloc o) := fun o => (Below.refl _ _).alloc (Nat.le_refl _) _
 go_enter Tryz.func43, Tryz.ntmps43
 go_wp2_with fail
 have n0 : (w.alloc (Obj.cells #[.slice none 0 0, .slice none 0 0, .slice none 0 0] 33)).heap[w.heap.size]? = some (.cells #[.slice none 0 0, .slice none 0 0, .slice none 0 0] 33 (0, 0)) := heap_alloc_new _ _
 have n1 := al (Obj.cells #[.slice none 0 0, .slice none 0 0, .slice none 0 0] 33)
 have n2 : (w.alloc (Obj.cells #[.slice none 0 0, .slice none 0 0, .slice none 0 0] 33)).heap[g]? = some (.cells M 82 (0, 0)) := blk_alloc hg _
 have n3 : w.heap.size < (w.alloc (Obj.cells #[.slice none 0 0, .slice none 0 0, .slice none 0 0] 33)).heap.size := by rw [alloc_size]; omega
 generalize w.alloc (Obj.cells #[.slice none 0 0, .slice none 0 0, .slice none 0 0] 33) = w1 at n0 n1 n2 n3 ⊢
 clear al hg
 generalize hz : w.heap.size = z at n0 n3 ⊢
 have hg1 := blk_drew n2
 have hB1 := below_drew1 n1
 have hz1 : w1.drew.heap[z]? = some (.cells Z3 33 (0, 0)) := n0
 have hgz : g ≠ z := by omega
 refine start_ (n := 20) (S := fun w' => w'.heap[g]? = some (.cells M 82 (0, 0)) ∧ Below w.heap.size w w') (ds := []) #[F_, F_, F_, F_, F_, F_, F_, F_, F_, F_, F_, F_, F_, F_, F_, F_, F_, F_, F_, F_] (by kernel_rfl) rfl rfl ⟨hg1, hB1⟩ (fun hHeld => ?_)
 refine pure_ (i := 0) (N := some 3) (v := ?_) (a' := ?_) #[T_, F_, F_, F_, F_, F_, F_, F_, F_, F_, F_, F_, F_, F_, F_, F_, F_, F_, F_, F_] rfl rfl (by kernel_rfl) (fun _ _ _ h => h) (Or.inl ⟨by rfl, ?_⟩) ?_ ?_
 rotate_left
 ·intro w'
  go_simp
  with_reducible rfl
 rotate_left
 ·simp only [Act.put, sA_, sB_, sC_, i64_w, i32_w]
  rfl
 refine pure_ (i := 1) (N := some 4) (v := ?_) (a' := ?_) #[T_, T_, F_, F_, F_, F_, F_, F_, F_, F_, F_, F_, F_, F_, F_, F_, F_, F_, F_, F_] rfl rfl (by kernel_rfl) (fun _ _ _ h => h) (Or.inl ⟨by rfl, ?_⟩) ?_ ?_
 rotate_left
 ·intro w'
  go_simp
  with_reducible rfl
 rotate_left
 ·simp only [Act.put, sA_, sB_, sC_, i64_w, i32_w]
  rfl
 refine pure_ (i := 2) (N := some 5) (v := ?_) (a' := ?_) #[T_, T_, T_, F_, F_, F_, F_, F_, F_, F_, F_, F_, F_, F_, F_, F_, F_, F_, F_, F_] rfl rfl (by kernel_rfl) (fun _ _ _ h => h) (Or.inl ⟨by rfl, ?_⟩) ?_ ?_
 rotate_left
 ·intro w'
  go_simp
  with_reducible rfl
 rotate_left
 ·simp only [Act.put, sA_, sB_, sC_, i64_w, i32_w]
  rfl
 refine pure_ (i := 3) (N := some 6) (v := ?_) (a' := ?_) #[T_, T_, T_, T_, F_, F_, F_, F_, F_, F_, F_, F_, F_, F_, F_, F_, F_, F_, F_, F_] rfl rfl (by kernel_rfl) (fun _ _ _ h => h) (Or.inl ⟨by rfl, ?_⟩) ?_ ?_
 rotate_left
 ·intro w'
  go_simp
  with_reducible rfl
 rotate_left
 ·simp only [Act.put, sA_, sB_, sC_, i64_w, i32_w]
  rfl
 refine pure_ (i := 4) (N := some 7) (v := ?_) (a' := ?_) #[T_, T_, T_, T_, T_, F_, F_, F_, F_, F_, F_, F_, F_, F_, F_, F_, F_, F_, F_, F_] rfl rfl (by kernel_rfl) (fun _ _ _ h => h) (Or.inl ⟨by rfl, ?_⟩) ?_ ?_
 rotate_left
 ·intro w'
  go_simp
  with_reducible rfl
 rotate_left
 ·simp only [Act.put, sA_, sB_, sC_, i64_w, i32_w]
  rfl
 refine pure_ (i := 6) (N := some 9) (v := ?_) (a' := ?_) #[T_, T_, T_, T_, T_, F_, T_, F_, F_, F_, F_, F_, F_, F_, F_, F_, F_, F_, F_, F_] rfl rfl (by kernel_rfl) (fun _ _ _ h => h) (Or.inl ⟨by rfl, ?_⟩) ?_ ?_
 rotate_left
 ·intro w'
  go_simp
  with_reducible rfl
 rotate_left
 ·simp only [Act.put, sA_, sB_, sC_, i64_w, i32_w]
  rfl
 refine pure_ (i := 7) (N := some 10) (v := ?_) (a' := ?_) #[T_, T_, T_, T_, T_, F_, T_, T_, F_, F_, F_, F_, F_, F_, F_, F_, F_, F_, F_, F_] rfl rfl (by kernel_rfl) (fun _ _ _ h => h) (Or.inl ⟨by rfl, ?_⟩) ?_ ?_
 rotate_left
 ·intro w'
  go_simp
  with_reducible rfl
 rotate_left
 ·simp only [Act.put, sA_, sB_, sC_, i64_w, i32_w]
  rfl
 refine pure_ (i := 8) (N := some 11) (v := ?_) (a' := ?_) #[T_, T_, T_, T_, T_, F_, T_, T_, T_, F_, F_, F_, F_, F_, F_, F_, F_, F_, F_, F_] rfl rfl (by kernel_rfl) (fun _ _ _ h => h) (Or.inl ⟨by rfl, ?_⟩) ?_ ?_
 rotate_left
 ·intro w'
  go_simp
  with_reducible rfl
 rotate_left
 ·simp only [Act.put, sA_, sB_, sC_, i64_w, i32_w]
  rfl
 refine pure_ (i := 9) (N := some 12) (v := ?_) (a' := ?_) #[T_, T_, T_, T_, T_, F_, T_, T_, T_, T_, F_, F_, F_, F_, F_, F_, F_, F_, F_, F_] rfl rfl (by kernel_rfl) (fun _ _ _ h => h) (Or.inl ⟨by rfl, ?_⟩) ?_ ?_
 rotate_left
 ·intro w'
  go_simp
  with_reducible rfl
 rotate_left
 ·simp only [Act.put, sA_, sB_, sC_, i64_w, i32_w]
  rfl
 refine pure_ (i := 10) (N := some 13) (v := ?_) (a' := ?_) #[T_, T_, T_, T_, T_, F_, T_, T_, T_, T_, T_, F_, F_, F_, F_, F_, F_, F_, F_, F_] rfl rfl (by kernel_rfl) (fun _ _ _ h => h) (Or.inl ⟨by rfl, ?_⟩) ?_ ?_
 rotate_left
 ·intro w'
  go_simp
  with_reducible rfl
 rotate_left
 ·simp only [Act.put, sA_, sB_, sC_, i64_w, i32_w]
  rfl
 refine pure_ (i := 12) (N := some 15) (v := ?_) (a' := ?_) #[T_, T_, T_, T_, T_, F_, T_, T_, T_, T_, T_, F_, T_, F_, F_, F_, F_, F_, F_, F_] rfl rfl (by kernel_rfl) (fun _ _ _ h => h) (Or.inl ⟨by rfl, ?_⟩) ?_ ?_
 rotate_left
 ·intro w'
  go_simp
  with_reducible rfl
 rotate_left
 ·simp only [Act.put, sA_, sB_, sC_, i64_w, i32_w]
  rfl
 refine pure_ (i := 13) (N := some 16) (v := ?_) (a' := ?_) #[T_, T_, T_, T_, T_, F_, T_, T_, T_, T_, T_, F_, T_, T_, F_, F_, F_, F_, F_, F_] rfl rfl (by kernel_rfl) (fun _ _ _ h => h) (Or.inl ⟨by rfl, ?_⟩) ?_ ?_
 rotate_left
 ·intro w'
  go_simp
  with_reducible rfl
 rotate_left
 ·simp only [Act.put, sA_, sB_, sC_, i64_w, i32_w]
  rfl
 refine pure_ (i := 14) (N := some 17) (v := ?_) (a' := ?_) #[T_, T_, T_, T_, T_, F_, T_, T_, T_, T_, T_, F_, T_, T_, T_, F_, F_, F_, F_, F_] rfl rfl (by kernel_rfl) (fun _ _ _ h => h) (Or.inl ⟨by rfl, ?_⟩) ?_ ?_
 rotate_left
 ·intro w'
  go_simp
  with_reducible rfl
 rotate_left
 ·simp only [Act.put, sA_, sB_, sC_, i64_w, i32_w]
  rfl
 refine pure_ (i := 15) (N := some 18) (v := ?_) (a' := ?_) #[T_, T_, T_, T_, T_, F_, T_, T_, T_, T_, T_, F_, T_, T_, T_, T_, F_, F_, F_, F_] rfl rfl (by kernel_rfl) (fun _ _ _ h => h) (Or.inl ⟨by rfl, ?_⟩) ?_ ?_
 rotate_left
 ·intro w'
  go_simp
  with_reducible rfl
 rotate_left
 ·simp only [Act.put, sA_, sB_, sC_, i64_w, i32_w]
  rfl
 refine pure_ (i := 16) (N := some 19) (v := ?_) (a' := ?_) #[T_, T_, T_, T_, T_, F_, T_, T_, T_, T_, T_, F_, T_, T_, T_, T_, T_, F_, F_, F_] rfl rfl (by kernel_rfl) (fun _ _ _ h => h) (Or.inl ⟨by rfl, ?_⟩) ?_ ?_
 rotate_left
 ·intro w'
  go_simp
  with_reducible rfl
 rotate_left
 ·simp only [Act.put, sA_, sB_, sC_, i64_w, i32_w]
  rfl
 refine one_ (i := 5) (N := some 8) #[T_, T_, T_, T_, T_, T_, T_, T_, T_, T_, T_, F_, T_, T_, T_, T_, T_, F_, F_, F_] rfl rfl (by kernel_rfl) (by decide) (fun K hK => ?_)
 refine goes_ Tryz.func77 (by kernel_rfl) rfl #[.slice (some ⟨g, 0, none⟩) 6 6] (by rfl) rfl rfl (by simp only [List.map_toArray, List.map_cons, List.map_nil]; rfl) ?_
 with_reducible refine (cl0 _ hHeld.1).mono ?_
 rintro e w3 ⟨A0, c0, rfl, ho0, hb0⟩
 refine ⟨_, rfl, ?_⟩
 refine hK.out _ _ ⟨(blk_below hHeld.1 hb0), (hHeld.2.trans (hb0.mono hHeld.2.size))⟩ (fun hHeld => ?_)
 clear hK K
 refine norm_ (a' := ?_) ?_ ?_
 rotate_left
 ·show Act.put _ (some 8) _ = _
  simp only [Act.put, sA_, sB_, sC_, i64_w, i32_w]
  rfl
 refine one_ (i := 11) (N := some 14) #[T_, T_, T_, T_, T_, T_, T_, T_, T_, T_, T_, T_, T_, T_, T_, T_, T_, F_, F_, F_] rfl rfl (by kernel_rfl) (by decide) (fun K hK => ?_)
 refine goes_ Tryz.func77 (by kernel_rfl) rfl #[.slice (some ⟨g, 6, none⟩) 6 6] (by rfl) rfl rfl (by simp only [List.map_toArray, List.map_cons, List.map_nil]; rfl) ?_
 with_reducible refine (cl1 _ hHeld.1).mono ?_
 rintro e w4 ⟨A1, c1, rfl, ho1, hb1⟩
 refine ⟨_, rfl, ?_⟩
 refine hK.out _ _ ⟨(blk_below hHeld.1 hb1), (hHeld.2.trans (hb1.mono hHeld.2.size))⟩ (fun hHeld => ?_)
 clear hK K
 refine norm_ (a' := ?_) ?_ ?_
 rotate_left
 ·show Act.put _ (some 14) _ = _
  simp only [Act.put, sA_, sB_, sC_, i64_w, i32_w]
  rfl
 refine one_ (i := 17) (N := some 20) #[T_, T_, T_, T_, T_, T_, T_, T_, T_, T_, T_, T_, T_, T_, T_, T_, T_, T_, F_, F_] rfl rfl (by kernel_rfl) (by decide) (fun K hK => ?_)
 refine goes_ Tryz.func77 (by kernel_rfl) rfl #[.slice (some ⟨g, 12, none⟩) 6 6] (by rfl) rfl rfl (by simp only [List.map_toArray, List.map_cons, List.map_nil]; rfl) ?_
 with_reducible refine (cl2 _ hHeld.1).mono ?_
 rintro e w5 ⟨A2, c2, rfl, ho2, hb2⟩
 refine ⟨_, rfl, ?_⟩
 refine hK.out _ _ ⟨(blk_below hHeld.1 hb2), (hHeld.2.trans (hb2.mono hHeld.2.size))⟩ (fun hHeld => ?_)
 clear hK K
 refine norm_ (a' := ?_) ?_ ?_
 rotate_left
 ·show Act.put _ (some 20) _ = _
  simp only [Act.put, sA_, sB_, sC_, i64_w, i32_w]
  rfl
 refine pure_ (i := 18) (N := some 21) (v := ?_) (a' := ?_) #[T_, T_, T_, T_, T_, T_, T_, T_, T_, T_, T_, T_, T_, T_, T_, T_, T_, T_, T_, F_] rfl rfl (by kernel_rfl) (fun _ _ _ h => h) (Or.inl ⟨by rfl, ?_⟩) ?_ ?_
 rotate_left
 ·intro w'
  go_simp
  with_reducible rfl
 rotate_left
 ·simp only [Act.put, sA_, sB_, sC_, i64_w, i32_w]
  rfl
 refine one_ (i := 19) (N := none) #[T_, T_, T_, T_, T_, T_, T_, T_, T_, T_, T_, T_, T_, T_, T_, T_, T_, T_, T_, T_] rfl rfl (by kernel_rfl) (by decide) (fun K hK => ?_)
 have hz5 := blk_below (blk_below (blk_below hz1 hb0) hb1) hb2
 have i0 : w5.cell? ⟨z, 0, none⟩ = some (.slice none 0 0) := (blk_cell hz5 0).trans rfl
 have i1 : w5.cell? ⟨z, 1, none⟩ = some (.slice none 0 0) := (blk_cell hz5 1).trans rfl
 have i2 : w5.cell? ⟨z, 2, none⟩ = some (.slice none 0 0) := (blk_cell hz5 2).trans rfl
 have j0 : w5.frozen? ⟨z, 0, none⟩ = false := blk_frozen hz5 0
 have j1 : w5.frozen? ⟨z, 1, none⟩ = false := blk_frozen hz5 1
 have j2 : w5.frozen? ⟨z, 2, none⟩ = false := blk_frozen hz5 2
 refine skip_ (w1 := ?_) (by rfl) rfl ?_ ?_
 rotate_left
 ·go_simp
  rfl
 refine hK.out _ _ ⟨(blk_far (blk_far (blk_far hHeld.1 hgz _) hgz _) hgz _), (below_set (below_set (below_set hHeld.2 (Nat.le_of_eq hz)) (Nat.le_of_eq hz)) (Nat.le_of_eq hz))⟩ (fun hHeld => ?_)
 clear hK K
 refine done_ (by kernel_rfl) ?_
 have hM := mem3_of hB1.size hb0 hb1 hb2 ho0 ho1 ho2 hz5
 have hzz := res_store hz5 (.slice A0 6 c0) (.slice A1 6 c1) (.slice A2 6 c2)
 have hbl := hHeld.2
 clear hHeld
 generalize (((w5.setCell ⟨z, 0, none⟩ (.slice A0 6 c0)).setCell ⟨z, 1, none⟩ (.slice A1 6 c1)).setCell ⟨z, 2, none⟩ (.slice A2 6 c2)) = w6 at hM hzz hbl ⊢
 go_wp2
 refine bodyPost_ret (results_cell_row rfl _ _ z 33 #[.slice A0 6 c0, .slice A1 6 c1, .slice A2 6 c2] (0, 0) _ rfl hzz Tryz.underlying33 rfl (by kernel_rfl)) rfl ⟨_, _, _, rfl, hM, hbl⟩
end Go.Proofs.YtjamfddhcigchaaGreatDoor.Gz
