/- impl.CodeRun of a memory and code: what the plain run tells. The variable errLong holds a pointer. No other condition. -/
import Derived.Test.YtjamfddhcigchaaGreatDoorTFnExactCodeRunHv
import Derived.Test.YtjamfddhcigchaaGreatDoorTFnExactCodeRunHn
namespace Go.Proofs.YtjamfddhcigchaaGreatDoor.Ho
open Go.RowKit  Go.Proofs.YtjamfddhcigchaaGreatDoor.Gm Go.Proofs.YtjamfddhcigchaaGreatDoor.Gn Go.Proofs.YtjamfddhcigchaaGreatDoor.Gz Go.Proofs.YtjamfddhcigchaaGreatDoor.Gq Go.Proofs.YtjamfddhcigchaaGreatDoor.Hj Go.Proofs.YtjamfddhcigchaaGreatDoor.Hm Go.Proofs.YtjamfddhcigchaaGreatDoor.Hn Go.Proofs.YtjamfddhcigchaaGreatDoor.Hq Go.Proofs.YtjamfddhcigchaaGreatDoor.Hu Go.Proofs.YtjamfddhcigchaaGreatDoor.Hv Go.Proofs.YtjamfddhcigchaaGreatDoor.Hc Go.Proofs.YtjamfddhcigchaaGreatDoor.Hp Go.Proofs.YtjamfddhcigchaaGreatDoor.HFnExactCodeRun Go.Proofs.YtjamfddhcigchaaGreatDoorW.PrintWords Go.Proofs.YtjamfddhcigchaaGreatDoorW.PrintLast Go.Proofs.YtjamfddhcigchaaGreatDoorW.PrintMore
set_option linter.unusedVariables false
set_option linter.unusedSimpArgs false
def Row (W : World) (A : Option Addr) (ps : List S30) : Prop := ∀ j : Nat, j < ps.length → ∃ (b : Nat) (cur : Array Value) (q : Nat × Nat), A = some ⟨b, 0, none⟩ ∧ W.heap[b]? = some (.cells cur 69 (0, 0)) ∧ cur[j]? = some (fV q) ∧ ActV W (fV q) (rd_T30 ps j)
theorem row_of {W : World} {base : Nat} {ok : Nat → Prop} {v : Value} {qs : List (Nat × Nat)} {ps : List S30} (hR : Kd.R kF 69 W base ok v qs) (hq : qs.length = ps.length) (hact : ∀ j : Nat, j < ps.length → ActV W (fV (qs.getD j (0, 0))) (rd_T30 ps j)) :
  ∃ A c, v = .slice A ps.length c ∧ Row W A ps := by
 obtain ⟨A, c, rfl⟩ := Kd.R_slice hR
 have ho := Kd.own_of_R hR
 refine ⟨A, c, by rw [hq], fun j hj => ?_⟩
 obtain ⟨h1, ⟨e, h2⟩ | ⟨b, cap, cur, e, _, hb, _, _, _, ht⟩⟩ := ho
 ·omega
 ·injection e with e1 e2 e3
  subst e1
  refine ⟨b, cur, qs.getD j (0, 0), rfl, hb, ?_, hact j hj⟩
  have h := encs_get (d := ((0, 0) : Nat × Nat)) (enc := fV) qs j (by omega)
  rw [← ht, Nat.mul_one, List.getElem?_take_of_lt (by omega)] at h
  simpa using h
theorem typ_ne {W : World} {a b : Nat} {cs cs' : Array Value} {t t' : TypeId} (h : W.heap[a]? = some (.cells cs t (0, 0))) (k : W.heap[b]? = some (.cells cs' t' (0, 0))) (ht : t ≠ t') : a ≠ b := by
 rintro rfl
 rw [h] at k
 injection k with k
 injection k with _ k
 exact ht k
theorem RS.nt {X g : Nat} {m : M3} {st : List Int} {p f : Int} {W : World} (h : RS X g m st p f W) {b : Nat} {cs : Array Value} {t : TypeId} (hb : W.heap[b]? = some (.cells cs t (0, 0))) (h1 : t ≠ 65) (h2 : t ≠ 82) : ¬ (b = X ∨ b = g) := by
 obtain ⟨hs, _, _, h3⟩ := h.H
 rintro (e | e)
 ·exact typ_ne hb h3 h1 e
 ·exact typ_ne hb h.G h2 e
theorem ActV.ch {X g : Nat} {m : M3} {st : List Int} {p f : Int} {W W' : World} {v : Value} {i : S30} (h : ActV W v i) (hR : RS X g m st p f W) (k : Ch X g W W') : ActV W' v i := by
 refine ActV.kept h k.kp ?_
 rintro b2 - ⟨cs, hb2 | hb2⟩
 ·exact RS.nt hR hb2 (by decide) (by decide)
 ·exact RS.nt hR hb2 (by decide) (by decide)
theorem Row.ch {X g : Nat} {m : M3} {st : List Int} {p f : Int} {W W' : World} {A : Option Addr} {ps : List S30} (h : Row W A ps) (hR : RS X g m st p f W) (k : Ch X g W W') : Row W' A ps := fun j hj => by
 obtain ⟨b, cur, q, e, hb, hc, ha⟩ := h j hj
 exact ⟨b, cur, q, e, blk_kept hb k.kp (RS.nt hR hb (by decide) (by decide)), hc, ActV.ch ha hR k⟩
structure LS (w : World) (X g z : Nat) (A : Option Addr) (ps : List S30) (m : M3) (st : List Int) (p f : Int) (W : World) : Prop where
 rs : RS X g m st p f W
 row : Row W A ps
 zz : W.heap[z]? = some (.cells Z3 33 (0, 0))
 zb : w.heap.size ≤ z
 xb : w.heap.size ≤ X
 gb : w.heap.size ≤ g
 be : Below w.heap.size w W
theorem LS.ch {w : World} {X g z : Nat} {A : Option Addr} {ps : List S30} {m m' : M3} {st st' : List Int} {p p' f f' : Int} {W W' : World} (h : LS w X g z A ps m st p f W) (k : Ch X g W W') (r : RS X g m' st' p' f' W') : LS w X g z A ps m' st' p' f' W' :=
 ⟨r, h.row.ch h.rs k, blk_kept h.zz k.kp (RS.nt h.rs h.zz (by decide) (by decide)), h.zb, h.xb, h.gb, h.be.trans (k.bl _ h.xb h.gb h.be.size)⟩
set_option maxRecDepth 100000 in
set_option maxHeartbeats 6400000 in
theorem codeRun_good (A0 A1 A2 : Option Addr) (c0 c1 c2 : Nat) (l0 l1 l2 : List Int) (B : Option Addr) (cc : Nat) (ps : List S30) (fuel : Int) (w : World) (q : M3 × Int × Nat) (E : Addr) (he : w.cell? ⟨0, 0, none⟩ = some (.iface 170 (.pointer (some E))))
  (hr0 : Kd.C (Kd.int .i64) w A0 l0.length l0) (hr1 : Kd.C (Kd.int .i64) w A1 l1.length l1) (hr2 : Kd.C (Kd.int .i64) w A2 l2.length l2) (hp : Kd.C k30 w B ps.length ps) (hcc : ps.length ≤ cc) (hm : okM l0 l1 l2 = true) (hb : okB ps = true) (hf0 : 0 ≤ fuel) (hf1 : fuel ≤ 100)
  (G : Nat) (hq : runI ps G ⟨l0, l1, l2⟩ [] 0 fuel.toNat = some q) (hle : ps.length ≤ 1000) :
  Calls Tryz.prog 12 #[.agg #[.slice A0 l0.length c0, .slice A1 l1.length c1, .slice A2 l2.length c2], .slice B ps.length cc, .int .i64 fuel] w fun e w' => ∃ v0 v1 v2, e = .returned (.tuple #[.agg #[v0, v1, v2], .int .i64 q.2.1, .int .i64 (q.2.2 : Int)]) ∧ Mem3 w w' v0 v1 v2 q.1.a q.1.b q.1.c ∧ Below w.heap.size w w' := by
 have hu33 := Tryz.underlying33
 have hu65 := Tryz.underlying65
 have rd := fun W (k : Below w.heap.size w W) => readMem_any A0 A1 A2 c0 c1 c2 l0 l1 l2 W (Kd.C_below hr0 k) (Kd.C_below hr1 k) (Kd.C_below hr2 k)
 have ok := fun W (k : Below w.heap.size w W) => codeOk_any B cc ps W (Kd.C_below hp k) hcc
 have ac := fun W (k : Below w.heap.size w W) => acts_any B cc ps W (Kd.C_below hp k) hle
 have E_ := fun W (k : Below w.heap.size w W) => (k.cell (World.block_lt_of_cell? w _ he)).trans he
 rw [hb] at ok
 have d1 : decide (fuel < 0) = false := by simpa using hf0
 have d2 : decide (fuel > 100) = false := by simpa using hf1
 have hf1' := Aside0.mk hf1
 have hf0' := Aside0.mk hf0
 have hle' := Aside0.mk hle
 clear hr0 hr1 hr2 hp hcc hb he hf0 hf1 hle
 go_enter Tryz.func12, Tryz.ntmps12
 go_wp2_with fail
 have hZ : ((w.alloc (.cells #[.slice A0 l0.length c0, .slice A1 l1.length c1, .slice A2 l2.length c2] 33)).alloc (.cells #[.slice none 0 0, .slice none 0 0, .slice none 0 0] 33)).heap[w.heap.size + 1]? = some (.cells #[.slice none 0 0, .slice none 0 0, .slice none 0 0] 33 (0, 0)) := by
  have h := heap_alloc_new (w.alloc (.cells #[.slice A0 l0.length c0, .slice A1 l1.length c1, .slice A2 l2.length c2] 33)) (.cells #[.slice none 0 0, .slice none 0 0, .slice none 0 0] 33)
  rwa [show (w.alloc (.cells #[.slice A0 l0.length c0, .slice A1 l1.length c1, .slice A2 l2.length c2] 33)).heap.size = w.heap.size + 1 from Array.size_push ..] at h
 have k1 : Below w.heap.size w ((w.alloc (.cells #[.slice A0 l0.length c0, .slice A1 l1.length c1, .slice A2 l2.length c2] 33)).alloc (.cells #[.slice none 0 0, .slice none 0 0, .slice none 0 0] 33)) := ((Below.refl _ _).alloc (Nat.le_refl _) _).alloc (by rw [show (w.alloc _).heap.size = w.heap.size + 1 from Array.size_push ..]; omega) _
 generalize (w.alloc _).alloc _ = w1 at hZ k1 ⊢
 refine (rd _ k1).mono ?_
 rintro e w2 ⟨h1, -, hb⟩
 obtain ⟨g, rfl, hg, hgs⟩ := h1 hm
 have hgs' : w.heap.size ≤ g := by have := below_size k1; omega
 replace hZ := blk_below hZ hb
 replace k1 := k1.trans (hb.mono k1.size)
 obtain ⟨n0, n1, n2⟩ := okM_len hm
 rw [mM_eq n0 n1 n2] at hg
 clear h1 hb rd hgs
 go_wp2_with fail
 refine (ok _ k1).mono ?_
 rintro e w3 ⟨rfl, hb⟩
 replace hZ := blk_below hZ hb
 replace hg := blk_below hg hb
 replace k1 := k1.trans (hb.mono k1.size)
 clear hb ok
 go_wp2_with fail
 have kb : Below w.heap.size w (w3.alloc (.cells (PC g (List.replicate 12 0) 0 0 fuel) 65)) := k1.alloc k1.size _
 have hX := heap_alloc_new w3 (.cells (PC g (List.replicate 12 0) 0 0 fuel) 65)
 replace hg := blk_alloc hg (.cells (PC g (List.replicate 12 0) 0 0 fuel) 65)
 replace hZ := blk_alloc hZ (.cells (PC g (List.replicate 12 0) 0 0 fuel) 65)
 refine (ac _ kb).mono ?_
 rintro e w4 ⟨v, qs, rfl, hR, hql, hact, hb⟩
 obtain ⟨A, c, rfl, hRow⟩ := row_of hR hql hact
 replace hX := blk_below hX hb
 replace hg := blk_below hg hb
 replace hZ := blk_below hZ hb
 replace kb := kb.trans (hb.mono kb.size)
 have hXb : w.heap.size ≤ w3.heap.size := k1.size
 obtain ⟨fl0, rfl⟩ : ∃ n : Nat, fuel = (n : Int) := ⟨fuel.toNat, by have := hf0'.out; omega⟩
 have hL : LS w w3.heap.size g (w.heap.size + 1) A ps ⟨l0, l1, l2⟩ [] ((0 : Nat) : Int) (fl0 : Int) w4 := ⟨⟨⟨n0, n1, n2⟩, typ_ne hX hg (by decide), by simp, hg, List.replicate 12 0, by simp, by simp, hX⟩, hRow, hZ, by omega, hXb, hgs', kb⟩
 rw [Int.toNat_natCast] at hq
 have hL' := Aside0.mk hL
 have hq' := Aside0.mk hq
 have hf1 : Aside0 (fl0 ≤ 100) := ⟨by have := hf1'.out; omega⟩
 clear hL hq hX hg hZ kb k1 hXb hRow hR hql hact hb ac hf0' hf1' d1 d2 n0 n1 n2 hm
 generalize w3.heap.size = X at hL' ⊢
 generalize w.heap.size + 1 = z at hL' ⊢
 go_wp2_with fail
 go_loopg [13] G (fun kq v13 wr => ∃ (m : M3) (st : List Int) (p fl : Nat), Aside0 (runI ps kq m st p fl = some q) ∧ Aside0 (fl ≤ 100) ∧ Aside0 (LS w X g z A ps m st (p : Int) (fl : Int) wr))
 case atStart => exact ⟨_, _, _, _, hq', hf1, hL'⟩
 case round =>
  clear hq' hf1 hL'
  obtain ⟨m, st, p, fl, HA, HF, HL⟩ := hrel
  cases gk with
  | zero => exact absurd HA.out (by simp [runI])
  | succ k1 =>
   by_cases hp : p < ps.length
   ·have d : decide (p < ps.length) = true := by simpa using hp
    have c14 := HL.out.rs.c14
    have f14 := HL.out.rs.f14
    obtain ⟨b, cur, qq, rfl, hb, hcur, hact⟩ := HL.out.row p hp
    obtain ⟨F, BX⟩ := qq
    have e0 : wr.cell? ⟨b, p, none⟩ = some (.func (.func F) #[] #[.pointer (some ⟨BX, 0, none⟩)]) := (blk_cell hb p).trans hcur
    have w1_ : wrap64 ((p : Int) + 1) = (p : Int) + 1 := by have := hle'.out; unfold wrap64; omega
    have hact' := Aside0.mk hact
    clear hb hcur hact
    have hp' := Aside0.mk hp
    go_upto_region 9 with (fail)
    try clear hp
    have hS := HL.out.rs.setp ((p : Int) + 1)
    have HL2 : Aside0 (LS w X g z (some ⟨b, 0, none⟩) ps m st ((p : Int) + 1) (fl : Int) (wr.setCell ⟨X, 14, none⟩ (.int .i64 ((p : Int) + 1)))) := ⟨LS.ch HL.out hS.2 hS.1⟩
    have hact2 := Aside0.mk (ActV.ch hact'.out HL.out.rs hS.2)
    clear hS HL hact' c14 f14 e0 w1_ d
    generalize wr.setCell _ _ = wr2 at HL2 hact2 ⊢
    rw [show ((p : Int) + 1) = ((p + 1 : Nat) : Int) by omega] at HL2
    by_cases h8 : (rd_T30 ps (p : Int)).f0 = 8 ∧ fl = 0
    ·obtain ⟨e8, rfl⟩ := h8
     have hq2 := HA.out
     rw [runI_long hp'.out ⟨e8, rfl⟩] at hq2
     obtain rfl := Option.some.inj hq2
     obtain ⟨B9, e9, hc⟩ := stop_any hact2.out HL2.out.rs e8
     injection e9 with e9 _ e10
     injection e9 with e9
     subst e9
     obtain rfl : BX = B9 := by simpa using e10
     have eE := E_ _ HL2.out.be
     have hg := HL2.out.rs.G
     have ln := HL2.out.rs.ln
     have hce := ended_long g m.a m.b m.c wr2 E ln.1 ln.2.1 ln.2.2 hg eE
     clear HA hq2 e10 hact2 hg e8
     go_wp2_with fail
     refine hc.mono ?_
     rintro e w5 ⟨rfl, rfl⟩
     go_wp2_with fail
     refine hce.mono ?_
     rintro e w6 hq3
     clear hce hc eE
     obtain ⟨v0, v1, v2, rfl, hM, hb3⟩ := hq3
     obtain ⟨B0, e0, rfl⟩ := R_len (n := 6) hM.1 ln.1
     obtain ⟨B1, e1, rfl⟩ := R_len (n := 6) hM.2.1 ln.2.1
     obtain ⟨B2, e2, rfl⟩ := R_len (n := 6) hM.2.2 ln.2.2
     have hz3 := blk_below HL2.out.zz hb3
     have hB3 := HL2.out.be.trans (hb3.mono HL2.out.be.size)
     have i0 : w6.cell? ⟨z, 0, none⟩ = some (.slice none 0 0) := (blk_cell hz3 0).trans rfl
     have i1 : w6.cell? ⟨z, 1, none⟩ = some (.slice none 0 0) := (blk_cell hz3 1).trans rfl
     have i2 : w6.cell? ⟨z, 2, none⟩ = some (.slice none 0 0) := (blk_cell hz3 2).trans rfl
     have j0 : w6.frozen? ⟨z, 0, none⟩ = false := blk_frozen hz3 0
     have j1 : w6.frozen? ⟨z, 1, none⟩ = false := blk_frozen hz3 1
     have j2 : w6.frozen? ⟨z, 2, none⟩ = false := blk_frozen hz3 2
     have hE2 := mem3_store HL2.out.be.size hM hz3
     have hzz2 := res_store hz3 (.slice B0 6 e0) (.slice B1 6 e1) (.slice B2 6 e2)
     have hbl := below_set (j := 2) (v := .slice B2 6 e2) (below_set (j := 1) (v := .slice B1 6 e1) (below_set (j := 0) (v := .slice B0 6 e0) hB3 HL2.out.zb) HL2.out.zb) HL2.out.zb
     go_wp2
     refine bodyPost_ret (results_crtt rfl _ _ z 33 #[.slice B0 6 e0, .slice B1 6 e1, .slice B2 6 e2] (0, 0) _ rfl hzz2 Tryz.underlying33 rfl (by kernel_rfl)) rfl ⟨_, _, _, rfl, hE2, hbl⟩
    ·obtain ⟨hg, r, hd, hr⟩ := runI_inv HA.out hp'.out h8
     obtain ⟨F9, B9, e9, hF, hc⟩ := do_any hact2.out HL2.out.rs hd h8 HF.out hg
     injection e9 with e9 _ e10
     injection e9 with e9
     subst e9
     obtain rfl : BX = B9 := by simpa using e10
     have hr' := Aside0.mk hr
     have hfu : Aside0 (fu (rd_T30 ps (p : Int)) fl ≤ 100) := ⟨by have := HF.out; unfold fu; split <;> omega⟩
     clear hr hd hg h8 e10 hact2 HA HF
     rcases hF with rfl | rfl
     ·go_wp2_with fail
      refine hc.mono ?_
      rintro e w5 ⟨rfl, hR5, hC5⟩
      have hL5 := Aside0.mk (LS.ch HL2.out hC5 hR5)
      clear hc hR5 hC5
      go_wp2_with fail
      go_roundg k1
      case rel => exact ⟨_, _, _, _, hr', hfu, hL5⟩
      case measure => omega
     ·go_wp2_with fail
      refine hc.mono ?_
      rintro e w5 ⟨rfl, hR5, hC5⟩
      have hL5 := Aside0.mk (LS.ch HL2.out hC5 hR5)
      clear hc hR5 hC5
      go_wp2_with fail
      go_roundg k1
      case rel => exact ⟨_, _, _, _, hr', hfu, hL5⟩
      case measure => omega
   ·have d : decide (p < ps.length) = false := by simpa using hp
    have hq2 := HA.out
    rw [runI_end hp] at hq2
    obtain rfl := Option.some.inj hq2
    have c14 := HL.out.rs.c14
    have c15 := HL.out.rs.c15
    have ln := HL.out.rs.ln
    have hg := HL.out.rs.G
    have eE := E_ _ HL.out.be
    have hce := ended_fine g (fl : Int) m.a m.b m.c wr E ln.1 ln.2.1 ln.2.2 hg eE
    clear HA hq2 hg hp
    go_wp2_with fail
    refine hce.mono ?_
    rintro e w6 hq3
    clear hce eE
    obtain ⟨v0, v1, v2, rfl, hM, hb3⟩ := hq3
    obtain ⟨B0, e0, rfl⟩ := R_len (n := 6) hM.1 ln.1
    obtain ⟨B1, e1, rfl⟩ := R_len (n := 6) hM.2.1 ln.2.1
    obtain ⟨B2, e2, rfl⟩ := R_len (n := 6) hM.2.2 ln.2.2
    have hz3 := blk_below HL.out.zz hb3
    have hB3 := HL.out.be.trans (hb3.mono HL.out.be.size)
    have i0 : w6.cell? ⟨z, 0, none⟩ = some (.slice none 0 0) := (blk_cell hz3 0).trans rfl
    have i1 : w6.cell? ⟨z, 1, none⟩ = some (.slice none 0 0) := (blk_cell hz3 1).trans rfl
    have i2 : w6.cell? ⟨z, 2, none⟩ = some (.slice none 0 0) := (blk_cell hz3 2).trans rfl
    have j0 : w6.frozen? ⟨z, 0, none⟩ = false := blk_frozen hz3 0
    have j1 : w6.frozen? ⟨z, 1, none⟩ = false := blk_frozen hz3 1
    have j2 : w6.frozen? ⟨z, 2, none⟩ = false := blk_frozen hz3 2
    have hE2 := mem3_store HL.out.be.size hM hz3
    have hzz2 := res_store hz3 (.slice B0 6 e0) (.slice B1 6 e1) (.slice B2 6 e2)
    have hbl := below_set (j := 2) (v := .slice B2 6 e2) (below_set (j := 1) (v := .slice B1 6 e1) (below_set (j := 0) (v := .slice B0 6 e0) hB3 HL.out.zb) HL.out.zb) HL.out.zb
    go_wp2
    refine bodyPost_ret (results_crtt rfl _ _ z 33 #[.slice B0 6 e0, .slice B1 6 e1, .slice B2 6 e2] (0, 0) _ rfl hzz2 Tryz.underlying33 rfl (by kernel_rfl)) rfl ⟨_, _, _, rfl, hE2, hbl⟩
set_option maxRecDepth 100000 in
set_option maxHeartbeats 6400000 in
theorem codeRun_bad1 (A0 A1 A2 : Option Addr) (c0 c1 c2 : Nat) (l0 l1 l2 : List Int) (B : Option Addr) (cc : Nat) (ps : List S30) (fuel : Int) (w : World) (hr0 : Kd.C (Kd.int .i64) w A0 l0.length l0) (hr1 : Kd.C (Kd.int .i64) w A1 l1.length l1) (hr2 : Kd.C (Kd.int .i64) w A2 l2.length l2) (hp : Kd.C k30 w B ps.length ps) (hcc : ps.length ≤ cc) (hm : okM l0 l1 l2 = false) :
  Calls Tryz.prog 12 #[.agg #[.slice A0 l0.length c0, .slice A1 l1.length c1, .slice A2 l2.length c2], .slice B ps.length cc, .int .i64 fuel] w fun e w' => e = .returned (.tuple #[.agg #[.slice none 0 0, .slice none 0 0, .slice none 0 0], .int .i64 2, .int .i64 0]) ∧ Below w.heap.size w w' := by
 have hu33 := Tryz.underlying33
 have rd := fun W (k : Below w.heap.size w W) => readMem_any A0 A1 A2 c0 c1 c2 l0 l1 l2 W (Kd.C_below hr0 k) (Kd.C_below hr1 k) (Kd.C_below hr2 k)
 have ok := fun W (k : Below w.heap.size w W) => codeOk_any B cc ps W (Kd.C_below hp k) hcc
 clear hr0 hr1 hr2 hp hcc
 go_enter Tryz.func12, Tryz.ntmps12
 go_wp2_with fail
 have hZ : ((w.alloc (.cells #[.slice A0 l0.length c0, .slice A1 l1.length c1, .slice A2 l2.length c2] 33)).alloc (.cells #[.slice none 0 0, .slice none 0 0, .slice none 0 0] 33)).heap[w.heap.size + 1]? = some (.cells #[.slice none 0 0, .slice none 0 0, .slice none 0 0] 33 (0, 0)) := by
  have h := heap_alloc_new (w.alloc (.cells #[.slice A0 l0.length c0, .slice A1 l1.length c1, .slice A2 l2.length c2] 33)) (.cells #[.slice none 0 0, .slice none 0 0, .slice none 0 0] 33)
  rwa [show (w.alloc (.cells #[.slice A0 l0.length c0, .slice A1 l1.length c1, .slice A2 l2.length c2] 33)).heap.size = w.heap.size + 1 from Array.size_push ..] at h
 have k1 : Below w.heap.size w ((w.alloc (.cells #[.slice A0 l0.length c0, .slice A1 l1.length c1, .slice A2 l2.length c2] 33)).alloc (.cells #[.slice none 0 0, .slice none 0 0, .slice none 0 0] 33)) := ((Below.refl _ _).alloc (Nat.le_refl _) _).alloc (by rw [show (w.alloc _).heap.size = w.heap.size + 1 from Array.size_push ..]; omega) _
 generalize (w.alloc _).alloc _ = w1 at hZ k1 ⊢
 refine (rd _ k1).mono ?_
 rintro e w3 ⟨h1, h2, hb⟩
 replace hZ := blk_below hZ hb
 replace k1 := k1.trans (hb.mono k1.size)
 obtain rfl := h2 hm
 clear h1 h2 hb rd ok
 have z0 := (blk_cell hZ 0).trans rfl
 have z1 := (blk_cell hZ 1).trans rfl
 have z2 := (blk_cell hZ 2).trans rfl
 have f0 := blk_frozen hZ 0
 have f1 := blk_frozen hZ 1
 have f2 := blk_frozen hZ 2
 go_wp2
 have hZ2 := blk_put (blk_put (blk_put hZ 0 (.slice none 0 0) rfl) 1 (.slice none 0 0) rfl) 2 (.slice none 0 0) rfl
 refine bodyPost_ret (results_crtt rfl _ _ (w.heap.size + 1) 33 #[.slice none 0 0, .slice none 0 0, .slice none 0 0] (0, 0) _ rfl hZ2 Tryz.underlying33 rfl (by kernel_rfl)) rfl ?_
 exact ⟨rfl, below_set (below_set (below_set k1 (by simp)) (by simp)) (by simp)⟩
set_option maxRecDepth 100000 in
set_option maxHeartbeats 6400000 in
theorem codeRun_bad2 (A0 A1 A2 : Option Addr) (c0 c1 c2 : Nat) (l0 l1 l2 : List Int) (B : Option Addr) (cc : Nat) (ps : List S30) (fuel : Int) (w : World) (hr0 : Kd.C (Kd.int .i64) w A0 l0.length l0) (hr1 : Kd.C (Kd.int .i64) w A1 l1.length l1) (hr2 : Kd.C (Kd.int .i64) w A2 l2.length l2) (hp : Kd.C k30 w B ps.length ps) (hcc : ps.length ≤ cc) (hm : okM l0 l1 l2 = true) (hx : okB ps = false ∨ okB ps = true ∧ (fuel < 0 ∨ ¬ fuel < 0 ∧ 100 < fuel)) :
  Calls Tryz.prog 12 #[.agg #[.slice A0 l0.length c0, .slice A1 l1.length c1, .slice A2 l2.length c2], .slice B ps.length cc, .int .i64 fuel] w fun e w' => e = .returned (.tuple #[.agg #[.slice none 0 0, .slice none 0 0, .slice none 0 0], .int .i64 2, .int .i64 0]) ∧ Below w.heap.size w w' := by
 have hu33 := Tryz.underlying33
 have rd := fun W (k : Below w.heap.size w W) => readMem_any A0 A1 A2 c0 c1 c2 l0 l1 l2 W (Kd.C_below hr0 k) (Kd.C_below hr1 k) (Kd.C_below hr2 k)
 have ok := fun W (k : Below w.heap.size w W) => codeOk_any B cc ps W (Kd.C_below hp k) hcc
 clear hr0 hr1 hr2 hp hcc
 go_enter Tryz.func12, Tryz.ntmps12
 go_wp2_with fail
 have hZ : ((w.alloc (.cells #[.slice A0 l0.length c0, .slice A1 l1.length c1, .slice A2 l2.length c2] 33)).alloc (.cells #[.slice none 0 0, .slice none 0 0, .slice none 0 0] 33)).heap[w.heap.size + 1]? = some (.cells #[.slice none 0 0, .slice none 0 0, .slice none 0 0] 33 (0, 0)) := by
  have h := heap_alloc_new (w.alloc (.cells #[.slice A0 l0.length c0, .slice A1 l1.length c1, .slice A2 l2.length c2] 33)) (.cells #[.slice none 0 0, .slice none 0 0, .slice none 0 0] 33)
  rwa [show (w.alloc (.cells #[.slice A0 l0.length c0, .slice A1 l1.length c1, .slice A2 l2.length c2] 33)).heap.size = w.heap.size + 1 from Array.size_push ..] at h
 have k1 : Below w.heap.size w ((w.alloc (.cells #[.slice A0 l0.length c0, .slice A1 l1.length c1, .slice A2 l2.length c2] 33)).alloc (.cells #[.slice none 0 0, .slice none 0 0, .slice none 0 0] 33)) := ((Below.refl _ _).alloc (Nat.le_refl _) _).alloc (by rw [show (w.alloc _).heap.size = w.heap.size + 1 from Array.size_push ..]; omega) _
 generalize (w.alloc _).alloc _ = w1 at hZ k1 ⊢
 refine (rd _ k1).mono ?_
 rintro e w3 ⟨h1, h2, hb⟩
 replace hZ := blk_below hZ hb
 replace k1 := k1.trans (hb.mono k1.size)
 obtain ⟨g, rfl, -, -⟩ := h1 hm
 clear h1 h2 hb rd
 go_wp2_with fail
 refine (ok _ k1).mono ?_
 rintro e w4 ⟨rfl, hb⟩
 replace hZ := blk_below hZ hb
 replace k1 := k1.trans (hb.mono k1.size)
 clear hb ok
 generalize okB ps = ob at hx ⊢
 have z0 := (blk_cell hZ 0).trans rfl
 have z1 := (blk_cell hZ 1).trans rfl
 have z2 := (blk_cell hZ 2).trans rfl
 have f0 := blk_frozen hZ 0
 have f1 := blk_frozen hZ 1
 have f2 := blk_frozen hZ 2
 have hZ2 := blk_put (blk_put (blk_put hZ 0 (.slice none 0 0) rfl) 1 (.slice none 0 0) rfl) 2 (.slice none 0 0) rfl
 have kz := below_set (j := 2) (v := .slice none 0 0) (below_set (j := 1) (v := .slice none 0 0) (below_set (j := 0) (v := .slice none 0 0) k1 (show w.heap.size ≤ w.heap.size + 1 by omega)) (show w.heap.size ≤ w.heap.size + 1 by omega)) (show w.heap.size ≤ w.heap.size + 1 by omega)
 rcases hx with rfl | ⟨rfl, hx | ⟨hy, hx⟩⟩
 ·go_wp2
  exact bodyPost_ret (results_crtt rfl _ _ (w.heap.size + 1) 33 #[.slice none 0 0, .slice none 0 0, .slice none 0 0] (0, 0) _ rfl hZ2 Tryz.underlying33 rfl (by kernel_rfl)) rfl ⟨rfl, kz⟩
 ·have d1 : decide (fuel < 0) = true := by simpa using hx
  go_wp2
  exact bodyPost_ret (results_crtt rfl _ _ (w.heap.size + 1) 33 #[.slice none 0 0, .slice none 0 0, .slice none 0 0] (0, 0) _ rfl hZ2 Tryz.underlying33 rfl (by kernel_rfl)) rfl ⟨rfl, kz⟩
 ·have d1 : decide (fuel < 0) = false := by simpa using hy
  have d2 : decide (100 < fuel) = true := by simpa using hx
  go_wp2
  exact bodyPost_ret (results_crtt rfl _ _ (w.heap.size + 1) 33 #[.slice none 0 0, .slice none 0 0, .slice none 0 0] (0, 0) _ rfl hZ2 Tryz.underlying33 rfl (by kernel_rfl)) rfl ⟨rfl, kz⟩
theorem codeRun_any (A0 A1 A2 : Option Addr) (c0 c1 c2 : Nat) (l0 l1 l2 : List Int) (B : Option Addr) (cc : Nat) (ps : List S30) (fuel : Int) (w : World) (q : M3 × Int × Nat) (hE : LE w)
  (hr0 : Kd.C (Kd.int .i64) w A0 l0.length l0) (hr1 : Kd.C (Kd.int .i64) w A1 l1.length l1) (hr2 : Kd.C (Kd.int .i64) w A2 l2.length l2) (hp : Kd.C k30 w B ps.length ps) (hcc : ps.length ≤ cc) (hq : runC ⟨l0, l1, l2⟩ ps fuel = some q) :
  Calls Tryz.prog 12 #[.agg #[.slice A0 l0.length c0, .slice A1 l1.length c1, .slice A2 l2.length c2], .slice B ps.length cc, .int .i64 fuel] w fun e w' => ∃ v0 v1 v2, e = .returned (.tuple #[.agg #[v0, v1, v2], .int .i64 q.2.1, .int .i64 (q.2.2 : Int)]) ∧ Mem3 w w' v0 v1 v2 q.1.a q.1.b q.1.c ∧ Below w.heap.size w w' := by
 unfold runC at hq
 by_cases h : okM l0 l1 l2 = true ∧ okB ps = true ∧ 0 ≤ fuel ∧ fuel ≤ 100
 ·rw [if_pos h] at hq
  obtain ⟨E, he⟩ := hE
  exact codeRun_good A0 A1 A2 c0 c1 c2 l0 l1 l2 B cc ps fuel w q E he hr0 hr1 hr2 hp hcc h.1 h.2.1 h.2.2.1 h.2.2.2 _ hq (by have := (Hk.dep_facts h.2.1).1; omega)
 ·rw [if_neg h] at hq
  obtain rfl := Option.some.inj hq
  have key : Calls Tryz.prog 12 #[.agg #[.slice A0 l0.length c0, .slice A1 l1.length c1, .slice A2 l2.length c2], .slice B ps.length cc, .int .i64 fuel] w fun e w' => e = .returned (.tuple #[.agg #[.slice none 0 0, .slice none 0 0, .slice none 0 0], .int .i64 2, .int .i64 0]) ∧ Below w.heap.size w w' := by
   cases hm : okM l0 l1 l2 with
   | false => exact codeRun_bad1 A0 A1 A2 c0 c1 c2 l0 l1 l2 B cc ps fuel w hr0 hr1 hr2 hp hcc hm
   | true =>
    refine codeRun_bad2 A0 A1 A2 c0 c1 c2 l0 l1 l2 B cc ps fuel w hr0 hr1 hr2 hp hcc hm ?_
    cases hb : okB ps with
    | false => exact .inl rfl
    | true => exact .inr ⟨rfl, by rw [hm, hb] at h; simp only [true_and] at h; omega⟩
  refine key.mono ?_
  rintro e w' ⟨rfl, hb⟩
  exact ⟨_, _, _, rfl, mem3_nil _ _, hb⟩
end Go.Proofs.YtjamfddhcigchaaGreatDoor.Ho
