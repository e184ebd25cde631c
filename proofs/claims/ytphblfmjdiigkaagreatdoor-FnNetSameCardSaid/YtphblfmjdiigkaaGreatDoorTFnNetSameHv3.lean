/- What strings.Join and strconv.Itoa ask of a program, held by this program's own functions and types. No condition. -/
import Derived.Shelf.Strings.OnBuilder
import Derived.Shelf.Strconv.Itoa3
import Derived.Test.YtphblfmjdiigkaaGreatDoorTFnNetSameHu8
import Derived.WalkSmall
namespace Go.Proofs.YtphblfmjdiigkaaGreatDoor.Hl1
open Go.Shelf Go.RowKit Go.Proofs
set_option linter.unusedVariables false
set_option linter.unusedSimpArgs false
def lays156_ren : Go.Shelf.Ren := ⟨fun | 156 => 30 | 165 => 56 | 166 => 57 | 169 => 58 | 240 => 86 | 241 => 87 | 276 => 98 | 277 => 99 | n => n, fun | 31 => 52 | 9 => 9 | 3 => 3 | 4 => 4 | 0 => 0 | 20 => 20 | 72 => 104 | 76 => 108 | 70 => 102 | 37 => 35 | 75 => 107 | 127 => 136 | 164 => 151 | 5 => 5 | 80 => 63 | n => n, fun | n => n⟩
theorem lays156 : Go.Proofs.Lays.n156 Tryz.prog lays156_ren where
  mixed := by kernel_rfl
  f156 := Tryz.func30.trans (congrArg some (by kernel_rfl))
  f165 := Tryz.func56.trans (congrArg some (by kernel_rfl))
  f166 := Tryz.func57.trans (congrArg some (by kernel_rfl))
  f169 := Tryz.func58.trans (congrArg some (by kernel_rfl))
  f240 := Tryz.func86.trans (congrArg some (by kernel_rfl))
  f241 := Tryz.func87.trans (congrArg some (by kernel_rfl))
  f276 := Tryz.func98.trans (congrArg some (by kernel_rfl))
  f277 := Tryz.func99.trans (congrArg some (by kernel_rfl))
  t0 := Tryz.underlying0
  a0 := Tryz.isAgg0
  z0 := Tryz.sizeOf0
  v0 := Tryz.zeroValue0
  t3 := Tryz.underlying3
  a3 := Tryz.isAgg3
  z3 := Tryz.sizeOf3
  v3 := Tryz.zeroValue3
  t4 := Tryz.underlying4
  a4 := Tryz.isAgg4
  z4 := Tryz.sizeOf4
  v4 := Tryz.zeroValue4
  t9 := Tryz.underlying9
  a9 := Tryz.isAgg9
  z9 := Tryz.sizeOf9
  v9 := Tryz.zeroValue9
  t20 := Tryz.underlying20
  a20 := Tryz.isAgg20
  z20 := Tryz.sizeOf20
  v20 := Tryz.zeroValue20
  t31 := Tryz.underlying52
  a31 := Tryz.isAgg52
  z31 := Tryz.sizeOf52
  v31 := Tryz.zeroValue52
  t37 := Tryz.underlying35
  a37 := Tryz.isAgg35
  z37 := Tryz.sizeOf35
  v37 := Tryz.zeroValue35
  t70 := Tryz.underlying102
  a70 := Tryz.isAgg102
  z70 := Tryz.sizeOf102
  v70 := Tryz.zeroValue102
  t72 := Tryz.underlying104
  a72 := Tryz.isAgg104
  z72 := Tryz.sizeOf104
  v72 := Tryz.zeroValue104
  t75 := Tryz.underlying107
  a75 := Tryz.isAgg107
  z75 := Tryz.sizeOf107
  v75 := Tryz.zeroValue107
  t76 := Tryz.underlying108
  a76 := Tryz.isAgg108
  z76 := Tryz.sizeOf108
  v76 := Tryz.zeroValue108
  t127 := Tryz.underlying136
  a127 := Tryz.isAgg136
  z127 := Tryz.sizeOf136
  v127 := Tryz.zeroValue136
  t164 := Tryz.underlying151
  a164 := Tryz.isAgg151
  z164 := Tryz.sizeOf151
  v164 := Tryz.zeroValue151
def laysM171_ren : Go.Shelf.Ren := ⟨fun | 171 => 27 | 243 => 53 | 246 => 85 | 283 => 94 | 284 => 95 | 285 => 96 | 286 => 97 | 129 => 102 | 317 => 101 | 318 => 103 | 319 => 104 | 320 => 105 | 337 => 106 | 338 => 107 | n => n, fun | 3 => 3 | 9 => 9 | 2 => 2 | 4 => 4 | 171 => 145 | 0 => 0 | 53 => 146 | 37 => 35 | 5 => 5 | 173 => 149 | 212 => 156 | 51 => 157 | 20 => 20 | 213 => 158 | 46 => 159 | 232 => 162 | 233 => 163 | n => n, fun | 17 => 0 | 18 => 2 | 19 => 3 | n => n⟩
theorem laysM171 : Go.Proofs.LaysM.n171 Tryz.prog laysM171_ren where
  mixed := by kernel_rfl
  f129 := Tryz.func102.trans (congrArg some (by kernel_rfl))
  f171 := Tryz.func27.trans (congrArg some (by kernel_rfl))
  f243 := Tryz.func53.trans (congrArg some (by kernel_rfl))
  f246 := Tryz.func85.trans (congrArg some (by kernel_rfl))
  f283 := Tryz.func94.trans (congrArg some (by kernel_rfl))
  f284 := Tryz.func95.trans (congrArg some (by kernel_rfl))
  f285 := Tryz.func96.trans (congrArg some (by kernel_rfl))
  f286 := Tryz.func97.trans (congrArg some (by kernel_rfl))
  f317 := Tryz.func101.trans (congrArg some (by kernel_rfl))
  f318 := Tryz.func103.trans (congrArg some (by kernel_rfl))
  f319 := Tryz.func104.trans (congrArg some (by kernel_rfl))
  f320 := Tryz.func105.trans (congrArg some (by kernel_rfl))
  f337 := Tryz.func106.trans (congrArg some (by kernel_rfl))
  f338 := Tryz.func107.trans (congrArg some (by kernel_rfl))
  t0 := Tryz.underlying0
  a0 := Tryz.isAgg0
  z0 := Tryz.sizeOf0
  v0 := Tryz.zeroValue0
  t2 := Tryz.underlying2
  a2 := Tryz.isAgg2
  z2 := Tryz.sizeOf2
  v2 := Tryz.zeroValue2
  t3 := Tryz.underlying3
  a3 := Tryz.isAgg3
  z3 := Tryz.sizeOf3
  v3 := Tryz.zeroValue3
  t4 := Tryz.underlying4
  a4 := Tryz.isAgg4
  z4 := Tryz.sizeOf4
  v4 := Tryz.zeroValue4
  t5 := Tryz.underlying5
  a5 := Tryz.isAgg5
  z5 := Tryz.sizeOf5
  v5 := Tryz.zeroValue5
  t9 := Tryz.underlying9
  a9 := Tryz.isAgg9
  z9 := Tryz.sizeOf9
  v9 := Tryz.zeroValue9
  t20 := Tryz.underlying20
  a20 := Tryz.isAgg20
  z20 := Tryz.sizeOf20
  v20 := Tryz.zeroValue20
  t37 := Tryz.underlying35
  a37 := Tryz.isAgg35
  z37 := Tryz.sizeOf35
  v37 := Tryz.zeroValue35
  t46 := Tryz.underlying159
  a46 := Tryz.isAgg159
  z46 := Tryz.sizeOf159
  v46 := Tryz.zeroValue159
  t51 := Tryz.underlying157
  a51 := Tryz.isAgg157
  z51 := Tryz.sizeOf157
  v51 := Tryz.zeroValue157
  t53 := Tryz.underlying146
  a53 := Tryz.isAgg146
  z53 := Tryz.sizeOf146
  v53 := Tryz.zeroValue146
  t171 := Tryz.underlying145
  a171 := Tryz.isAgg145
  z171 := Tryz.sizeOf145
  v171 := Tryz.zeroValue145
  t173 := Tryz.underlying149
  a173 := Tryz.isAgg149
  z173 := Tryz.sizeOf149
  v173 := Tryz.zeroValue149
  t212 := Tryz.underlying156
  a212 := Tryz.isAgg156
  z212 := Tryz.sizeOf156
  v212 := Tryz.zeroValue156
  t213 := Tryz.underlying158
  a213 := Tryz.isAgg158
  z213 := Tryz.sizeOf158
  t232 := Tryz.underlying162
  a232 := Tryz.isAgg162
  z232 := Tryz.sizeOf162
  v232 := Tryz.zeroValue162
  t233 := Tryz.underlying163
  a233 := Tryz.isAgg163
  z233 := Tryz.sizeOf163
  v233 := Tryz.zeroValue163
  g17 := by kernel_rfl
  g18 := by kernel_rfl
  g19 := by kernel_rfl
  i0 := by kernel_rfl
  i2 := by kernel_rfl
  i3 := by kernel_rfl
  i4 := by kernel_rfl
  i5 := by kernel_rfl
  i9 := by kernel_rfl
  i20 := by kernel_rfl
  i37 := by kernel_rfl
  i46 := by kernel_rfl
  i51 := by kernel_rfl
  i53 := by kernel_rfl
  i171 := by kernel_rfl
  i173 := by kernel_rfl
  i212 := by kernel_rfl
  i232 := by kernel_rfl
  i233 := by kernel_rfl
  m17 := by kernel_rfl
  m18 := by kernel_rfl
  m19 := by kernel_rfl
theorem extra156 : Builder.Extra Tryz.prog lays156_ren where
  sizeBuilder := by kernel_rfl
  liesBuilder := by kernel_rfl
  t5 := Tryz.underlying5
  a5 := Tryz.isAgg5
  z5 := Tryz.sizeOf5
  v5 := Tryz.zeroValue5
  infoByte := by kernel_rfl
  cellsByte := by kernel_rfl
  sizeByte := by kernel_rfl
  neB5 := by decide
end Go.Proofs.YtphblfmjdiigkaaGreatDoor.Hl1
namespace Go.Proofs.YtphblfmjdiigkaaGreatDoor.Hv2
open Go.RowKit Go.Proofs.YtphblfmjdiigkaaGreatDoor.Hu9 Go.Proofs.YtphblfmjdiigkaaGreatDoor.Hu8 Go.Proofs.YtphblfmjdiigkaaGreatDoor.Hb Go.Proofs.YtphblfmjdiigkaaGreatDoor.Hu1 Go.Proofs.YtphblfmjdiigkaaGreatDoor.Hu2 Go.Proofs.YtphblfmjdiigkaaGreatDoor.Hu3 Go.Proofs.YtphblfmjdiigkaaGreatDoor.Hu4 Go.Proofs.YtphblfmjdiigkaaGreatDoor.Hu5 Go.Proofs.YtphblfmjdiigkaaGreatDoor.Hu6 Go.Proofs.YtphblfmjdiigkaaGreatDoor.Hu7 Go.Proofs.YtphblfmjdiigkaaGreatDoor.HFnNetSame Go.Proofs.YtphblfmjdiigkaaGreatDoorW.PrintWords Go.Proofs.YtphblfmjdiigkaaGreatDoorW.PrintLast Go.Proofs.YtphblfmjdiigkaaGreatDoorW.PrintMore
set_option linter.unusedVariables false
set_option linter.unusedSimpArgs false
def kindL : List ByteArray := [(⟨#[]⟩ : ByteArray), (⟨#[100, 101, 108, 97, 121]⟩ : ByteArray), (⟨#[104, 111, 108, 100]⟩ : ByteArray), (⟨#[99, 111, 117, 110, 116]⟩ : ByteArray), (⟨#[114, 105, 115, 101]⟩ : ByteArray), (⟨#[108, 97, 116, 99, 104]⟩ : ByteArray), (⟨#[]⟩ : ByteArray), (⟨#[]⟩ : ByteArray), (⟨#[]⟩ : ByteArray), (⟨#[]⟩ : ByteArray), (⟨#[]⟩ : ByteArray), (⟨#[97, 110, 100]⟩ : ByteArray), (⟨#[111, 114]⟩ : ByteArray), (⟨#[120, 111, 114]⟩ : ByteArray)]
theorem kind_size : ∀ (i : Nat), i < 14 → (rdOf ByteArray.empty kindL (i : Int)).size ≤ 5
  | 0, _ | 1, _ | 2, _ | 3, _ | 4, _ | 5, _ | 6, _ | 7, _ | 8, _ | 9, _ | 10, _ | 11, _ | 12, _ | 13, _ => by decide
  | n + 14, h => absurd h (by omega)
theorem info9 : (Tryz.prog.info? 9).map (fun i => (i.zero, i.size, i.bytes)) = some (some (.string ⟨#[]⟩), 1, 16) := by kernel_rfl
structure Tb (w : World) : Prop where
  tab : Lib.TabIs Tryz.prog w "internal/strconv.uint64pow10" .u64 Lib.pow10Tab
  gl : ∃ g, Tryz.prog.globalNamed "internal/strconv.uint64pow10" = some g ∧ g < w.heap.size
theorem Tb.at_ {w W : World} (h : Tb w) (b : Below w.heap.size w W) : Tb W := by
  obtain ⟨g, hg, hlt⟩ := h.gl
  exact ⟨var?_below b hg hlt h.tab, g, hg, Nat.lt_of_lt_of_le hlt b.size⟩
theorem below_gr (w : World) (k : Nat) (os : Array Obj) : Below w.heap.size w (Go.Sort.grow (w.drewN k) os) :=
  ⟨rfl, rfl, rfl, by show w.heap.size ≤ (w.heap ++ os).size; simp, fun i hi => by
    show (w.heap ++ os)[i]? = w.heap[i]?
    exact Array.getElem?_append_left hi⟩
def itoaS (n : Int) : ByteArray := ⟨(Lib.itoa n).toArray⟩
theorem itoaC (n : Int) (h0 : 0 ≤ n) (h1 : n ≤ 100000) (W : World) (ht : Tb W) : Calls Tryz.prog 27 #[.int .i64 n] W fun e w' => e = .returned (.string (itoaS n)) ∧ Below W.heap.size W w' := by
  refine (Any.strconv_Itoa (ρ := Hl1.laysM171_ren) Hl1.laysM171 n (by omega) (by omega) W ht.tab).mono ?_
  rintro e w' ⟨rfl, k, os, rfl⟩
  exact ⟨rfl, below_gr W k os⟩
def joinS (xs : List ByteArray) (sep : ByteArray) : ByteArray := ⟨(Lib.join (xs.map (·.data.toList)) sep.data.toList).toArray⟩
theorem joinC {base : Nat} {ok : Nat → Prop} (v : Value) (xs : List ByteArray) (sep : ByteArray) (W : World) (hR : Kd.R Kd.string 9 W base ok v xs) (h1 : 1 ≤ xs.length) (hn : xs.length ≤ 100) (hl : (Lib.join (xs.map (·.data.toList)) sep.data.toList).length ≤ 1000000) :
    Calls Tryz.prog 30 #[v, .string sep] W fun e w' => e = .returned (.string (joinS xs sep)) ∧ Below W.heap.size W w' := by
  obtain ⟨g, cp, rfl, hg, hg2, cs, hcs⟩ := Kd.R_form hR (by omega)
  obtain ⟨A', c', hv, hlc, hC⟩ := Kd.R_reads hR
  injection hv with hv1 hv2 hv3
  subst hv1 hv3
  refine (Any.strings_Join (ρ := Hl1.lays156_ren) Hl1.lays156 Hl1.extra156 g 0 cp xs sep W (fun j x hj => ?_) (blk_lt hcs) (by omega) hlc (by omega)).mono ?_
  · have hjl := (List.getElem?_eq_some_iff.1 hj).1
    obtain ⟨ad, hA, hc⟩ := Kd.at_string hC (j : Int) (by omega) (by omega)
    injection hA with hA
    subst hA
    have e : rdOf ByteArray.empty xs (j : Int) = x := by
      unfold rdOf
      rw [Int.toNat_natCast, List.getD_eq_getElem?_getD, hj]; rfl
    rw [e, Int.toNat_natCast] at hc
    have e2 : ((⟨g, 0, none⟩ : Addr).add j) = ⟨g, 0 + j, none⟩ := by
      simp [Addr.add]
      try (intro h; omega)
    rw [e2] at hc
    exact hc
  · rintro e w' ⟨rfl, hb⟩
    exact ⟨rfl, hb⟩
def wns : Array MapEntry := #[⟨.int .i64 1, .string ⟨#[100, 101, 108, 97, 121]⟩, 0⟩, ⟨.int .i64 2, .string ⟨#[104, 111, 108, 100]⟩, 1⟩, ⟨.int .i64 3, .string ⟨#[99, 111, 117, 110, 116]⟩, 2⟩, ⟨.int .i64 4, .string ⟨#[114, 105, 115, 101]⟩, 3⟩, ⟨.int .i64 5, .string ⟨#[108, 97, 116, 99, 104]⟩, 4⟩, ⟨.int .i64 11, .string ⟨#[97, 110, 100]⟩, 5⟩, ⟨.int .i64 12, .string ⟨#[111, 114]⟩, 6⟩, ⟨.int .i64 13, .string ⟨#[120, 111, 114]⟩, 7⟩]
theorem w_names (w : World) : Calls Tryz.prog 24 #[] w fun e w' => e = .returned (.map (some w.heap.size)) ∧ w.alloc (.map wns 8) = w' := by
  have hmm : (Instr.makeMap 53 none).run Tryz.prog w = .ok (.map (some w.heap.size)) (w.alloc (.map #[] 0)) := rfl
  have h1 := ins_new w Tryz.underlying53 Tryz.underlying3 #[] 0 1 (.string ⟨#[100, 101, 108, 97, 121]⟩) rfl
  have h2 := ins_new w Tryz.underlying53 Tryz.underlying3 #[⟨.int .i64 1, .string ⟨#[100, 101, 108, 97, 121]⟩, 0⟩] 1 2 (.string ⟨#[104, 111, 108, 100]⟩) rfl
  have h3 := ins_new w Tryz.underlying53 Tryz.underlying3 #[⟨.int .i64 1, .string ⟨#[100, 101, 108, 97, 121]⟩, 0⟩, ⟨.int .i64 2, .string ⟨#[104, 111, 108, 100]⟩, 1⟩] 2 3 (.string ⟨#[99, 111, 117, 110, 116]⟩) rfl
  have h4 := ins_new w Tryz.underlying53 Tryz.underlying3 #[⟨.int .i64 1, .string ⟨#[100, 101, 108, 97, 121]⟩, 0⟩, ⟨.int .i64 2, .string ⟨#[104, 111, 108, 100]⟩, 1⟩, ⟨.int .i64 3, .string ⟨#[99, 111, 117, 110, 116]⟩, 2⟩] 3 4 (.string ⟨#[114, 105, 115, 101]⟩) rfl
  have h5 := ins_new w Tryz.underlying53 Tryz.underlying3 #[⟨.int .i64 1, .string ⟨#[100, 101, 108, 97, 121]⟩, 0⟩, ⟨.int .i64 2, .string ⟨#[104, 111, 108, 100]⟩, 1⟩, ⟨.int .i64 3, .string ⟨#[99, 111, 117, 110, 116]⟩, 2⟩, ⟨.int .i64 4, .string ⟨#[114, 105, 115, 101]⟩, 3⟩] 4 5 (.string ⟨#[108, 97, 116, 99, 104]⟩) rfl
  have h6 := ins_new w Tryz.underlying53 Tryz.underlying3 #[⟨.int .i64 1, .string ⟨#[100, 101, 108, 97, 121]⟩, 0⟩, ⟨.int .i64 2, .string ⟨#[104, 111, 108, 100]⟩, 1⟩, ⟨.int .i64 3, .string ⟨#[99, 111, 117, 110, 116]⟩, 2⟩, ⟨.int .i64 4, .string ⟨#[114, 105, 115, 101]⟩, 3⟩, ⟨.int .i64 5, .string ⟨#[108, 97, 116, 99, 104]⟩, 4⟩] 5 11 (.string ⟨#[97, 110, 100]⟩) rfl
  have h7 := ins_new w Tryz.underlying53 Tryz.underlying3 #[⟨.int .i64 1, .string ⟨#[100, 101, 108, 97, 121]⟩, 0⟩, ⟨.int .i64 2, .string ⟨#[104, 111, 108, 100]⟩, 1⟩, ⟨.int .i64 3, .string ⟨#[99, 111, 117, 110, 116]⟩, 2⟩, ⟨.int .i64 4, .string ⟨#[114, 105, 115, 101]⟩, 3⟩, ⟨.int .i64 5, .string ⟨#[108, 97, 116, 99, 104]⟩, 4⟩, ⟨.int .i64 11, .string ⟨#[97, 110, 100]⟩, 5⟩] 6 12 (.string ⟨#[111, 114]⟩) rfl
  have h8 := ins_new w Tryz.underlying53 Tryz.underlying3 #[⟨.int .i64 1, .string ⟨#[100, 101, 108, 97, 121]⟩, 0⟩, ⟨.int .i64 2, .string ⟨#[104, 111, 108, 100]⟩, 1⟩, ⟨.int .i64 3, .string ⟨#[99, 111, 117, 110, 116]⟩, 2⟩, ⟨.int .i64 4, .string ⟨#[114, 105, 115, 101]⟩, 3⟩, ⟨.int .i64 5, .string ⟨#[108, 97, 116, 99, 104]⟩, 4⟩, ⟨.int .i64 11, .string ⟨#[97, 110, 100]⟩, 5⟩, ⟨.int .i64 12, .string ⟨#[111, 114]⟩, 6⟩] 7 13 (.string ⟨#[120, 111, 114]⟩) rfl
  simp at h1 h2 h3 h4 h5 h6 h7 h8
  go_enter Tryz.func24, Tryz.ntmps24
  go_wp2
  go_ret
  exact ⟨rfl, rfl⟩
theorem fnd (k : Int) (h : (1 ≤ k ∧ k ≤ 5) ∨ (11 ≤ k ∧ k ≤ 13)) : ∃ i, Instr.findNow (.int .i64) (.int .i64 k) wns.toList 0 = some (some (i, .string (rdOf ByteArray.empty kindL k))) := by
  have h' : k = 1 ∨ k = 2 ∨ k = 3 ∨ k = 4 ∨ k = 5 ∨ k = 11 ∨ k = 12 ∨ k = 13 := by omega
  rcases h' with rfl | rfl | rfl | rfl | rfl | rfl | rfl | rfl
  · exact ⟨0, rfl⟩
  · exact ⟨1, rfl⟩
  · exact ⟨2, rfl⟩
  · exact ⟨3, rfl⟩
  · exact ⟨4, rfl⟩
  · exact ⟨5, rfl⟩
  · exact ⟨6, rfl⟩
  · exact ⟨7, rfl⟩
theorem look_nm (k : Int) (h : (1 ≤ k ∧ k ≤ 5) ∨ (11 ≤ k ∧ k ≤ 13)) {b : Nat} {W : World} (hb : W.heap[b]? = some (.map wns 8)) : (Instr.lookup 53 (.map (some b)) (.int .i64 k) false).run Tryz.prog W = .ok (.string (rdOf ByteArray.empty kindL k)) W := by
  obtain ⟨i, hf⟩ := fnd k h
  have := look_hit W Tryz.underlying53 Tryz.underlying3 hb k false hf
  simpa using this
def letS (k : Int) : ByteArray := rdOf ByteArray.empty [(⟨#[]⟩ : ByteArray), (⟨#[105]⟩ : ByteArray), (⟨#[111]⟩ : ByteArray), (⟨#[118]⟩ : ByteArray)] k
set_option maxRecDepth 100000 in
theorem letterC (k i : Int) (h1 : 1 ≤ k) (h2 : k ≤ 3) (W : World) : Calls Tryz.prog 60 #[.agg #[.int .i64 k, .int .i64 i]] W fun e w' => e = .returned (.string (letS k)) ∧ Below W.heap.size W w' := by
  have hu39 := Tryz.underlying39
  have h' : k = 1 ∨ k = 2 ∨ k = 3 := by omega
  rcases h' with rfl | rfl | rfl
  all_goals
    go_enter Tryz.func60, Tryz.ntmps60
    go_wp2
    go_ret
    exact ⟨rfl, al W _⟩
theorem let_size (k : Int) : (letS k).size ≤ 1 := by
  by_cases h : k = 1 ∨ k = 2 ∨ k = 3
  · rcases h with rfl | rfl | rfl <;> decide
  · unfold letS rdOf
    match hk : k.toNat with
    | 0 => simp; try decide
    | 1 => exact absurd (by omega : k = 1) (fun e => h (.inl e))
    | 2 => exact absurd (by omega : k = 2) (fun e => h (.inr (.inl e)))
    | 3 => exact absurd (by omega : k = 3) (fun e => h (.inr (.inr e)))
    | n + 4 => simp
theorem dd_len : ∀ (u : Nat), u ≤ 100000 → (Lib.decDigits u).length ≤ 6 := by
  have step : ∀ n u : Nat, u < 10 ^ (n + 1) → (Lib.decDigits u).length ≤ n + 1 := by
    intro n
    induction n with
    | zero => intro u hu; rw [Lib.decDigits, dif_pos (by omega)]; simp
    | succ n ih =>
      intro u hu
      rw [Lib.decDigits]
      by_cases h : u < 10
      · rw [dif_pos h]; simp
      · rw [dif_neg h, List.length_append, List.length_singleton]
        have := ih (u / 10) (by rw [Nat.div_lt_iff_lt_mul (by omega)]; rw [Nat.pow_succ] at hu; exact hu)
        omega
  intro u hu
  exact step 5 u (by omega)
theorem itoa_size (n : Int) (h0 : 0 ≤ n) (h1 : n ≤ 100000) : (itoaS n).size ≤ 6 := by
  show (Lib.itoa n).toArray.size ≤ 6
  unfold Lib.itoa
  rw [if_neg (by omega), List.size_toArray]
  exact dd_len _ (by omega)
def addrS (k i : Int) : ByteArray := letS k ++ itoaS i
theorem addr_size (k i : Int) (h0 : 0 ≤ i) (h1 : i ≤ 100000) : (addrS k i).size ≤ 7 := by
  unfold addrS
  rw [ByteArray.size_append]
  have := let_size k; have := itoa_size i h0 h1
  omega
structure Tn2 (w : World) (g : Nat) (ty : Nat) (X : Array Value) (W : World) : Prop where
  h : W.heap[g]? = some (.cells X ty (0, 0))
  bel : Below w.heap.size w W
theorem Tn2.below {w W W' : World} {g ty : Nat} {X : Array Value} (h : Tn2 w g ty X W) (k : Below W.heap.size W W') : Tn2 w g ty X W' := ⟨blk_below h.h k, h.bel.trans (k.mono h.bel.size)⟩
set_option maxRecDepth 100000 in
theorem addrTextC (k i : Int) (h : aOk k i = true) (w : World) (ht : Tb w) : Calls Tryz.prog 31 #[.agg #[.int .i64 k, .int .i64 i]] w fun e w' => e = .returned (.string (addrS k i)) ∧ Below w.heap.size w w' := by
  have hu39 := Tryz.underlying39
  have hT : Tn2 w w.heap.size 39 #[.int .i64 k, .int .i64 i] (w.alloc (.cells #[.int .i64 k, .int .i64 i] 39)) := ⟨heap_alloc_new _ _, al w _⟩
  have hk : 1 ≤ k ∧ k ≤ 3 ∧ 0 ≤ i ∧ i < 6 := by
    unfold aOk at h; simp only [Bool.and_eq_true, decide_eq_true_eq] at h; exact ⟨h.1, h.2.1, h.2.2.1, h.2.2.2⟩
  have c59 := fun W => aOkC k i W
  rw [h] at c59
  have f1 : (9223372036854775807 < (letS k).size + (itoaS i).size) = False := eq_false (by have := let_size k; have := itoa_size i (by omega) (by omega); omega)
  have HK := aM_ hk
  clear hk h
  go_enter Tryz.func31, Tryz.ntmps31
  go_upto_region 1 with (fail)
  generalize w.alloc (Obj.cells _ 39) = W1 at hT ⊢
  obtain ⟨g, hg⟩ : ∃ q, w.heap.size = q := ⟨_, rfl⟩
  rw [hg] at hT ⊢
  clear hg
  (obtain ⟨j0, j1⟩ := HFnNetSame.cells2 hT.h)
  go_wp2_with fail
  refine (c59 _).mono ?_
  rintro e w2 ⟨rfl, hd⟩
  replace hT := hT.below hd
  clear hd c59 j0 j1
  go_upto_region 3 with (fail)
  have hTd := hT.below (b1_ (Below.refl _ _))
  clear hT
  refine start_ (n := 7) (S := fun w' => w'.cell? ⟨g, 0, none⟩ = some (.int .i64 k) ∧ w'.cell? ⟨g, 1, none⟩ = some (.int .i64 i) ∧ Tn2 w g 39 #[.int .i64 k, .int .i64 i] w') (ds := []) #[F_, F_, F_, F_, F_, F_, F_] (by kernel_rfl) rfl rfl ⟨(kC_ hTd.h 0).trans rfl, (kC_ hTd.h 1).trans rfl, hTd⟩ (fun hHeld => ?_)
  refine pure_ (i := 2) (N := some 8) (v := ?_) (a' := ?_) #[F_, F_, T_, F_, F_, F_, F_] rfl rfl (by kernel_rfl) (fun _ _ _ h => h) (Or.inl ⟨by rfl, ?_⟩) ?_ ?_
  rotate_left
  · intro w'
    go_simp
    with_reducible rfl
  rotate_left
  · simp only [Act.put, sA_, sB_, sC_, i64_w, i32_w]
    rfl
  refine take_ (i := 0) (N := some 6) (v := ?_) (a' := ?_) #[T_, F_, T_, F_, F_, F_, F_] rfl rfl (by kernel_rfl) (fun _ _ _ h => h) (Or.inl ⟨by rfl, ?_⟩) hHeld ?_ ?_
  rotate_left
  · rintro w' ⟨s0, s1, s2⟩
    go_simp
    with_reducible rfl
  rotate_left
  · simp only [Act.put, sA_, sB_, sC_, i64_w, i32_w]
    rfl
  refine take_ (i := 3) (N := some 9) (v := ?_) (a' := ?_) #[T_, F_, T_, T_, F_, F_, F_] rfl rfl (by kernel_rfl) (fun _ _ _ h => h) (Or.inl ⟨by rfl, ?_⟩) hHeld ?_ ?_
  rotate_left
  · rintro w' ⟨s0, s1, s2⟩
    go_simp
    with_reducible rfl
  rotate_left
  · simp only [Act.put, sA_, sB_, sC_, i64_w, i32_w]
    rfl
  refine one_ (i := 1) (N := some 7) #[T_, T_, T_, T_, F_, F_, F_] rfl rfl (by kernel_rfl) (by decide) (fun K hK => ?_)
  refine goes_ Tryz.func60 (by kernel_rfl) rfl #[.agg #[.int .i64 k, .int .i64 i]] (by rfl) rfl rfl (by simp only [mA_, List.map_cons, List.map_nil]; rfl) ?_
  with_reducible refine (letterC k i HK.out.1 HK.out.2.1 _).mono ?_
  rintro e wq ⟨rfl, hb⟩
  refine ⟨_, rfl, ?_⟩
  have hX := hHeld.2.2.below hb
  refine hK.out _ _ ⟨(kC_ hX.h 0).trans rfl, (kC_ hX.h 1).trans rfl, hX⟩ (fun hHeld => ?_)
  clear hK K
  refine norm_ (a' := ?_) ?_ ?_
  rotate_left
  · show Act.put _ (some 7) _ = _
    simp only [Act.put, sA_, sB_, sC_, i64_w, i32_w]
    rfl
  refine one_ (i := 4) (N := some 10) #[T_, T_, T_, T_, T_, F_, F_] rfl rfl (by kernel_rfl) (by decide) (fun K hK => ?_)
  refine goes_ Tryz.func27 (by kernel_rfl) rfl #[.int .i64 i] (by rfl) rfl rfl (by simp only [mA_, List.map_cons, List.map_nil]; rfl) ?_
  with_reducible refine (itoaC i HK.out.2.2.1 (by have := HK.out.2.2.2; omega) _ (ht.at_ hHeld.2.2.bel)).mono ?_
  rintro e wq ⟨rfl, hb⟩
  refine ⟨_, rfl, ?_⟩
  have hX := hHeld.2.2.below hb
  refine hK.out _ _ ⟨(kC_ hX.h 0).trans rfl, (kC_ hX.h 1).trans rfl, hX⟩ (fun hHeld => ?_)
  clear hK K
  refine norm_ (a' := ?_) ?_ ?_
  rotate_left
  · show Act.put _ (some 10) _ = _
    simp only [Act.put, sA_, sB_, sC_, i64_w, i32_w]
    rfl
  refine pure_ (i := 5) (N := some 11) (v := ?_) (a' := ?_) #[T_, T_, T_, T_, T_, T_, F_] rfl rfl (by kernel_rfl) (fun _ _ _ h => h) (Or.inl ⟨by rfl, ?_⟩) ?_ ?_
  rotate_left
  · intro w'
    go_simp
    with_reducible rfl
  rotate_left
  · simp only [Act.put, sA_, sB_, sC_, i64_w, i32_w]
    rfl
  refine pure_ (i := 6) (N := some 2) (v := ?_) (a' := ?_) #[T_, T_, T_, T_, T_, T_, T_] rfl rfl (by kernel_rfl) (fun _ _ _ h => h) (Or.inl ⟨by rfl, ?_⟩) ?_ ?_
  rotate_left
  · intro w'
    go_simp
    with_reducible rfl
  rotate_left
  · simp only [Act.put, sA_, sB_, sC_, i64_w, i32_w]
    rfl
  refine done_ (by kernel_rfl) ?_
  have hB := hHeld.2.2.bel
  clear hHeld hTd f1
  go_wp2
  go_ret
  exact ⟨rfl, hB⟩
theorem m_text1 (v : Value) (w : World) : (method 297 132 v "loop.example/stopgate/impl.text").run Tryz.prog w = .ok (143, v) w := by kernel_rfl
theorem m_text2 (v : Value) (w : World) : (method 297 134 v "loop.example/stopgate/impl.text").run Tryz.prog w = .ok (147, v) w := by kernel_rfl
theorem m_text3 (v : Value) (w : World) : (method 297 135 v "loop.example/stopgate/impl.text").run Tryz.prog w = .ok (151, v) w := by kernel_rfl
set_option maxRecDepth 100000 in
theorem rt1 (c d : Int) (h : aOk c d = true) (w : World) (ht : Tb w) : Calls Tryz.prog 143 #[.agg #[.int .i64 c, .int .i64 d]] w fun e w' => e = .returned (.string (addrS c d)) ∧ Below w.heap.size w w' := by
  have hu132 := Tryz.underlying132
  have hu39 := Tryz.underlying39
  have hT : Tn2 w w.heap.size 132 #[.int .i64 c, .int .i64 d] (w.alloc (.cells #[.int .i64 c, .int .i64 d] 132)) := ⟨heap_alloc_new _ _, al w _⟩
  have cc := addrTextC c d h _ (ht.at_ hT.bel)
  have i0 : (w.alloc (.cells #[.int .i64 c, .int .i64 d] 132)).cell? ⟨w.heap.size, 0, none⟩ = some (.int .i64 c) := (kC_ hT.h 0).trans rfl
  have i1 : (w.alloc (.cells #[.int .i64 c, .int .i64 d] 132)).cell? ⟨w.heap.size, 1, none⟩ = some (.int .i64 d) := (kC_ hT.h 1).trans rfl
  clear h
  go_enter Tryz.func143, Tryz.ntmps143
  go_wp2_with fail
  refine cc.mono ?_
  rintro e w2 ⟨rfl, hb⟩
  have hB := (hT.below hb).bel
  clear hT cc i0 i1
  go_wp2
  go_ret
  exact ⟨rfl, hB⟩
set_option maxRecDepth 100000 in
theorem rt2 (t : Int) (h0 : 0 ≤ t) (h1 : t ≤ 100000) (w : World) (ht : Tb w) : Calls Tryz.prog 147 #[.agg #[.int .i64 t]] w fun e w' => e = .returned (.string ((⟨#[119]⟩ : ByteArray) ++ itoaS t)) ∧ Below w.heap.size w w' := by
  have hu := Tryz.underlying134
  have hT : Tn2 w w.heap.size 134 #[.int .i64 t] (w.alloc (.cells #[.int .i64 t] 134)) := ⟨heap_alloc_new _ _, al w _⟩
  have cc := itoaC t h0 h1 _ (ht.at_ hT.bel)
  have i0 : (w.alloc (.cells #[.int .i64 t] 134)).cell? ⟨w.heap.size, 0, none⟩ = some (.int .i64 t) := (kC_ hT.h 0).trans rfl
  have f1 : (9223372036854775807 < 1 + (itoaS t).size) = False := eq_false (by have := itoa_size t h0 h1; omega)
  clear h0 h1
  go_enter Tryz.func147, Tryz.ntmps147
  go_wp2_with fail
  refine cc.mono ?_
  rintro e w2 ⟨rfl, hb⟩
  have hB := (hT.below hb).bel
  clear hT cc i0
  go_wp2
  go_ret
  exact ⟨rfl, hB⟩
set_option maxRecDepth 100000 in
theorem rt3 (t : Int) (h0 : 0 ≤ t) (h1 : t ≤ 100000) (w : World) (ht : Tb w) : Calls Tryz.prog 151 #[.agg #[.int .i64 t]] w fun e w' => e = .returned (.string ((⟨#[108]⟩ : ByteArray) ++ itoaS t)) ∧ Below w.heap.size w w' := by
  have hu := Tryz.underlying135
  have hT : Tn2 w w.heap.size 135 #[.int .i64 t] (w.alloc (.cells #[.int .i64 t] 135)) := ⟨heap_alloc_new _ _, al w _⟩
  have cc := itoaC t h0 h1 _ (ht.at_ hT.bel)
  have i0 : (w.alloc (.cells #[.int .i64 t] 135)).cell? ⟨w.heap.size, 0, none⟩ = some (.int .i64 t) := (kC_ hT.h 0).trans rfl
  have f1 : (9223372036854775807 < 1 + (itoaS t).size) = False := eq_false (by have := itoa_size t h0 h1; omega)
  clear h0 h1
  go_enter Tryz.func151, Tryz.ntmps151
  go_wp2_with fail
  refine cc.mono ?_
  rintro e w2 ⟨rfl, hb⟩
  have hB := (hT.below hb).bel
  clear hT cc i0
  go_wp2
  go_ret
  exact ⟨rfl, hB⟩
def srcM (x : S41) : ByteArray := if x.f0 = 1 then addrS x.f2.f0 x.f2.f1 else if x.f0 = 2 then (⟨#[119]⟩ : ByteArray) ++ itoaS x.f1 else (⟨#[108]⟩ : ByteArray) ++ itoaS x.f1
def srcB (x : S41) : ByteArray := if x.f3 = true then (⟨#[33]⟩ : ByteArray) ++ srcM x else srcM x
theorem sOk_in {x : S41} {n : Int} (h : sOkS x n = true) : (x.f0 = 1 ∧ aOk x.f2.f0 x.f2.f1 = true) ∨ (x.f0 = 2 ∧ 0 ≤ x.f1 ∧ x.f1 < n) ∨ (x.f0 = 3 ∧ 0 ≤ x.f1 ∧ x.f1 < n) := by
  unfold sOkS sOk inB at h
  by_cases h1 : x.f0 = 1
  · rw [if_pos h1] at h; simp only [Bool.and_eq_true] at h; exact .inl ⟨h1, h.2⟩
  · rw [if_neg h1] at h
    by_cases h2 : x.f0 = 2 ∨ x.f0 = 3
    · rw [if_pos h2] at h
      simp only [Bool.and_eq_true, decide_eq_true_eq] at h
      rcases h2 with h2 | h2
      · exact .inr (.inl ⟨h2, h.2⟩)
      · exact .inr (.inr ⟨h2, h.2⟩)
    · rw [if_neg h2] at h; cases h
theorem srcM_size {x : S41} {n : Int} (h : sOkS x n = true) (hn : n ≤ 1000) : (srcM x).size ≤ 7 := by
  unfold srcM
  rcases sOk_in h with ⟨h1, h2⟩ | ⟨h1, h2, h3⟩ | ⟨h1, h2, h3⟩
  · rw [if_pos h1]
    unfold aOk at h2; simp only [Bool.and_eq_true, decide_eq_true_eq] at h2
    exact addr_size _ _ (by omega) (by omega)
  · rw [if_neg (by omega), if_pos h1, ByteArray.size_append]
    have := itoa_size x.f1 h2 (by omega)
    have e : (⟨#[119]⟩ : ByteArray).size = 1 := rfl
    omega
  · rw [if_neg (by omega), if_neg (by omega), ByteArray.size_append]
    have := itoa_size x.f1 h2 (by omega)
    have e : (⟨#[108]⟩ : ByteArray).size = 1 := rfl
    omega
theorem srcB_size {x : S41} {n : Int} (h : sOkS x n = true) (hn : n ≤ 1000) : (srcB x).size ≤ 8 := by
  have := srcM_size h hn
  unfold srcB
  split
  · rw [ByteArray.size_append]
    have e : (⟨#[33]⟩ : ByteArray).size = 1 := rfl
    omega
  · omega
set_option maxRecDepth 100000 in
theorem srcT1 (t c d : Int) (b : Bool) (m : ByteArray) (w : World) (ht : Tb w) (hz : m.size ≤ 7)
    (rt : ∀ W, Tb W → Calls Tryz.prog 143 #[.agg #[.int .i64 c, .int .i64 d]] W fun e w' => e = .returned (.string m) ∧ Below W.heap.size W w') :
    Calls Tryz.prog 29 #[.agg #[.int .i64 1, .int .i64 t, .int .i64 c, .int .i64 d, .bool b]] w fun e w' => e = .returned (.string (if b = true then (⟨#[33]⟩ : ByteArray) ++ m else m)) ∧ Below w.heap.size w w' := by
  have hu41 := Tryz.underlying41
  have hu39 := Tryz.underlying39
  have hT : Tn2 w w.heap.size 41 #[.int .i64 1, .int .i64 t, .int .i64 c, .int .i64 d, .bool b] (w.alloc (.cells #[.int .i64 1, .int .i64 t, .int .i64 c, .int .i64 d, .bool b] 41)) := ⟨heap_alloc_new _ _, al w _⟩
  have f1 : (9223372036854775807 < 1 + m.size) = False := eq_false (by omega)
  clear hz
  go_enter Tryz.func29, Tryz.ntmps29
  go_upto_region 1 with (fail)
  generalize w.alloc (Obj.cells _ 41) = W1 at hT ⊢
  obtain ⟨g, hg⟩ : ∃ q, w.heap.size = q := ⟨_, rfl⟩
  rw [hg] at hT ⊢
  clear hg
  (obtain ⟨j0, j1, j2, j3, j4⟩ := HFnNetSame.cells5 hT.h)
  have mt := m_text1
  cases b with
  | true =>
    go_wp2_with fail
    refine (reading1 t c d _ _).mono ?_
    rintro e w2 ⟨rfl, hb⟩
    replace hT := hT.below hb
    clear hb j0 j1 j2 j3 j4
    have rt' := rt _ (ht.at_ hT.bel)
    go_wp2_with fail
    refine rt'.mono ?_
    rintro e w3 ⟨rfl, hb⟩
    replace hT := hT.below hb
    have hB := hT.bel
    clear hb rt rt' hT mt
    go_wp2
    go_ret
    exact ⟨rfl, hB⟩
  | false =>
    go_wp2_with fail
    refine (reading1 t c d _ _).mono ?_
    rintro e w2 ⟨rfl, hb⟩
    replace hT := hT.below hb
    clear hb j0 j1 j2 j3 j4
    have rt' := rt _ (ht.at_ hT.bel)
    go_wp2_with fail
    refine rt'.mono ?_
    rintro e w3 ⟨rfl, hb⟩
    replace hT := hT.below hb
    have hB := hT.bel
    clear hb rt rt' hT mt
    go_wp2
    go_ret
    exact ⟨rfl, hB⟩
set_option maxRecDepth 100000 in
theorem srcT2 (t c d : Int) (b : Bool) (m : ByteArray) (w : World) (ht : Tb w) (hz : m.size ≤ 7)
    (rt : ∀ W, Tb W → Calls Tryz.prog 147 #[.agg #[.int .i64 t]] W fun e w' => e = .returned (.string m) ∧ Below W.heap.size W w') :
    Calls Tryz.prog 29 #[.agg #[.int .i64 2, .int .i64 t, .int .i64 c, .int .i64 d, .bool b]] w fun e w' => e = .returned (.string (if b = true then (⟨#[33]⟩ : ByteArray) ++ m else m)) ∧ Below w.heap.size w w' := by
  have hu41 := Tryz.underlying41
  have hu39 := Tryz.underlying39
  have hT : Tn2 w w.heap.size 41 #[.int .i64 2, .int .i64 t, .int .i64 c, .int .i64 d, .bool b] (w.alloc (.cells #[.int .i64 2, .int .i64 t, .int .i64 c, .int .i64 d, .bool b] 41)) := ⟨heap_alloc_new _ _, al w _⟩
  have f1 : (9223372036854775807 < 1 + m.size) = False := eq_false (by omega)
  clear hz
  go_enter Tryz.func29, Tryz.ntmps29
  go_upto_region 1 with (fail)
  generalize w.alloc (Obj.cells _ 41) = W1 at hT ⊢
  obtain ⟨g, hg⟩ : ∃ q, w.heap.size = q := ⟨_, rfl⟩
  rw [hg] at hT ⊢
  clear hg
  (obtain ⟨j0, j1, j2, j3, j4⟩ := HFnNetSame.cells5 hT.h)
  have mt := m_text2
  cases b with
  | true =>
    go_wp2_with fail
    refine (reading2 t c d _ _).mono ?_
    rintro e w2 ⟨rfl, hb⟩
    replace hT := hT.below hb
    clear hb j0 j1 j2 j3 j4
    have rt' := rt _ (ht.at_ hT.bel)
    go_wp2_with fail
    refine rt'.mono ?_
    rintro e w3 ⟨rfl, hb⟩
    replace hT := hT.below hb
    have hB := hT.bel
    clear hb rt rt' hT mt
    go_wp2
    go_ret
    exact ⟨rfl, hB⟩
  | false =>
    go_wp2_with fail
    refine (reading2 t c d _ _).mono ?_
    rintro e w2 ⟨rfl, hb⟩
    replace hT := hT.below hb
    clear hb j0 j1 j2 j3 j4
    have rt' := rt _ (ht.at_ hT.bel)
    go_wp2_with fail
    refine rt'.mono ?_
    rintro e w3 ⟨rfl, hb⟩
    replace hT := hT.below hb
    have hB := hT.bel
    clear hb rt rt' hT mt
    go_wp2
    go_ret
    exact ⟨rfl, hB⟩
set_option maxRecDepth 100000 in
theorem srcT3 (t c d : Int) (b : Bool) (m : ByteArray) (w : World) (ht : Tb w) (hz : m.size ≤ 7)
    (rt : ∀ W, Tb W → Calls Tryz.prog 151 #[.agg #[.int .i64 t]] W fun e w' => e = .returned (.string m) ∧ Below W.heap.size W w') :
    Calls Tryz.prog 29 #[.agg #[.int .i64 3, .int .i64 t, .int .i64 c, .int .i64 d, .bool b]] w fun e w' => e = .returned (.string (if b = true then (⟨#[33]⟩ : ByteArray) ++ m else m)) ∧ Below w.heap.size w w' := by
  have hu41 := Tryz.underlying41
  have hu39 := Tryz.underlying39
  have hT : Tn2 w w.heap.size 41 #[.int .i64 3, .int .i64 t, .int .i64 c, .int .i64 d, .bool b] (w.alloc (.cells #[.int .i64 3, .int .i64 t, .int .i64 c, .int .i64 d, .bool b] 41)) := ⟨heap_alloc_new _ _, al w _⟩
  have f1 : (9223372036854775807 < 1 + m.size) = False := eq_false (by omega)
  clear hz
  go_enter Tryz.func29, Tryz.ntmps29
  go_upto_region 1 with (fail)
  generalize w.alloc (Obj.cells _ 41) = W1 at hT ⊢
  obtain ⟨g, hg⟩ : ∃ q, w.heap.size = q := ⟨_, rfl⟩
  rw [hg] at hT ⊢
  clear hg
  (obtain ⟨j0, j1, j2, j3, j4⟩ := HFnNetSame.cells5 hT.h)
  have mt := m_text3
  cases b with
  | true =>
    go_wp2_with fail
    refine (reading3 t c d _ _).mono ?_
    rintro e w2 ⟨rfl, hb⟩
    replace hT := hT.below hb
    clear hb j0 j1 j2 j3 j4
    have rt' := rt _ (ht.at_ hT.bel)
    go_wp2_with fail
    refine rt'.mono ?_
    rintro e w3 ⟨rfl, hb⟩
    replace hT := hT.below hb
    have hB := hT.bel
    clear hb rt rt' hT mt
    go_wp2
    go_ret
    exact ⟨rfl, hB⟩
  | false =>
    go_wp2_with fail
    refine (reading3 t c d _ _).mono ?_
    rintro e w2 ⟨rfl, hb⟩
    replace hT := hT.below hb
    clear hb j0 j1 j2 j3 j4
    have rt' := rt _ (ht.at_ hT.bel)
    go_wp2_with fail
    refine rt'.mono ?_
    rintro e w3 ⟨rfl, hb⟩
    replace hT := hT.below hb
    have hB := hT.bel
    clear hb rt rt' hT mt
    go_wp2
    go_ret
    exact ⟨rfl, hB⟩
theorem srcTextC (x : S41) (n : Int) (h : sOkS x n = true) (hn : n ≤ 1000) (w : World) (ht : Tb w) : Calls Tryz.prog 29 #[.agg #[.int .i64 x.f0, .int .i64 x.f1, .int .i64 x.f2.f0, .int .i64 x.f2.f1, .bool x.f3]] w fun e w' => e = .returned (.string (srcB x)) ∧ Below w.heap.size w w' := by
  have hz := srcM_size h hn
  have hin := sOk_in h
  obtain ⟨a, t, ⟨c, d⟩, b⟩ := x
  simp only at hin hz ⊢
  rcases hin with ⟨rfl, h2⟩ | ⟨rfl, h2, h3⟩ | ⟨rfl, h2, h3⟩
  · have e : srcM ⟨1, t, ⟨c, d⟩, b⟩ = addrS c d := rfl
    unfold srcB; rw [e] at hz ⊢
    exact srcT1 t c d b (addrS c d) w ht hz (fun W k => rt1 c d h2 W k)
  · have e : srcM ⟨2, t, ⟨c, d⟩, b⟩ = (⟨#[119]⟩ : ByteArray) ++ itoaS t := rfl
    unfold srcB; rw [e] at hz ⊢
    exact srcT2 t c d b _ w ht hz (fun W k => rt2 t h2 (by omega) W k)
  · have e : srcM ⟨3, t, ⟨c, d⟩, b⟩ = (⟨#[108]⟩ : ByteArray) ++ itoaS t := rfl
    unfold srcB; rw [e] at hz ⊢
    exact srcT3 t c d b _ w ht hz (fun W k => rt3 t h2 (by omega) W k)
end Go.Proofs.YtphblfmjdiigkaaGreatDoor.Hv2
namespace Go.Proofs.YtphblfmjdiigkaaGreatDoor.Hv3
open Go.RowKit Go.Proofs.YtphblfmjdiigkaaGreatDoor.Hv2 Go.Proofs.YtphblfmjdiigkaaGreatDoor.Hu9 Go.Proofs.YtphblfmjdiigkaaGreatDoor.Hu8 Go.Proofs.YtphblfmjdiigkaaGreatDoor.Hb Go.Proofs.YtphblfmjdiigkaaGreatDoor.Hu1 Go.Proofs.YtphblfmjdiigkaaGreatDoor.Hu2 Go.Proofs.YtphblfmjdiigkaaGreatDoor.Hu3 Go.Proofs.YtphblfmjdiigkaaGreatDoor.Hu4 Go.Proofs.YtphblfmjdiigkaaGreatDoor.Hu5 Go.Proofs.YtphblfmjdiigkaaGreatDoor.Hu6 Go.Proofs.YtphblfmjdiigkaaGreatDoor.Hu7 Go.Proofs.YtphblfmjdiigkaaGreatDoor.HFnNetSame Go.Proofs.YtphblfmjdiigkaaGreatDoorW.PrintWords Go.Proofs.YtphblfmjdiigkaaGreatDoorW.PrintLast Go.Proofs.YtphblfmjdiigkaaGreatDoorW.PrintMore
set_option linter.unusedVariables false
set_option linter.unusedSimpArgs false
theorem nt_own {α : Type} {d : Kd α} {e base : Nat} {ok : Nat → Prop} {W : World} {v : Value} {xs : List α} {g t : Nat} {cs : Array Value} (h : d.R e W base ok v xs) (hb : W.heap[g]? = some (.cells cs t (0, 0))) (ht : t ≠ e) : some g ≠ v.ownBlock := by
  intro he
  obtain ⟨cells, hc⟩ := Kd.R_typed h g he.symm
  rw [hb] at hc; injection hc with hc; injection hc with _ hc; exact ht hc
theorem join_len (sep : List UInt8) : ∀ (xs : List (List UInt8)), (∀ x ∈ xs, x.length ≤ 1000) → (Lib.joinTail sep xs).length ≤ xs.length * (1000 + sep.length)
  | [], _ => by simp [Lib.joinTail]
  | x :: xs, h => by
    have := join_len sep xs (fun y hy => h y (List.mem_cons_of_mem _ hy))
    have hx := h x (List.mem_cons_self ..)
    unfold Lib.joinTail at this ⊢
    rw [List.map_cons, List.flatten_cons, List.length_append, List.length_append, List.length_cons]
    have e : (xs.length + 1) * (1000 + sep.length) = xs.length * (1000 + sep.length) + (1000 + sep.length) := Nat.succ_mul ..
    omega
theorem join_fit (xs : List ByteArray) (sep : ByteArray) (h : ∀ x ∈ xs, x.size ≤ 1000) (hn : xs.length ≤ 100) (hs : sep.size ≤ 10) : (Lib.join (xs.map (·.data.toList)) sep.data.toList).length ≤ 1000000 := by
  have hs' : sep.data.toList.length ≤ 10 := hs
  cases xs with
  | nil => simp [Lib.join_nil]
  | cons x xs =>
    rw [List.map_cons, Lib.join_cons, List.length_append]
    have h1 : x.data.toList.length ≤ 1000 := h x (List.mem_cons_self ..)
    have h2 := join_len sep.data.toList (xs.map (·.data.toList)) (fun y hy => by
      obtain ⟨z, hz, rfl⟩ := List.mem_map.1 hy
      exact h z (List.mem_cons_of_mem _ hz))
    rw [List.length_map] at h2
    rw [List.length_cons] at hn
    have h3 : xs.length * (1000 + sep.data.toList.length) ≤ 99 * 1010 := Nat.mul_le_mul (by omega) (by omega)
    omega
structure Nt (w : World) (g1 : Nat) (A : Option Addr) (c : Nat) (l : List S43) (B : Option Addr) (d : Nat) (m : List S66) (W : World) : Prop where
  h : W.heap[g1]? = some (.cells #[.slice A l.length c, .slice B m.length d] 31 (0, 0))
  hC : Kd.C k43 W A l.length l
  hD : Kd.C k66 W B m.length m
  bel : Below w.heap.size w W
structure Wd (wr : World) (gz : Nat) (X : Array Value) (v : Value) (ws : List ByteArray) (W : World) : Prop where
  t : Tn2 wr gz 43 X W
  r : Kd.R Kd.string 9 W wr.heap.size (fun _ => True) v ws
set_option maxRecDepth 100000 in
theorem cnt1 (W : World) : Calls Tryz.prog 124 #[.agg #[]] W fun e w' => e = .returned (.bool true) ∧ Below W.heap.size W w' := by
  go_enter Tryz.func124, Tryz.ntmps124
  go_wp2
  go_ret
  exact ⟨rfl, by first | exact Below.refl _ _ | exact al W _ | exact below_drew1 (Below.refl _ _)⟩
set_option maxRecDepth 100000 in
theorem cnt2 (W : World) : Calls Tryz.prog 127 #[.agg #[]] W fun e w' => e = .returned (.bool true) ∧ Below W.heap.size W w' := by
  go_enter Tryz.func127, Tryz.ntmps127
  go_wp2
  go_ret
  exact ⟨rfl, by first | exact Below.refl _ _ | exact al W _ | exact below_drew1 (Below.refl _ _)⟩
set_option maxRecDepth 100000 in
theorem cnt3 (W : World) : Calls Tryz.prog 130 #[.agg #[]] W fun e w' => e = .returned (.bool true) ∧ Below W.heap.size W w' := by
  go_enter Tryz.func130, Tryz.ntmps130
  go_wp2
  go_ret
  exact ⟨rfl, by first | exact Below.refl _ _ | exact al W _ | exact below_drew1 (Below.refl _ _)⟩
set_option maxRecDepth 100000 in
theorem cnt4 (W : World) : Calls Tryz.prog 133 #[.agg #[]] W fun e w' => e = .returned (.bool false) ∧ Below W.heap.size W w' := by
  go_enter Tryz.func133, Tryz.ntmps133
  go_wp2
  go_ret
  exact ⟨rfl, by first | exact Below.refl _ _ | exact al W _ | exact below_drew1 (Below.refl _ _)⟩
set_option maxRecDepth 100000 in
theorem cnt5 (W : World) : Calls Tryz.prog 136 #[.agg #[]] W fun e w' => e = .returned (.bool false) ∧ Below W.heap.size W w' := by
  go_enter Tryz.func136, Tryz.ntmps136
  go_wp2
  go_ret
  exact ⟨rfl, by first | exact Below.refl _ _ | exact al W _ | exact below_drew1 (Below.refl _ _)⟩
theorem blk_facts (k : Int) (h : 1 ≤ k ∧ k ≤ 5) : ∃ (T fn : Nat) (i : Nat), Instr.findNow (.int .i64) (.int .i64 k) wks.toList 0 = some (some (i, .iface T (.agg #[]))) ∧ (∀ w, (method 297 T (.agg #[]) "loop.example/stopgate/impl.counts").run Tryz.prog w = .ok (fn, .agg #[]) w) ∧ (∀ w, (callFunc fn #[.agg #[]]).run Tryz.prog w = .ok (.enter fn #[.agg #[]]) w) ∧ (∀ W, Calls Tryz.prog fn #[.agg #[]] W fun e w' => e = .returned (.bool (decide (k ≤ 3))) ∧ Below W.heap.size W w') := by
  have h' : k = 1 ∨ k = 2 ∨ k = 3 ∨ k = 4 ∨ k = 5 := by omega
  rcases h' with rfl | rfl | rfl | rfl | rfl
  · exact ⟨94, 124, 0, rfl, m_counts1, by intro w; kernel_rfl, fun W => cnt1 W⟩
  · exact ⟨95, 127, 1, rfl, m_counts2, by intro w; kernel_rfl, fun W => cnt2 W⟩
  · exact ⟨96, 130, 2, rfl, m_counts3, by intro w; kernel_rfl, fun W => cnt3 W⟩
  · exact ⟨97, 133, 3, rfl, m_counts4, by intro w; kernel_rfl, fun W => cnt4 W⟩
  · exact ⟨98, 136, 4, rfl, m_counts5, by intro w; kernel_rfl, fun W => cnt5 W⟩
def wordsB (x : S43) : List ByteArray := (rdOf ByteArray.empty kindL x.f0 :: (if (blB x.f0 && decide (x.f0 ≤ 3)) = true then [itoaS x.f1] else [])) ++ (insL x).map srcB
def wireB (x : S43) : ByteArray := joinS (wordsB x) ⟨#[32]⟩
def driveB (y : S66) : ByteArray := (⟨#[116, 111, 32]⟩ : ByteArray) ++ addrS y.f0.f0 y.f0.f1 ++ (⟨#[32, 119]⟩ : ByteArray) ++ itoaS y.f1
end Go.Proofs.YtphblfmjdiigkaaGreatDoor.Hv3
