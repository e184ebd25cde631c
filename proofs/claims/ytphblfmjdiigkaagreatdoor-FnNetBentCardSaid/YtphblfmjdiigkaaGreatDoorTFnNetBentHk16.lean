/- What a net that is not ok, or that is bent, answers: the plain law of FnNetBent. No condition. -/
import Derived.Test.YtphblfmjdiigkaaGreatDoorTFnNetBentHk15
import Derived.Test.YtphblfmjdiigkaaGreatDoorTFnNetBentHk9
import Derived.Test.YtphblfmjdiigkaaGreatDoorTFnNetBentHk8
namespace Go.Proofs.YtphblfmjdiigkaaGreatDoor.Hk16
open Go.RowKit Go.Proofs.YtphblfmjdiigkaaGreatDoor.Hk9 Go.Proofs.YtphblfmjdiigkaaGreatDoor.Hk15 Go.Proofs.YtphblfmjdiigkaaGreatDoor.Hk8 Go.Proofs.YtphblfmjdiigkaaGreatDoor.Hb Go.Proofs.YtphblfmjdiigkaaGreatDoor.Hk1 Go.Proofs.YtphblfmjdiigkaaGreatDoor.Hk2 Go.Proofs.YtphblfmjdiigkaaGreatDoor.Hk3 Go.Proofs.YtphblfmjdiigkaaGreatDoor.Hk4 Go.Proofs.YtphblfmjdiigkaaGreatDoor.Hk5 Go.Proofs.YtphblfmjdiigkaaGreatDoor.Hk6 Go.Proofs.YtphblfmjdiigkaaGreatDoor.Hk7 Go.Proofs.YtphblfmjdiigkaaGreatDoor.HFnNetBent Go.Proofs.YtphblfmjdiigkaaGreatDoorW.PrintWords Go.Proofs.YtphblfmjdiigkaaGreatDoorW.PrintLast Go.Proofs.YtphblfmjdiigkaaGreatDoorW.PrintMore
set_option linter.unusedVariables false
set_option linter.unusedSimpArgs false
theorem pk_all (l : List S43) (told : List Bool) : ∀ (d i j : Nat), pk l told d i = some j → i ≤ j ∧ j < i + d ∧ td told (j : Int) = false ∧ wq told (rd_T43 l (j : Int)) = false
  | 0, i, j, h => by cases h
  | d + 1, i, j, h => by
    rw [pk] at h
    by_cases c : td told (i : Int) = false ∧ wq told (rd_T43 l (i : Int)) = false
    · rw [if_pos c] at h
      obtain rfl := Option.some.inj h
      exact ⟨by omega, by omega, c.1, c.2⟩
    · rw [if_neg c] at h
      obtain ⟨h1, h2, h3, h4⟩ := pk_all l told d (i + 1) j h
      exact ⟨by omega, by omega, h3, h4⟩
theorem nF_pos {told : List Bool} {n : Nat} (hn : n < told.length) (ht : td told (n : Int) = false) : 1 ≤ nF told := by
  have := nF_set told n hn ht
  omega
/-- A wire that waits for itself is never told. -/
theorem selfwait (l : List S43) (n : Nat) (hn : n < l.length) (h0 : (rd_T43 l (n : Int)).f2.f0 = 2) (h1 : (rd_T43 l (n : Int)).f2.f1 = (n : Int)) : ∀ (f : Nat) (told : List Bool) (out : List Int), told.length = l.length → td told (n : Int) = false →
    (ordR l f told out).length + 1 ≤ out.length + nF told
  | 0, told, out, ht, hf => by
    have := nF_pos (told := told) (n := n) (by omega) hf
    show out.length + 1 ≤ _
    omega
  | f + 1, told, out, ht, hf => by
    have hpos := nF_pos (told := told) (n := n) (by omega) hf
    rw [ordR]
    cases hp : pk l told l.length 0 with
    | none => show out.length + 1 ≤ _; omega
    | some j =>
      obtain ⟨_, hj, h3, h4⟩ := pk_all l told l.length 0 j hp
      have hne : j ≠ n := by
        rintro rfl
        unfold wq at h4
        rw [h0, h1, hf] at h4
        simp at h4
      have hs := nF_set told j (by omega) h3
      have hf' : td (told.set j true) (n : Int) = false := by
        rw [td_set told j (n : Int) (by omega) (by omega), hf, Bool.false_or]
        simp; omega
      have := selfwait l n hn h0 h1 f (told.set j true) (out ++ [(j : Int)]) (by rw [List.length_set]; exact ht) hf'
      rw [List.length_append, List.length_singleton] at this
      show (ordR l f (told.set j true) (out ++ [(j : Int)])).length + 1 ≤ _
      omega
theorem rd_last (l : List S43) (x : S43) : rd_T43 (l ++ [x]) (l.length : Int) = x := by
  rw [rd48 (l ++ [x]) l.length (by simp)]
  simp
theorem rd_old (l : List S43) (x : S43) (i : Nat) (h : i < l.length) : rd_T43 (l ++ [x]) (i : Int) = rd_T43 l (i : Int) := by
  rw [rd48 (l ++ [x]) i (by simp; omega), rd48 l i h, List.getElem_append_left h]
theorem law1 (l : List S43) : nOk (l ++ [xA l.length]) [] = false := by
  have h := selfwait (l ++ [xA l.length]) l.length (by simp) (by rw [rd_last]; rfl) (by rw [rd_last]; rfl) (l ++ [xA l.length]).length (List.replicate (l ++ [xA l.length]).length false) [] (by simp) (td_repl _ _)
  rw [nF_repl, List.length_nil] at h
  have e : (((orD (l ++ [xA l.length])).length : Int) == ((l ++ [xA l.length]).length : Int)) = false := by
    unfold orD
    simp only [beq_eq_false_iff_ne, ne_eq]
    omega
  unfold nOk
  rw [e]
  simp
theorem law2 (l : List S43) (h8 : l.length ≤ 8) : nOk (l ++ [xB l.length]) [] = false := by
  have hw : wrap64 ((l.length : Int) + 1) = (l.length : Int) + 1 := wrap_id (by omega) (by omega)
  have e : wOk (xB l.length) ((l ++ [xB l.length]).length : Int) = false := by
    have hs : sOkS (xB l.length).f2 ((l ++ [xB l.length]).length : Int) = false := by
      unfold sOkS sOk xB inB
      simp [hw]
    have hi : insL (xB l.length) = [(xB l.length).f2] := rfl
    unfold wOk
    rw [hi, List.any_cons, hs]
    simp
  unfold nOk
  have ea : (l ++ [xB l.length]).all (fun x => wOk x (l ++ [xB l.length]).length) = false := by
    rw [List.all_append, List.all_cons, e]
    simp
  rw [ea]
  simp
theorem sOk_mono {x : S41} {n : Int} (h : sOkS x n = true) : sOkS x (n + 1) = true := by
  unfold sOkS sOk inB at h ⊢
  by_cases h1 : x.f0 = 1
  · rw [if_pos h1] at h ⊢; exact h
  rw [if_neg h1] at h ⊢
  by_cases h2 : x.f0 = 2 ∨ x.f0 = 3
  · rw [if_pos h2] at h ⊢
    simp only [Bool.and_eq_true, decide_eq_true_eq] at h ⊢
    exact ⟨h.1, h.2.1, by omega⟩
  · rw [if_neg h2] at h; cases h
theorem wOk_mono {x : S43} {n : Int} (h : wOk x n = true) : wOk x (n + 1) = true := by
  unfold wOk at h ⊢
  rw [Bool.and_eq_true, Bool.and_eq_true] at h ⊢
  refine ⟨h.1, h.2.1, ?_⟩
  have h3 := h.2.2
  rw [Bool.not_eq_true', List.any_eq_false] at h3 ⊢
  intro s hs
  have := h3 s hs
  have h4 : sOkS s n = true := by simpa using this
  simp [sOk_mono h4]
theorem td_app (told : List Bool) (a : Int) : td (told ++ [false]) a = td told a := by
  unfold td rdOf
  rw [List.getD_eq_getElem?_getD, List.getD_eq_getElem?_getD]
  by_cases h : a.toNat < told.length
  · rw [List.getElem?_append_left h]
  · rw [List.getElem?_append_right (by omega), List.getElem?_eq_none (l := told) (by omega)]
    by_cases h2 : a.toNat - told.length = 0
    · rw [h2]; rfl
    · rw [List.getElem?_eq_none (by simp; omega)]
theorem wq_app (told : List Bool) (x : S43) : wq (told ++ [false]) x = wq told x := by
  unfold wq; rw [td_app, td_app]
theorem pk_app (l : List S43) (x : S43) (told : List Bool) : ∀ (d e i j : Nat), i + d ≤ l.length → pk l told d i = some j → pk (l ++ [x]) (told ++ [false]) (d + e) i = some j
  | 0, e, i, j, hi, h => by cases h
  | d + 1, e, i, j, hi, h => by
    rw [show d + 1 + e = (d + e) + 1 by omega, pk, td_app, wq_app, rd_old l x i (by omega)]
    rw [pk] at h
    by_cases c : td told (i : Int) = false ∧ wq told (rd_T43 l (i : Int)) = false
    · rw [if_pos c] at h ⊢; exact h
    · rw [if_neg c] at h ⊢
      exact pk_app l x told d e (i + 1) j (by omega) h
theorem nF_zero : ∀ (told : List Bool), nF told = 0 → ∀ a : Nat, a < told.length → td told (a : Int) = true
  | [], h, a, ha => by simp at ha
  | b :: bs, h, 0, ha => by
    rw [nF] at h
    cases b with
    | true => rfl
    | false => simp at h
  | b :: bs, h, a + 1, ha => by
    rw [nF] at h
    have := nF_zero bs (by omega) a (by simp at ha; omega)
    unfold td rdOf at this ⊢
    rw [show (((a + 1 : Nat) : Int)).toNat = a + 1 by omega]
    rw [show ((a : Int)).toNat = a by omega] at this
    simpa using this
theorem pk_end (l : List S43) (x : S43) (told : List Bool) (ht : told.length = l.length) (hz : nF told = 0) (hx : wq told x = false) : ∀ (d i : Nat), i + d = l.length → pk (l ++ [x]) (told ++ [false]) (d + 1) i = some l.length
  | 0, i, hi => by
    obtain rfl : i = l.length := by omega
    have e : td told (l.length : Int) = false := by
      unfold td rdOf
      rw [List.getD_eq_getElem?_getD, List.getElem?_eq_none (by omega)]
      try rfl
    rw [pk, td_app, wq_app, rd_last, if_pos ⟨e, hx⟩]
  | d + 1, i, hi => by
    rw [pk, td_app, if_neg (fun h => by
      have := nF_zero told hz i (by omega)
      rw [this] at h; exact absurd h.1 (by decide))]
    exact pk_end l x told ht hz hx d (i + 1) (by omega)
theorem ordR_app (l : List S43) (x : S43) (hx : ∀ told, wq told x = false) : ∀ (f : Nat) (told : List Bool) (out : List Int), told.length = l.length → nF told = f → (ordR l f told out).length = out.length + f →
    (ordR (l ++ [x]) (f + 1) (told ++ [false]) out).length = out.length + f + 1
  | 0, told, out, ht, hz, h => by
    rw [ordR, show (l ++ [x]).length = l.length + 1 by simp, pk_end l x told ht hz (hx told) l.length 0 (by omega)]
    show (ordR (l ++ [x]) 0 _ (out ++ [(l.length : Int)])).length = _
    rw [ordR, List.length_append]
    try rfl
  | f + 1, told, out, ht, hz, h => by
    rw [ordR] at h ⊢
    cases hp : pk l told l.length 0 with
    | none => rw [hp] at h; simp only at h; omega
    | some j =>
      rw [hp] at h
      obtain ⟨_, hj, h3, h4⟩ := pk_all l told l.length 0 j hp
      have hpa := pk_app l x told l.length 1 0 j (by omega) hp
      rw [show (l ++ [x]).length = l.length + 1 by simp, hpa]
      have hs := nF_set told j (by omega) h3
      have hset : (told ++ [false]).set j true = told.set j true ++ [false] := by rw [List.set_append_left _ _ (by omega)]
      show (ordR (l ++ [x]) (f + 1) ((told ++ [false]).set j true) (out ++ [(j : Int)])).length = _
      rw [hset]
      have h' : (ordR l f (told.set j true) (out ++ [(j : Int)])).length = (out ++ [(j : Int)]).length + f := by
        rw [List.length_append, List.length_singleton]
        have : (ordR l f (told.set j true) (out ++ [(j : Int)])).length = out.length + (f + 1) := h
        omega
      have := ordR_app l x hx f (told.set j true) (out ++ [(j : Int)]) (by rw [List.length_set]; exact ht) (by omega) h'
      rw [this, List.length_append, List.length_singleton]
      try omega
theorem nOk_open {l : List S43} {m : List S66} (h : nOk l m = true) : l.length ≤ 8 ∧ m.length ≤ 4 ∧ l.all (fun x => wOk x l.length) = true ∧ dA l m m.length 0 = true ∧ (orD l).length = l.length := by
  unfold nOk at h
  simp only [Bool.and_eq_true, decide_eq_true_eq, beq_iff_eq] at h
  exact ⟨h.1, h.2.1, h.2.2.1, h.2.2.2.1, by omega⟩
theorem law3 (l : List S43) (m : List S66) (h : nOk l m = true) : nOk (l ++ [xC l.length]) [] = decide ((l.length : Int) < 8) := by
  obtain ⟨h8, _, ha, _, ho⟩ := nOk_open h
  have hlen : (l ++ [xC l.length]).length = l.length + 1 := by simp
  have e1 : (orD (l ++ [xC l.length])).length = l.length + 1 := by
    unfold orD at ho ⊢
    have := ordR_app l (xC l.length) (fun told => by unfold wq xC; simp) l.length (List.replicate l.length false) [] (by simp) (nF_repl _) (by rw [ho]; simp)
    rw [hlen, show List.replicate (l.length + 1) false = List.replicate l.length false ++ [false] by rw [List.replicate_succ']]
    rw [this]; simp
  have e2 : (l ++ [xC l.length]).all (fun x => wOk x (l ++ [xC l.length]).length) = true := by
    rw [List.all_append, List.all_cons, List.all_nil, Bool.and_true, Bool.and_eq_true]
    rw [hlen]
    constructor
    · rw [List.all_eq_true] at ha ⊢
      intro x hx
      have := wOk_mono (ha x hx)
      rw [show ((l.length + 1 : Nat) : Int) = (l.length : Int) + 1 by omega]
      exact this
    · have hs : sOkS (xC l.length).f2 ((l.length + 1 : Nat) : Int) = true := by
        unfold sOkS sOk xC inB
        simp
        omega
      have hi : insL (xC l.length) = [(xC l.length).f2] := rfl
      unfold wOk
      rw [hi, List.any_cons, hs]
      rfl
  unfold nOk
  rw [e1, e2, hlen]
  have e3 : dA (l ++ [xC l.length]) [] ([] : List S66).length 0 = true := rfl
  rw [e3]
  by_cases h7 : l.length < 8
  · rw [decide_eq_true (by omega : (l.length : Int) < 8), decide_eq_true (by omega : l.length + 1 ≤ 8)]
    simp
  · rw [decide_eq_false (by omega : ¬ (l.length : Int) < 8), decide_eq_false (by omega : ¬ l.length + 1 ≤ 8)]
    rfl
theorem law4 (l : List S43) (m : List S66) (h : nOk l m = true) : nOk l (m ++ m) = ((m.length : Int) == 0) := by
  cases m with
  | nil => rw [List.append_nil, h]; rfl
  | cons y ys =>
    have hd : dOk l ((y :: ys) ++ (y :: ys)) (y :: ys).length = false := by
      unfold dOk
      rw [List.getElem?_append_right (Nat.le_refl _), Nat.sub_self, List.getElem?_cons_zero]
      show (ncl y l && !((((y :: ys) ++ (y :: ys)).take (y :: ys).length).any fun x => toB x y)) = false
      rw [List.take_left' rfl, List.any_cons]
      have : toB y y = true := by unfold toB; simp
      rw [this]; simp
    have hA : dA l ((y :: ys) ++ (y :: ys)) ((y :: ys) ++ (y :: ys)).length 0 = false := by
      cases hq : dA l ((y :: ys) ++ (y :: ys)) ((y :: ys) ++ (y :: ys)).length 0 with
      | false => rfl
      | true =>
        have := (dA_iff l _ _ 0).1 hq (y :: ys).length (by omega) (by simp)
        rw [hd] at this; cases this
    unfold nOk
    rw [hA]
    have e : (((y :: ys).length : Int) == 0) = false := by simp; omega
    rw [e]
    simp
theorem laws (l : List S43) (m : List S66) (h : nOk l m = true) : nOk (l ++ [xA l.length]) [] = false ∧ nOk (l ++ [xB l.length]) [] = false ∧ nOk (l ++ [xC l.length]) [] = decide ((l.length : Int) < 8) ∧ nOk l (m ++ m) = ((m.length : Int) == 0) :=
  ⟨law1 l, law2 l (nOk_open h).1, law3 l m h, law4 l m h⟩
end Go.Proofs.YtphblfmjdiigkaaGreatDoor.Hk16
