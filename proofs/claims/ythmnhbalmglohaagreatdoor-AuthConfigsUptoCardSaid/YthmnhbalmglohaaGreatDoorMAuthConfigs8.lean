/- The law AuthConfigs: what the walk shows, put together with the plain law, as the given statement asks it: true for every argument of bulk at most 1048576. -/
import Derived.Test.YthmnhbalmglohaaGreatDoorMAuthConfigs7
import Derived.Test.YthmnhbalmglohaaGreatDoorMAuthConfigs5
import Derived.Test.YthmnhbalmglohaaGreatDoorMAuthConfigs4
import Derived.Test.YthmnhbalmglohaaGreatDoorCards
import Derived.Test.YthmnhbalmglohaaGreatDoorTie
import Derived.Test.YthmnhbalmglohaaGreatDoorMAuthConfigs1
import Derived.WalkKit
import Derived.ProofKit
import Derived.OpenShut
import Derived.ShutString
import Derived.ChangeOld
import Derived.Below
import Derived.SizedLaws
import Derived.Deep.DeepHandedRow
import Derived.Deep.DeepWitnessRowRef
/- What tollhouseref15's functions tell is what auth's tell. -/
namespace Go.Proofs.YthmnhbalmglohaaGreatDoor.X
open Go.RowKit Go.Proofs.YthmnhbalmglohaaGreatDoorW.PrintWords Go.Proofs.YthmnhbalmglohaaGreatDoorW.PrintMore Go.Proofs.YthmnhbalmglohaaGreatDoor.T
set_option linter.unusedSimpArgs false
set_option linter.unusedVariables false
/-! ### May -/
theorem authC_iff (c : UInt8) : isAuth c = true ↔ ((97 ≤ c.toNat ∧ c.toNat ≤ 122) ∨ (65 ≤ c.toNat ∧ c.toNat ≤ 90) ∨ (48 ≤ c.toNat ∧ c.toNat ≤ 57) ∨ c.toNat = 45 ∨ c.toNat = 46 ∨ c.toNat = 95 ∨ c.toNat = 126 ∨ c.toNat = 43 ∨ c.toNat = 47) := by
  have h : ∀ n : Fin 256, isAuth (UInt8.ofNat n.val) = true ↔ ((97 ≤ (UInt8.ofNat n.val).toNat ∧ (UInt8.ofNat n.val).toNat ≤ 122) ∨ (65 ≤ (UInt8.ofNat n.val).toNat ∧ (UInt8.ofNat n.val).toNat ≤ 90) ∨ (48 ≤ (UInt8.ofNat n.val).toNat ∧ (UInt8.ofNat n.val).toNat ≤ 57) ∨ (UInt8.ofNat n.val).toNat = 45 ∨ (UInt8.ofNat n.val).toNat = 46 ∨ (UInt8.ofNat n.val).toNat = 95 ∨ (UInt8.ofNat n.val).toNat = 126 ∨ (UInt8.ofNat n.val).toNat = 43 ∨ (UInt8.ofNat n.val).toNat = 47) := by decide +kernel
  have := h ⟨c.toNat, c.toNat_lt⟩
  simpa using this
def trimL (l : List UInt8) : List UInt8 := Lib.trimRightB l 61
theorem dropWhile_app (p : UInt8 → Bool) : ∀ a b : List UInt8, (a ++ b).dropWhile p = if (a.dropWhile p).isEmpty then b.dropWhile p else a.dropWhile p ++ b
  | [], b => rfl
  | x :: a, b => by
    rw [List.cons_append, List.dropWhile_cons, List.dropWhile_cons]
    cases p x with
    | true => simpa using dropWhile_app p a b
    | false => rfl
theorem trimL_cons (c : UInt8) (t : List UInt8) : trimL (c :: t) = if (trimL t).isEmpty then (if c == 61 then [] else [c]) else c :: trimL t := by
  unfold trimL Lib.trimRightB
  rw [List.reverse_cons, dropWhile_app]
  by_cases h : (t.reverse.dropWhile (· == 61)).isEmpty = true
  · rw [if_pos h, if_pos (by simpa using h)]
    cases hc : c == 61 with
    | true => simp [List.dropWhile_cons, hc]
    | false => simp [List.dropWhile_cons, hc]
  · rw [if_neg h, if_neg (by simpa using h)]
    simp
def goodTok (l : List UInt8) : Bool := (trimL l).all isAuth
theorem trimL_eqs : ∀ t : List UInt8, t.all (· == 61) = (trimL t).isEmpty
  | [] => rfl
  | c :: t => by
    rw [List.all_cons, trimL_cons, trimL_eqs t]
    cases (trimL t).isEmpty with
    | true => cases hc : c == 61 <;> simp
    | false => simp
theorem goodL_cons (c : UInt8) (t : List UInt8) (hc : c ≠ 61) : goodTok (c :: t) = (isAuth c && goodTok t) := by
  unfold goodTok
  rw [trimL_cons, if_neg (show ¬ (c == 61) = true by simpa using hc)]
  cases h : (trimL t).isEmpty with
  | true =>
    rw [if_pos rfl]
    rw [List.isEmpty_iff] at h
    rw [h]; simp
  | false => rw [if_neg (by decide)]; rfl
theorem goodL_eq (t : List UInt8) : goodTok (61 :: t) = t.all (· == 61) := by
  rw [trimL_eqs]
  unfold goodTok
  rw [trimL_cons]
  cases h : (trimL t).isEmpty with
  | true => rfl
  | false =>
    rw [if_neg (by decide), List.all_cons]
    rfl
theorem eqs_go (s : ByteArray) (hs : s.size ≤ 4294967296) (n : Nat) : ∀ (t : List UInt8) (i : Nat), s.data.toList.drop i = t → i ≤ s.size → Ev (fun k => tollhouseref15_May.l1 k s (n : Int) (i : Int)) (t.all (· == 61) && (decide (0 < n) && decide (s.size ≤ 64)))
  | [], i, ht, hi => by
    have hn : s.size ≤ i := by
      have := congrArg List.length ht
      rw [List.length_drop, size_toList] at this
      simp at this; omega
    have e : decide ((s.size : Int) ≤ 64) = decide (s.size ≤ 64) := by
      by_cases h : s.size ≤ 64
      · rw [decide_eq_true h, decide_eq_true (by omega)]
      · rw [decide_eq_false h, decide_eq_false (by omega)]
    refine Ev.done fun k => ?_
    simp only [tollhouseref15_May.l1]
    rw [if_neg (by omega)]
    by_cases h : 0 < n
    · rw [if_pos (by omega), e, decide_eq_true h]; simp
    · rw [if_neg (by omega), decide_eq_false h]; simp
  | c :: t, i, ht, hi => by
    have hil : i < s.size := by
      have := congrArg List.length ht
      rw [List.length_drop, size_toList] at this
      simp at this; omega
    have hd := drop_at hil
    rw [ht] at hd
    injection hd with e1 e2
    have ih := eqs_go s hs n t (i + 1) e2.symm (by omega)
    have hb := btAt hil
    rw [← e1] at hb
    by_cases hc : c = 61
    · subst hc
      rw [List.all_cons, show ((61 : UInt8) == 61) = true from rfl, Bool.true_and]
      refine Ev.step (fun k => ?_) ih
      simp only [tollhouseref15_May.l1]
      rw [if_pos (by omega), if_pos (by omega), if_pos (by rw [hb]; rfl), wrap_succ (by omega)]
    · rw [List.all_cons, show (c == 61) = false from by simpa using hc, Bool.false_and, Bool.false_and]
      refine Ev.done fun k => ?_
      have hne : bt s (i : Int) ≠ 61 := by
        rw [hb]; intro e
        refine hc (UInt8.toNat_inj.1 ?_)
        show c.toNat = 61
        omega
      simp only [tollhouseref15_May.l1]
      rw [if_pos (by omega), if_pos (by omega), if_neg hne]
set_option maxHeartbeats 1000000 in
theorem may_j1 (s : ByteArray) (hs : s.size ≤ 4294967296) (i : Nat) (hil : i < s.size) (k : Nat) : tollhouseref15_May.j1 (k + 1) s (i : Int) true = if isAuth (s[i]'hil) = true then tollhouseref15_May.l0 k s ((i + 1 : Nat) : Int) else some false := by
  have hb := btAt hil
  have hiff := authC_iff (s[i]'hil)
  generalize (s[i]'hil) = c at hb hiff
  simp only [tollhouseref15_May.j1]
  rw [wrap_succ (by omega), hb]
  generalize tollhouseref15_May.l0 k s ((i + 1 : Nat) : Int) = X
  rw [if_pos trivial, if_pos (by omega), if_pos (by omega)]
  by_cases h : isAuth c = true
  · rw [if_pos h]
    have h2 := hiff.1 h
    clear hiff h hb hil hs
    rcases h2 with h2 | h2 | h2 | h2 | h2 | h2 | h2 | h2 | h2
    all_goals repeat (first | rw [if_pos (by omega)] | rw [if_neg (by omega)])
  · rw [if_neg h]
    have h2 := mt hiff.2 h
    clear hiff h hb hil hs
    by_cases q1 : (c.toNat : Int) ≥ 97 <;> by_cases q2 : (c.toNat : Int) ≥ 65 <;> by_cases q3 : (c.toNat : Int) ≥ 48
    all_goals first | (exfalso; omega) | (repeat (first | rw [if_pos (by omega)] | rw [if_neg (by omega)]))
theorem may_go (s : ByteArray) (hs : s.size ≤ 4294967296) : ∀ (t : List UInt8) (i : Nat), s.data.toList.drop i = t → i ≤ s.size → Ev (fun k => tollhouseref15_May.l0 k s (i : Int)) (goodTok t && ((decide (0 < i) || !(trimL t).isEmpty) && decide (s.size ≤ 64)))
  | [], i, ht, hi => by
    have hn : s.size ≤ i := by
      have := congrArg List.length ht
      rw [List.length_drop, size_toList] at this
      simp at this; omega
    have h1 := eqs_go s hs i [] i ht hi
    refine Ev.step (g := fun k => tollhouseref15_May.j1 k s (i : Int) false) (fun k => ?_) (Ev.step (g := fun k => tollhouseref15_May.l1 k s (i : Int) (i : Int)) (fun k => ?_) ?_)
    · simp only [tollhouseref15_May.l0]
      rw [if_neg (by omega)]
    · simp only [tollhouseref15_May.j1]
      rw [if_neg (by decide)]
    · have e : (goodTok [] && ((decide (0 < i) || !(trimL []).isEmpty) && decide (s.size ≤ 64))) = (([] : List UInt8).all (· == 61) && (decide (0 < i) && decide (s.size ≤ 64))) := by
        show (true && ((decide (0 < i) || false) && decide (s.size ≤ 64))) = _
        rw [Bool.or_false]; rfl
      rw [e]; exact h1
  | c :: t, i, ht, hi => by
    have hil : i < s.size := by
      have := congrArg List.length ht
      rw [List.length_drop, size_toList] at this
      simp at this; omega
    have hd := drop_at hil
    rw [ht] at hd
    injection hd with e1 e2
    have ih := may_go s hs t (i + 1) e2.symm (by omega)
    have hb := btAt hil
    by_cases hc : c = 61
    · have h1 := eqs_go s hs i (c :: t) i ht (by omega)
      subst hc
      have hbt : bt s (i : Int) = 61 := by rw [hb, ← e1]; rfl
      refine Ev.step (g := fun k => tollhouseref15_May.j1 k s (i : Int) false) (fun k => ?_) (Ev.step (g := fun k => tollhouseref15_May.l1 k s (i : Int) (i : Int)) (fun k => ?_) ?_)
      · simp only [tollhouseref15_May.l0]
        rw [if_pos (by omega), if_pos (by omega), hbt]
        rfl
      · simp only [tollhouseref15_May.j1]
        rw [if_neg (by decide)]
      · have e : (goodTok (61 :: t) && ((decide (0 < i) || !(trimL (61 :: t)).isEmpty) && decide (s.size ≤ 64))) = ((61 :: t).all (· == 61) && (decide (0 < i) && decide (s.size ≤ 64))) := by
          rw [goodL_eq, List.all_cons, show ((61 : UInt8) == 61) = true from rfl, Bool.true_and]
          cases ha : t.all (· == 61) with
          | false => rfl
          | true =>
            have hx := trimL_eqs (61 :: t)
            rw [List.all_cons, ha] at hx
            rw [← hx]
            simp
        rw [e]; exact h1
    · have hne : bt s (i : Int) ≠ 61 := by
        rw [hb, ← e1]; intro e
        refine hc (UInt8.toNat_inj.1 ?_)
        show c.toNat = 61
        omega
      have hj := may_j1 s hs i hil
      rw [← e1] at hj
      have htl : (trimL (c :: t)).isEmpty = false := by
        rw [← trimL_eqs, List.all_cons, show (c == 61) = false from by simpa using hc]; rfl
      rw [goodL_cons c t hc, htl]
      refine Ev.step (g := fun k => tollhouseref15_May.j1 k s (i : Int) true) (fun k => ?_) ?_
      · simp only [tollhouseref15_May.l0]
        rw [if_pos (by omega), if_pos (by omega), show (bt s (i : Int) != 61) = true from by simpa using hne]
      · cases ha : isAuth c with
        | true =>
          rw [ha] at hj
          refine Ev.step (fun k => hj k) (Ev.same (fun k => if_pos rfl) ?_)
          have e : (true && goodTok t && ((decide (0 < i) || !false) && decide (s.size ≤ 64))) = (goodTok t && ((decide (0 < i + 1) || !(trimL t).isEmpty) && decide (s.size ≤ 64))) := by
            rw [decide_eq_true (Nat.succ_pos i)]; simp
          rw [e]; exact ih
        | false =>
          rw [ha] at hj
          exact Ev.done fun k => by rw [hj k, if_neg (by decide)]; rfl
theorem rAMay_ev (s : ByteArray) (hs : s.size ≤ 4294967296) : Ev (fun k => tollhouseref15_May.f k s) (authMayB s) := by
  have h := may_go s hs s.data.toList 0 rfl (Nat.zero_le _)
  have e : authMayB s = (goodTok s.data.toList && ((decide (0 < 0) || !(trimL s.data.toList).isEmpty) && decide (s.size ≤ 64))) := by
    have eb : (bareB s).data.toList = trimL s.data.toList := by unfold bareB trimL; rfl
    unfold authMayB goodTok
    rw [eb]
    cases (trimL s.data.toList).isEmpty <;> cases (trimL s.data.toList).all isAuth <;> simp
  rw [e]; exact h
/-! ### Tenant -/
set_option maxHeartbeats 1000000 in
theorem rtenant_j0 (b : Bool) (tok : ByteArray) (rules : List S46) (x2 x3 x4 x5 x6 x7 x8 : Int) : Ev (fun k => tollhouseref15_Tenant.j0 k (!b) tok rules x2 x3 x4 x5 x6 x7 x8) (rangesB x2 x3 x4 x5 x6 x7 x8 b) := by
  refine Ev.done fun k => ?_
  simp only [tollhouseref15_Tenant.j0]
  have hr : rangesB x2 x3 x4 x5 x6 x7 x8 b = true ↔ (b = true ∧ 0 ≤ x2 ∧ x2 ≤ 262144 ∧ 0 ≤ x3 ∧ x3 ≤ 64 ∧ 1 ≤ x4 ∧ x4 ≤ 16 ∧ 1 ≤ x5 ∧ x5 ≤ 8 ∧ 0 ≤ x6 ∧ x6 ≤ 16 ∧ 1 ≤ x7 ∧ x7 ≤ 1000 ∧ 1 ≤ x8 ∧ x8 ≤ 1000) := by
    unfold rangesB
    simp only [Bool.and_eq_true, decide_eq_true_eq, and_assoc]
  generalize rangesB x2 x3 x4 x5 x6 x7 x8 b = R at hr
  have no : (¬ (b = true ∧ 0 ≤ x2 ∧ x2 ≤ 262144 ∧ 0 ≤ x3 ∧ x3 ≤ 64 ∧ 1 ≤ x4 ∧ x4 ≤ 16 ∧ 1 ≤ x5 ∧ x5 ≤ 8 ∧ 0 ≤ x6 ∧ x6 ≤ 16 ∧ 1 ≤ x7 ∧ x7 ≤ 1000 ∧ 1 ≤ x8 ∧ x8 ≤ 1000)) → some false = some R := fun h => by
    cases R with
    | false => rfl
    | true => exact (h (hr.1 rfl)).elim
  cases b with
  | false => rw [if_pos (by decide)]; exact no (fun h => by simpa using h.1)
  | true =>
    rw [if_neg (by decide)]
    by_cases h2 : x2 < 0
    · rw [if_pos h2]; exact no (fun h => by omega)
    rw [if_neg h2]
    by_cases h3 : x2 > 262144
    · rw [if_pos h3]; exact no (fun h => by omega)
    rw [if_neg h3]
    by_cases h4 : x3 < 0
    · rw [if_pos h4]; exact no (fun h => by omega)
    rw [if_neg h4]
    by_cases h5 : x3 > 64
    · rw [if_pos h5]; exact no (fun h => by omega)
    rw [if_neg h5]
    by_cases h6 : x4 < 1
    · rw [if_pos h6]; exact no (fun h => by omega)
    rw [if_neg h6]
    by_cases h7 : x4 > 16
    · rw [if_pos h7]; exact no (fun h => by omega)
    rw [if_neg h7]
    by_cases h8 : x5 < 1
    · rw [if_pos h8]; exact no (fun h => by omega)
    rw [if_neg h8]
    by_cases h9 : x5 > 8
    · rw [if_pos h9]; exact no (fun h => by omega)
    rw [if_neg h9]
    by_cases h10 : x6 ≥ 0
    · rw [if_pos h10]
      by_cases h11 : x6 ≤ 16
      · rw [if_pos h11]
        by_cases h12 : x7 ≥ 1
        · rw [if_pos h12]
          by_cases h13 : x7 ≤ 1000
          · rw [if_pos h13]
            by_cases h14 : x8 ≥ 1
            · rw [if_pos h14]
              by_cases h15 : x8 ≤ 1000
              · rw [decide_eq_true h15, hr.2 ⟨rfl, by omega⟩]
              · rw [decide_eq_false h15]; exact no (fun h => by omega)
            · rw [if_neg h14]; exact no (fun h => by omega)
          · rw [if_neg h13]; exact no (fun h => by omega)
        · rw [if_neg h12]; exact no (fun h => by omega)
      · rw [if_neg h11]; exact no (fun h => by omega)
    · rw [if_neg h10]; exact no (fun h => by omega)
/-- a tenant whose texts and lists are no longer than a machine holds -/
def sizedT (x : S27) : Prop := x.f0.size ≤ 4294960000 ∧ x.f1.length ≤ 4294960000 ∧ ∀ y ∈ x.f1, sizedR y
theorem rtenant_ev (x : S27) (h : sizedT x) : Ev (fun k => tollhouseref15_Tenant.f k x.f0 x.f1 x.f2 x.f3 x.f4 x.f5 x.f6 x.f7 x.f8) (tenantR x) := by
  obtain ⟨h1, h2, h3⟩ := h
  have hM := rAMay_ev x.f0 (by omega)
  have hA := rall_ev x.f1 h2 h3
  unfold tenantR tenantB
  refine Ev.same (fun k => by unfold tollhouseref15_Tenant.f; rfl) (Ev.bind hM ?_)
  cases authMayB x.f0 with
  | false => exact Ev.same (fun k => if_neg (by decide)) (rtenant_j0 false _ _ _ _ _ _ _ _ _)
  | true => exact Ev.same (fun k => if_pos rfl) (Ev.bind hA (rtenant_j0 _ _ _ _ _ _ _ _ _ _))
/-! ### Config -/
theorem rd_tenant (l : List S27) (i : Nat) (x : S27) (h : l[i]? = some x) : rd_T27 l (i : Int) = x := by
  unfold rd_T27
  rw [Int.toNat_natCast, List.getD_eq_getElem?_getD, h]; rfl
theorem rconfig_l1 (l : List S27) (s t : Int) (hl : l.length ≤ 4294960000) (i : Nat) (y : S27) (hy : l[i]? = some y) (r : Bool) (hr : Ev (fun k => tollhouseref15_Config.l0 k ((i + 1 : Nat) : Int) l s t) r) :
    ∀ (d j : Nat), i - j = d → j ≤ i → Ev (fun k => tollhouseref15_Config.l1 k (i : Int) (j : Int) l s t) (!seenB (((l.take i).drop j).map (·.f0)) y.f0 && r)
  | 0, j, hd, hj => by
    obtain rfl : j = i := by omega
    have hil : j < l.length := (List.getElem?_eq_some_iff.1 hy).1
    rw [List.drop_eq_nil_of_le (by rw [List.length_take]; omega)]
    refine Ev.step (fun k => ?_) hr
    simp only [tollhouseref15_Config.l1]
    rw [if_neg (by omega), wrap_succ (by omega)]
  | d + 1, j, hd, hj => by
    have hil : i < l.length := (List.getElem?_eq_some_iff.1 hy).1
    have hjl : j < l.length := by omega
    have ih := rconfig_l1 l s t hl i y hy r hr d (j + 1) (by omega) (by omega)
    have hx : l[j]? = some l[j] := List.getElem?_eq_getElem hjl
    have hdr : (l.take i).drop j = l[j] :: (l.take i).drop (j + 1) := by
      rw [List.drop_eq_getElem_cons (by rw [List.length_take]; omega)]
      simp
    rw [hdr, List.map_cons]
    have hs : seenB ((l[j]).f0 :: ((l.take i).drop (j + 1)).map (·.f0)) y.f0 = (decide (y.f0.data.toList = (l[j]).f0.data.toList) || seenB (((l.take i).drop (j + 1)).map (·.f0)) y.f0) := rfl
    rw [hs]
    by_cases e : y.f0.data.toList = (l[j]).f0.data.toList
    · rw [decide_eq_true e]
      refine Ev.done fun k => ?_
      simp only [tollhouseref15_Config.l1]
      rw [if_pos (by omega), if_pos (by omega), if_pos (by omega), if_pos (by omega), if_pos (by omega), rd_tenant l j _ hx, rd_tenant l i _ hy, if_pos (by rw [toList_eq, toList_eq, e])]
      rfl
    · rw [decide_eq_false e, Bool.false_or]
      refine Ev.step (fun k => ?_) ih
      simp only [tollhouseref15_Config.l1]
      rw [if_pos (by omega), if_pos (by omega), if_pos (by omega), if_pos (by omega), if_pos (by omega), rd_tenant l j _ hx, rd_tenant l i _ hy, if_neg (by rw [toList_eq, toList_eq]; exact fun q => e q.symm), wrap_succ (by omega)]
theorem rconfig_go (l : List S27) (s t : Int) (hl : l.length ≤ 4294960000) (hx : ∀ x ∈ l, sizedT x) : ∀ (u : List S27) (i : Nat), l.drop i = u → i ≤ l.length →
    Ev (fun k => tollhouseref15_Config.l0 k (i : Int) l s t) (goodTs ((l.take i).map (·.f0)) u && restB l.length s t)
  | [], i, ht, hi => by
    have hil : l.length ≤ i := by
      have := congrArg List.length ht
      simp at this; omega
    have hr : restB l.length s t = true ↔ (1 ≤ l.length ∧ l.length ≤ 8 ∧ 0 ≤ s ∧ s ≤ 16 ∧ 1 ≤ t ∧ t ≤ 1099511627776) := by
      unfold restB
      simp only [Bool.and_eq_true, decide_eq_true_eq, and_assoc]
    have eg : (goodTs ((l.take i).map (·.f0)) [] && restB l.length s t) = restB l.length s t := rfl
    rw [eg]
    generalize restB l.length s t = R at hr
    have no : (¬ (1 ≤ l.length ∧ l.length ≤ 8 ∧ 0 ≤ s ∧ s ≤ 16 ∧ 1 ≤ t ∧ t ≤ 1099511627776)) → some false = some R := fun h => by
      cases R with
      | false => rfl
      | true => exact (h (hr.1 rfl)).elim
    refine Ev.done fun k => ?_
    simp only [tollhouseref15_Config.l0]
    rw [if_neg (by omega)]
    by_cases h1 : (l.length : Int) < 1
    · rw [if_pos h1]; exact no (fun h => by omega)
    rw [if_neg h1]
    by_cases h2 : (l.length : Int) > 8
    · rw [if_pos h2]; exact no (fun h => by omega)
    rw [if_neg h2]
    by_cases h3 : s < 0
    · rw [if_pos h3]; exact no (fun h => by omega)
    rw [if_neg h3]
    by_cases h4 : s > 16
    · rw [if_pos h4]; exact no (fun h => by omega)
    rw [if_neg h4]
    by_cases h5 : t ≥ 1
    · rw [if_pos h5]
      by_cases h6 : t ≤ 1099511627776
      · rw [decide_eq_true h6, hr.2 (by omega)]
      · rw [decide_eq_false h6]; exact no (fun h => by omega)
    · rw [if_neg h5]; exact no (fun h => by omega)
  | y :: u, i, ht, hi => by
    have hil : i < l.length := by
      have := congrArg List.length ht
      simp at this; omega
    have hiy : l[i]? = some y := by
      have : (l.drop i)[0]? = some y := by rw [ht]; rfl
      rw [List.getElem?_drop] at this
      simpa using this
    have ht2 : l.drop (i + 1) = u := by rw [← List.drop_drop, ht]; rfl
    have ih := rconfig_go l s t hl hx u (i + 1) ht2 (by omega)
    have etk : l.take (i + 1) = l.take i ++ [y] := by
      rw [List.take_add_one, hiy]; rfl
    rw [etk, List.map_append] at ih
    have hT := rtenant_ev y (hx y (List.mem_of_getElem? hiy))
    have eg : goodTs ((l.take i).map (·.f0)) (y :: u) = (tenantR y && (!seenB ((l.take i).map (·.f0)) y.f0 && goodTs ((l.take i).map (·.f0) ++ [y.f0]) u)) := rfl
    rw [eg]
    refine Ev.step (g := fun k => (tollhouseref15_Tenant.f k y.f0 y.f1 y.f2 y.f3 y.f4 y.f5 y.f6 y.f7 y.f8).bind fun b => if b = true then tollhouseref15_Config.l1 k (i : Int) 0 l s t else some false) (fun k => ?_) (Ev.bind hT ?_)
    · simp only [tollhouseref15_Config.l0]
      rw [if_pos (by omega), if_pos (by omega), rd_tenant l i y hiy]
    · cases tenantR y with
      | false => exact Ev.const fun k => by rw [if_neg (by decide)]; rfl
      | true =>
        have h1 := rconfig_l1 l s t hl i y hiy _ ih i 0 (by omega) (Nat.zero_le _)
        rw [List.drop_zero] at h1
        refine Ev.same (fun k => if_pos rfl) ?_
        rw [Bool.true_and, Bool.and_assoc]
        exact h1
theorem rconfig_ev (l : List S27) (s t : Int) (hl : l.length ≤ 4294960000) (hx : ∀ x ∈ l, sizedT x) : Ev (fun k => tollhouseref15_Config.f k l s t) (configB l s t) := rconfig_go l s t hl hx l 0 rfl (Nat.zero_le _)
end Go.Proofs.YthmnhbalmglohaaGreatDoor.X

/- The plain law of AuthConfigs; the chapter's rows. -/
namespace Go.Proofs.YthmnhbalmglohaaGreatDoor.X
open Go.RowKit Go.Proofs.YthmnhbalmglohaaGreatDoorW.PrintWords Go.Proofs.YthmnhbalmglohaaGreatDoorW.PrintMore Go.Proofs.YthmnhbalmglohaaGreatDoor.T
set_option linter.unusedSimpArgs false
set_option linter.unusedVariables false
theorem wakes15_at : tollhouselaw15_wakes.f 60 = some true := by decide +kernel
theorem wakes15 : Ev (fun k => tollhouselaw15_wakes.f k) true := Ev.of_mono (fun k => tollhouselaw15_wakes.mono k) wakes15_at
theorem sized_fitsR {x : S46} (h : sizedR x) : fitsR x = true := by
  obtain ⟨h1, h2, h3⟩ := h
  unfold fitsR
  have hm : fitsM x.f4 = true := List.all_eq_true.2 fun y hy => decide_eq_true (by have := h3 y hy; omega)
  rw [decide_eq_true (by omega), hm, decide_eq_true (by omega)]; rfl
theorem sized_fitsT {x : S27} (h : sizedT x) : fitsT x = true := by
  obtain ⟨h1, h2, h3⟩ := h
  unfold fitsT
  have hm : x.f1.all fitsR = true := List.all_eq_true.2 fun y hy => sized_fitsR (h3 y hy)
  rw [decide_eq_true (by omega), hm, decide_eq_true (by omega)]; rfl
theorem config_eq (l : List S27) (s t : Int) (hl : l.length ≤ 4294960000) (hx : ∀ x ∈ l, sizedT x) : auth_Config.f l s t = some (configB l s t) := by
  unfold auth_Config.f
  rw [if_pos ⟨List.all_eq_true.2 fun y hy => sized_fitsT (hx y hy), by omega⟩]
theorem AuthConfigs_pure (l : List S27) (s t : Int) (hl : l.length ≤ 4294960000) (hx : ∀ x ∈ l, sizedT x) (x : S27) (h : sizedT x) (a : ByteArray) (ha : a.size ≤ 1048576) :
    ∃ k, tollhouselaw15_AuthConfigs.f k l s t x.f0 x.f1 x.f2 x.f3 x.f4 x.f5 x.f6 x.f7 x.f8 a = some true := by
  obtain ⟨K1, g1⟩ := rconfig_ev l s t hl hx
  obtain ⟨K2, g2⟩ := rtenant_ev x h
  obtain ⟨K3, g3⟩ := rAMay_ev a (by omega)
  obtain ⟨K4, g4⟩ := wakes15
  refine ⟨K1 + K2 + K3 + K4, ?_⟩
  have q1 := g1 (K1 + K2 + K3 + K4) (by omega)
  have q2 := g2 (K1 + K2 + K3 + K4) (by omega)
  have q3 := g3 (K1 + K2 + K3 + K4) (by omega)
  have q4 := g4 (K1 + K2 + K3 + K4) (by omega)
  simp only at q1 q2 q3 q4
  have e1 := config_eq l s t hl hx
  have e2 := fitsT_f (sized_fitsT h)
  have e3 : auth_May.f a = some (authMayB a) := by unfold auth_May.f; rw [if_pos (by omega)]
  unfold tollhouselaw15_AuthConfigs.f
  rw [q1, q2, e1, e2, e3, q3, q4]
  simp
end Go.Proofs.YthmnhbalmglohaaGreatDoor.X

namespace Go.Proofs.YthmnhbalmglohaaGreatDoor.authConfigs
open Go.ChangeShapes Go.WideShapes Go.ChangeAt Go.RowKit Go.Proofs.YthmnhbalmglohaaGreatDoor Go.Proofs.YthmnhbalmglohaaGreatDoor.L Go.Proofs.YthmnhbalmglohaaGreatDoor.T Go.Proofs.YthmnhbalmglohaaGreatDoorW.PrintWords
set_option linter.unusedVariables false
set_option linter.unusedSimpArgs false
set_option maxRecDepth 100000
theorem own : ownKnob Tryz.prog.godebug = none := by kernel_rfl
theorem laidOut : laidOutB Tryz.prog = true := by kernel_rfl
/-- For every argument and every world that holds the listed variables. -/
theorem contract (H : Type) (enc : TypeId × Value → H) (W : World) (base : Nat) (args : Array Value) (ds gs : List (DataW H)) (before : List MemPlace)
    (hval : ∀ (j : Nat) t v, Tryz.f3.params[j]? = some t → args[j]? = some v → Value.okWide Tryz.prog W .any base t v)
    (hW : DataW.Whole enc Tryz.prog Tryz.f3.params.toList Rows.authConfigsSpec.vars false W args.toList ds gs before) (B : Nat) (hB : B ≤ 1048576) (hk : Rows.uptoBulkAll (ds ++ gs) ≤ B) (hL : laidMetH Tryz.prog laidL W) (hS : W.ShapedOpen Tryz.prog) :
    Calls Tryz.prog 3 args W fun e W' => ∃ v, e = .returned v ∧ Rows.authConfigsSpec.post enc Tryz.prog Tryz.f3 false true false false W args v W' := by
  have hG : Glob W := L.glob hL hS
  have hW' := hW
  obtain ⟨p, q, hA0, hV, rfl, hfz, hnd⟩ := hW
  have hA : DataW.TrodAll enc Tryz.prog W 0 (fun _ => true) true Tryz.f3.params.toList args.toList ds p := hA0
  rw [Tryz.params3] at hA hval
  obtain ⟨v0, vs0, d0, ds0, p0, q0, hargs, rfl, rfl, h0, r0⟩ := trodAll_cons hA
  obtain ⟨v1, vs1, d1, ds1, p1, q1, rfl, rfl, rfl, h1, r1⟩ := trodAll_cons r0
  obtain ⟨v2, vs2, d2, ds2, p2, q2, rfl, rfl, rfl, h2, r2⟩ := trodAll_cons r1
  obtain ⟨rfl, rfl, rfl⟩ := trodAll_nil r2
  obtain rfl : args = #[v0, v1, v2] := by cases args; simp_all
  obtain ⟨rfl, rfl⟩ := trodVars_none hV
  clear hA0
  simp only [List.cons_append, List.nil_append, List.append_nil, Rows.uptoBulkAll] at hk
  have k0 := h0
  have lt0 : ∀ x ∈ p0, x.block < W.heap.size := by obtain ⟨m, hm⟩ := k0; exact DataW.trod_lt m _ _ _ hm
  obtain ⟨fu0, hf0⟩ := h0
  obtain ⟨a0, K0, G0⟩ := X.opens_config H enc W _ _ fu0 _ _ hf0
  replace G0 := G0 B (show Rows.uptoBulk d0 ≤ B by omega)
  have hv0 : Value.okWide Tryz.prog W .any base 24 v0 := hval 0 24 v0 (by simp only [List.getElem?_toArray, List.getElem?_cons_zero, List.getElem?_cons_succ]) (by simp only [List.getElem?_toArray, List.getElem?_cons_zero, List.getElem?_cons_succ])
  obtain ⟨cs0, rfl, _⟩ := okWide_struct Tryz.underlying24 hv0
  obtain ⟨A0_0, c0_0, hcs0, l0_0, C0_0⟩ := X.k24_open K0
  have ecs0 : cs0 = List.toArray _ := (Array.toArray_toList (xs := cs0)).symm.trans (congrArg List.toArray hcs0)
  subst ecs0
  have k1 := h1
  have lt1 : ∀ x ∈ p1, x.block < W.heap.size := by obtain ⟨m, hm⟩ := k1; exact DataW.trod_lt m _ _ _ hm
  obtain ⟨fu1, hf1⟩ := h1
  obtain ⟨a1, K1, G1⟩ := X.opens_tenant H enc W _ _ fu1 _ _ hf1
  replace G1 := G1 B (show Rows.uptoBulk d1 ≤ B by omega)
  have hv1 : Value.okWide Tryz.prog W .any base 27 v1 := hval 1 27 v1 (by simp only [List.getElem?_toArray, List.getElem?_cons_zero, List.getElem?_cons_succ]) (by simp only [List.getElem?_toArray, List.getElem?_cons_zero, List.getElem?_cons_succ])
  obtain ⟨cs1, rfl, _⟩ := okWide_struct Tryz.underlying27 hv1
  obtain ⟨A1_1, c1_1, hcs1, l1_1, C1_1⟩ := X.k27_open K1
  have ecs1 : cs1 = List.toArray _ := (Array.toArray_toList (xs := cs1)).symm.trans (congrArg List.toArray hcs1)
  subst ecs1
  have k2 := h2
  have lt2 : ∀ x ∈ p2, x.block < W.heap.size := by obtain ⟨m, hm⟩ := k2; exact DataW.trod_lt m _ _ _ hm
  obtain ⟨fu2, hf2⟩ := h2
  obtain ⟨a2, K2, G2⟩ := (X.opens_string Tryz.underlying9) H enc W _ _ fu2 _ _ hf2
  replace G2 := G2 B (show Rows.uptoBulk d2 ≤ B by omega)
  have hv2 : Value.okWide Tryz.prog W .any base 9 v2 := hval 2 9 v2 (by simp only [List.getElem?_toArray, List.getElem?_cons_zero, List.getElem?_cons_succ]) (by simp only [List.getElem?_toArray, List.getElem?_cons_zero, List.getElem?_cons_succ])
  obtain ⟨x2, rfl⟩ := okWide_string Tryz.underlying9 hv2
  obtain rfl : a2 = x2 := (show x2 = a2 by simpa [Kd.int, Kd.bool, Kd.string, Kd.scalar, Value.cells] using K2).symm
  have sT : ∀ x, X.good_tenant B x → X.sizedT x := fun x g => ⟨Nat.le_trans g.1 (by omega), Nat.le_trans g.2.1.1 (by omega), fun y hy => ⟨Nat.le_trans (g.2.1.2 y hy).2.1 (by omega), Nat.le_trans (g.2.1.2 y hy).2.2.2.2.1 (by omega), fun z hz => Nat.le_trans ((g.2.1.2 y hy).2.2.2.2.2 z hz) (by omega)⟩⟩
  obtain ⟨k_, hp⟩ := X.AuthConfigs_pure a0.f0 a0.f1 a0.f2 (Nat.le_trans G0.1.1 (by omega)) (fun x hx => sT x (G0.1.2 x hx)) a1 (sT a1 G1) a2 (Nat.le_trans G2 hB)
  refine (X.tollhouselaw15_AuthConfigs.calls _ _ _ _ _ _ _ _ _ _ _ _ _ _ _ _ _ _ _ _ C0_0 l0_0 C1_1 l1_1 hG hp).mono ?_
  rintro e W' ⟨he, bel0⟩
  have bel : Below W.heap.size W W' := bel0
  subst he
  exact ⟨_, rfl, _, _, _, [], _, [], hW', trodAll_mk1 (shut_bool Tryz.underlying4 _), (trodAll_cons_mk (Below.trod laidOut (by kernel_rfl) (of_decide_eq_true (by kernel_rfl)) k0 bel lt0) (trodAll_cons_mk (Below.trod laidOut (by kernel_rfl) (of_decide_eq_true (by kernel_rfl)) k1 bel lt1) (trodAll_cons_mk (Below.trod laidOut (by kernel_rfl) (of_decide_eq_true (by kernel_rfl)) k2 bel lt2) trodAll_mk0))), rfl, bel.frame _, fun h => by cases h⟩
theorem reads (os : Os) {H : Type} (enc : TypeId × Value → H) : ∃ places, DataW.whole enc Tryz.prog ((laidWorld os).forCall (fun _ _ => 0) ⟨#[], #[.agg #[.slice none 0 0, .int .i64 0, .int .i64 0], .agg #[.string ByteArray.empty, .slice none 0 0, .int .i64 0, .int .i64 0, .int .i64 0, .int .i64 0, .int .i64 0, .int .i64 0, .int .i64 0], .string ByteArray.empty], []⟩).memory Tryz.f3.params.toList Rows.authConfigsSpec.vars false (#[.agg #[.slice none 0 0, .int .i64 0, .int .i64 0], .agg #[.string ByteArray.empty, .slice none 0 0, .int .i64 0, .int .i64 0, .int .i64 0, .int .i64 0, .int .i64 0, .int .i64 0, .int .i64 0], .string ByteArray.empty] : Array Value).toList 8 = some ([.agg [.nil, .lit (.int .i64 0), .lit (.int .i64 0)], .agg [.lit (.string []), .nil, .lit (.int .i64 0), .lit (.int .i64 0), .lit (.int .i64 0), .lit (.int .i64 0), .lit (.int .i64 0), .lit (.int .i64 0), .lit (.int .i64 0)], .lit (.string [])], [], places) :=
  ⟨[], by kernel_rfl⟩
theorem liftedUpto (os : Os) (started : os.Started) (H : Type) (enc : TypeId × Value → H) (F : Stop.Interp) :
    ReturnsInHanded {} Tryz.checked os 3 .any ((Rows.OpenSpec.upto Rows.authConfigsSpec).preRow enc Tryz.prog Tryz.f3 Rows.authConfigsUptoRow.domain false Rows.authConfigsUptoRow.laid) (((Rows.OpenSpec.upto Rows.authConfigsSpec).at F).post enc Tryz.prog Tryz.f3 false true false false) := by
  obtain ⟨places, hx⟩ := reads os enc
  refine returnsInHanded_of_row (C := Tryz.checked) (s := Rows.OpenSpec.upto Rows.authConfigsSpec) own started (by kernel_rfl) Tryz.func3
    (witness_row_atRef (enc := enc) (C := Tryz.checked) false (laidWorld os) #[.agg #[.slice none 0 0, .int .i64 0, .int .i64 0], .agg #[.string ByteArray.empty, .slice none 0 0, .int .i64 0, .int .i64 0, .int .i64 0, .int .i64 0, .int .i64 0, .int .i64 0, .int .i64 0], .string ByteArray.empty] rfl (by kernel_rfl) (by kernel_rfl) (by kernel_rfl)
      (OpenSpec.preRow_of_cond 8 hx (by kernel_rfl) (fun k hk => by cases hk; kernel_rfl) (by kernel_rfl) (laid_met os _))) ?_
  intro W base args ds gs before hval hW _ hk _ hL hS _
  exact contract H enc W base args ds gs before hval hW 1048576 (Nat.le_refl _) (of_decide_eq_true (hk _ rfl)) hL hS
theorem saidUpto : Rows.AuthConfigsUptoSaid :=
  OpenClaim.holds_of_cond 3 Tryz.f3 rfl rfl rfl rfl rfl rfl rfl ⟨rfl, rfl, rfl, rfl, rfl⟩ rfl rfl rfl rfl rfl (by kernel_rfl) Tryz.func3 (by kernel_rfl)
    (of_decide_eq_true (by kernel_rfl)) (by unfold Func.isWrapper; first | (rw [if_pos (by decide +kernel)]; kernel_rfl) | (rw [if_neg (by decide +kernel)]; exact ⟨rfl, rfl⟩))
    (fun os started H enc _ F => by rw [OpenClaim.pre_eq_preRow]; exact liftedUpto os started H enc F)
theorem plain (f : FuncId) (fn : Func) (hf : Tryz.pinned.checked.prog.funcNamed "tollhouse/tollhouselaw15.AuthConfigs" = some f) (hfn : Tryz.pinned.checked.prog.funcs[f]? = some fn) :
    true = Tryz.pinned.checked.prog.looks [] ∧ ∀ (j : Nat) t, fn.params[j]? = some t → Tryz.pinned.checked.prog.wantsStandIn t = false := by
  obtain rfl : f = 3 := Option.some.inj ((show Tryz.prog.funcNamed "tollhouse/tollhouselaw15.AuthConfigs" = some 3 by kernel_rfl).symm.trans hf) |>.symm
  obtain rfl : fn = Tryz.f3 := (Option.some.inj (Tryz.func3.symm.trans hfn)).symm
  refine ⟨by kernel_rfl, fun j t ht => ?_⟩
  rw [Tryz.params3] at ht
  have s24 : Tryz.prog.wantsStandIn 24 = false := by kernel_rfl
  have s27 : Tryz.prog.wantsStandIn 27 = false := by kernel_rfl
  have s9 : Tryz.prog.wantsStandIn 9 = false := by kernel_rfl
  have hm := Array.mem_of_getElem? ht
  simp only [List.mem_toArray, List.mem_cons, List.not_mem_nil, or_false] at hm
  rcases hm with rfl | rfl | rfl
  · exact s24
  · exact s27
  · exact s9
/-- THE CARD OF THE BOUNDED FORM. -/
theorem cardUpto : Rows.AuthConfigsUptoCardSaid :=
  Claim7.holds_tied_plain_at .later [] _ _ _ _ saidUpto (fun _ h => by cases h) (by kernel_rfl) (fun _ h => by cases h) authConfigsUpto_row_tie rfl ⟨rfl, rfl⟩ (by kernel_rfl) rfl plain (by kernel_rfl)
#print axioms cardUpto
end Go.Proofs.YthmnhbalmglohaaGreatDoor.authConfigs
namespace Go.Proofs.YthmnhbalmglohaaGreatDoor
/-- The statement, under a short name. -/
theorem authConfigs_card : Rows.AuthConfigsUptoCardSaid := authConfigs.cardUpto
end Go.Proofs.YthmnhbalmglohaaGreatDoor
