/- uri.Named over this program. -/
import Derived.Test.YtjdlaofeenblkaaDoorNamed
namespace Go.Proofs.YtjdlaofeenblkaaDoor.T
open Go.RowKit
set_option linter.unusedSimpArgs false
set_option linter.unusedVariables false
theorem plain_spec (c : UInt8) : isPlain c = ((decide (97 ≤ (c.toNat : Int)) && decide ((c.toNat : Int) ≤ 122)) || (decide (48 ≤ (c.toNat : Int)) && decide ((c.toNat : Int) ≤ 57))) := by
  have h : ∀ n : Fin 256, isPlain (UInt8.ofNat n.val) = ((decide (97 ≤ ((UInt8.ofNat n.val).toNat : Int)) && decide (((UInt8.ofNat n.val).toNat : Int) ≤ 122)) || (decide (48 ≤ ((UInt8.ofNat n.val).toNat : Int)) && decide (((UInt8.ofNat n.val).toNat : Int) ≤ 57))) := by decide +kernel
  have := h ⟨c.toNat, c.toNat_lt⟩
  simpa using this
theorem plain_any (c : UInt8) (w : World) : Calls Tryd.prog 51 #[.int .u8 c.toNat] w fun e w' => e = .returned (.bool (isPlain c)) ∧ w = w' := by
  have HT := Lib.hid (plain_spec c)
  go_enter Tryd.func51, Tryd.ntmps51
  go_wp2
  all_goals
    go_ret
    refine ⟨ret_bool ?_, rfl⟩
    rw [HT.out, Bool.eq_iff_iff]
    simp only [Bool.or_eq_true, Bool.and_eq_true, decide_eq_true_eq, true_iff, Bool.not_eq_true', decide_eq_false_iff_not, bne_iff_ne, ne_eq, beq_iff_eq, Bool.false_eq_true, false_iff]
    omega
theorem host_spec (c : UInt8) : isHostC c = (isPlain c || decide ((c.toNat : Int) = 45)) := by
  have h : ∀ n : Fin 256, isHostC (UInt8.ofNat n.val) = (isPlain (UInt8.ofNat n.val) || decide (((UInt8.ofNat n.val).toNat : Int) = 45)) := by decide +kernel
  have := h ⟨c.toNat, c.toNat_lt⟩
  simpa using this
theorem host_1 (w : World) : PredB 50 #[] isHostC w := by
  intro W c hb
  have HT := Lib.hid (host_spec c)
  clear hb
  have HP := Lib.hid (plain_any c)
  cases hq : isPlain c with
  | _ =>
    rw [hq] at HP HT
    clear hq
    go_enter Tryd.func50, Tryd.ntmps50
    go_wp2_with (go_at_call 51; refine (HP.out _).mono ?_; rintro e w' ⟨rfl, rfl⟩)
    all_goals
      go_ret
      refine ⟨ret_bool ?_, Below.refl _ _⟩
      rw [HT.out]
      first | rfl | (rw [Bool.eq_iff_iff]; simp)
theorem fn_host_1 : ∀ args w, (callFunc 50 args).run Tryd.prog w = .ok (.enter 50 args) w := enters_of Tryd.func50 (by kernel_rfl) rfl
def labelB (x : ByteArray) : Bool := !x.data.toList.isEmpty && x.data.toList.all isHostC
def labelsB (s : ByteArray) : List ByteArray := Lib.splitB ⟨#[46]⟩ 0 (Lib.countB s ⟨#[46]⟩) s
def namedB (s : ByteArray) : Bool := (labelsB s).all labelB && (decide (s.size ≤ 64) && (!numericB ((labelsB s).getD ((labelsB s).length - 1) ByteArray.empty) || quadB (labelsB s)))
theorem splitB_size (sep : ByteArray) : ∀ (k : Nat) (s : ByteArray), ∀ x ∈ Lib.splitB sep 0 k s, x.size ≤ s.size
  | 0, s, x, hx => by simp [Lib.splitB] at hx; subst hx; exact Nat.le_refl _
  | k + 1, s, x, hx => by
    unfold Lib.splitB at hx
    split at hx
    · simp at hx; subst hx; exact Nat.le_refl _
    · rcases List.mem_cons.1 hx with rfl | hx
      · rw [ByteArray.size_extract]; omega
      · have := splitB_size sep k _ x hx
        rw [ByteArray.size_extract] at this; omega
theorem labels_len (s : ByteArray) : (labelsB s).length = Lib.countB s ⟨#[46]⟩ + 1 := Lib.splitB_all ⟨#[46]⟩ (by decide) 0 _ s rfl
theorem labels_le (s : ByteArray) : (labelsB s).length ≤ s.size + 1 := by
  rw [labels_len]
  have := Lib.countB_le ⟨#[46]⟩ (by decide) s.size s (Nat.le_refl _)
  omega
theorem split_dot (s : ByteArray) (w : World) (hs : s.size < 4294967281) (hg : Glob w) :
    Calls Tryd.prog 48 #[.string s, .string ⟨#[46]⟩] w fun e w' => e = .returned (.slice (some ⟨w.heap.size, 0, none⟩) (labelsB s).length (labelsB s).length) ∧ Below w.heap.size w w' ∧ ∀ j, j < (labelsB s).length → w'.cell? ⟨w.heap.size, j, none⟩ = some (.string ((labelsB s).getD j ByteArray.empty)) := by
  obtain ⟨m, hm⟩ := hg.maxLen
  refine (Tryd.strings_Split s ⟨#[46]⟩ m w hs hm (by decide)).mono fun e w' ⟨he, hw⟩ => ?_
  subst hw
  rw [← labels_len] at he
  refine ⟨he, below_alc (Below.refl _ _) _, fun j hj => ?_⟩
  rw [World.cell?_alloc_new]
  show (((labelsB s).map Value.string).toArray)[j]? = _
  simp [List.getD_eq_getElem?_getD, List.getElem?_eq_getElem hj]
theorem isEmpty_lab (y : ByteArray) (h : y.toList.isEmpty = true) : labelB y = false := by
  unfold labelB; rw [← isEmpty_data0 y, h]; rfl
theorem lab_of (y : ByteArray) (h : y.toList.isEmpty = false) : labelB y = y.data.toList.all isHostC := by
  unfold labelB; rw [← isEmpty_data0 y, h]; rfl
set_option maxHeartbeats 2000000 in
theorem named_any (s : ByteArray) (w : World) (hs : s.size < 4294967281) (hg : Glob w) :
    Calls Tryd.prog 29 #[.string s] w fun e w' => e = .returned (.bool (namedB s)) ∧ Below w.heap.size w w' := by
  have HSP := Lib.hid (split_dot s w hs hg)
  have hsz : ∀ x ∈ labelsB s, x.size ≤ 281474976710656 := fun x hx => by have := splitB_size _ _ _ x hx; omega
  have hle := labels_le s
  have hpos : 0 < (labelsB s).length := by rw [labels_len]; omega
  have HN : Hid (namedB s = ((labelsB s).all labelB && (decide (s.size ≤ 64) && (!numericB ((labelsB s).getD ((labelsB s).length - 1) ByteArray.empty) || quadB (labelsB s))))) := Lib.hid rfl
  generalize hls : labelsB s = ls at HSP hsz hle hpos HN
  generalize hn : ls.length = n at HSP hle hpos HN
  have HL := Lib.hid hn
  have HG := Lib.hid hg
  have HZ := Lib.hid hsz
  clear hls hn hg hsz
  go_enter Tryd.func29, Tryd.ntmps29
  go_wp2_with (go_at_call 48; refine HSP.out.mono ?_; rintro e w1 ⟨rfl, hb1, hc1⟩; have HB1 := Lib.hid hb1; have HC1 := Lib.hid hc1; clear hb1 hc1)
  go_loopg [5, 10] n (fun gg _ s10 wr => ∃ kk : Nat, kk ≤ n ∧ n - kk ≤ gg ∧ s10 = .int .i64 kk ∧ Aside (Below w1.heap.size w1 wr) ∧ Aside (∀ j, j < kk → labelB (ls.getD j ByteArray.empty) = true))
  case atStart => exact ⟨0, Nat.zero_le _, by omega, rfl, Below.refl _ _, fun j hj => absurd hj (Nat.not_lt_zero _)⟩
  case round =>
    obtain ⟨kk, hkk, hg, rfl, HB0, A⟩ := hrel
    have HB : Hid (Below w1.heap.size w1 wr) := Lib.hid HB0.out
    clear HB0
    by_cases hlt : kk < n
    · have hltz : (kk : Int) < (n : Int) := by omega
      have hcell : wr.cell? ⟨w.heap.size, kk, none⟩ = some (.string (ls.getD kk ByteArray.empty)) := (HB.out.cell (World.block_lt_of_cell? w1 _ (HC1.out kk hlt))).trans (HC1.out kk hlt)
      have hyz : (ls.getD kk ByteArray.empty).size ≤ 281474976710656 := HZ.out _ (by
        rw [List.getD_eq_getElem?_getD, List.getElem?_eq_getElem (by rw [HL.out]; exact hlt)]
        exact List.getElem_mem _)
      generalize hy : ls.getD kk ByteArray.empty = y at hcell hyz
      have B : Hid (ls.getD kk ByteArray.empty = y) := Lib.hid hy
      clear hy
      cases he : y.toList.isEmpty with
      | true =>
        have HE := Lib.hid (isEmpty_lab y he)
        have he2 : (!y.toList.isEmpty) = false := by rw [he]; rfl
        go_wp2
        go_ret
        refine ⟨ret_bool ?_, below_next HB1.out HB.out⟩
        rw [HN.out, all_no_getD labelB ByteArray.empty ls kk (by rw [HL.out]; exact hlt) (by rw [B.out]; exact HE.out)]
        rfl
      | false =>
        have HE := Lib.hid (lab_of y he)
        have he2 : (!y.toList.isEmpty) = true := by rw [he]; rfl
        have hcall := fun W => uall_any 50 #[] isHostC fn_host_1 y W (host_1 W) (by omega)
        clear hyz
        cases hq : y.data.toList.all isHostC with
        | true =>
          rw [hq] at hcall
          have HC := Lib.hid hcall
          have HQ := Lib.hid hq
          clear hcall hq
          go_wp2_with (go_at_call 49; refine (HC.out _).mono ?_; rintro e w2 ⟨rfl, hb2⟩)
          go_roundg (n - (kk + 1))
          case measure => omega
          case rel =>
            refine ⟨kk + 1, by omega, by omega, by go_num, below_next HB.out hb2, fun j hj => ?_⟩
            by_cases e : j = kk
            · subst e
              rw [B.out, HE.out]; exact HQ.out
            · exact A.out j (by omega)
        | false =>
          rw [hq] at hcall
          have HC := Lib.hid hcall
          have HQ := Lib.hid hq
          clear hcall hq
          go_wp2_with (go_at_call 49; refine (HC.out _).mono ?_; rintro e w2 ⟨rfl, hb2⟩)
          go_ret
          refine ⟨ret_bool ?_, below_next HB1.out (below_next HB.out hb2)⟩
          rw [HN.out, all_no_getD labelB ByteArray.empty ls kk (by rw [HL.out]; exact hlt) (by rw [B.out, HE.out]; exact HQ.out)]
          rfl
    · have hltz : ¬ (kk : Int) < (n : Int) := by omega
      obtain rfl : kk = n := by omega
      have HALL : Hid (ls.all labelB = true) := Lib.hid (all_of_getD labelB ByteArray.empty ls (by rw [HL.out]; exact A.out))
      clear A
      by_cases h64 : s.size ≤ 64
      · have h64a : (s.size : Int) ≤ 64 := by omega
        have hcl := HC1.out (kk - 1) (by omega)
        have hcell : wr.cell? ⟨w.heap.size, kk - 1, none⟩ = some (.string (ls.getD (kk - 1) ByteArray.empty)) := (HB.out.cell (World.block_lt_of_cell? w1 _ hcl)).trans hcl
        clear hcl
        have hyz : (ls.getD (kk - 1) ByteArray.empty).size ≤ 281474976710656 := HZ.out _ (by
          rw [List.getD_eq_getElem?_getD, List.getElem?_eq_getElem (by rw [HL.out]; omega)]
          exact List.getElem_mem _)
        have HY : Hid (namedB s = (!numericB (ls.getD (kk - 1) ByteArray.empty) || quadB ls)) := Lib.hid (by rw [HN.out, HALL.out, decide_eq_true h64]; rfl)
        generalize hy : ls.getD (kk - 1) ByteArray.empty = y at hcell hyz HY
        clear hy
        have HNU := Lib.hid (fun W => numeric_any y W hyz)
        clear hyz
        cases hq : numericB y with
        | false =>
          rw [hq] at HNU HY
          clear hq
          go_wp2_with (go_at_call 52; refine (HNU.out _).mono ?_; rintro e w2 ⟨rfl, hb2⟩)
          go_ret
          exact ⟨ret_bool (by rw [HY.out]; rfl), below_next HB1.out (below_next HB.out hb2)⟩
        | true =>
          rw [hq] at HNU HY
          clear hq
          have HQU := Lib.hid (fun (W : World) (hb : Below w1.heap.size w1 W) => quad_any w.heap.size 0 kk kk ls W (HG.out.below (below_next HB1.out hb)) HZ.out HL.out (by omega) (fun j hj => by
            rw [Nat.zero_add]
            exact (hb.cell (World.block_lt_of_cell? w1 _ (HC1.out j hj))).trans (HC1.out j hj)))
          cases hq2 : quadB ls with
          | _ =>
            rw [hq2] at HQU HY
            clear hq2
            go_wp2_with (first
              | (go_at_call 52; refine (HNU.out _).mono ?_; rintro e w2 ⟨rfl, hb2⟩; have HB2 := Lib.hid (below_next HB.out hb2); clear hb2)
              | (go_at_call 53; refine (HQU.out _ HB2.out).mono ?_; rintro e w3 ⟨rfl, hb3⟩))
            go_ret
            exact ⟨ret_bool (by rw [HY.out]; rfl), below_next HB1.out (below_next HB2.out hb3)⟩
      · have h64a : ¬ (s.size : Int) ≤ 64 := by omega
        have HY : Hid (namedB s = false) := Lib.hid (by rw [HN.out, decide_eq_false h64]; simp)
        clear h64
        go_wp2
        go_ret
        exact ⟨ret_bool HY.out.symm, below_next HB1.out HB.out⟩
end Go.Proofs.YtjdlaofeenblkaaDoor.T
