/- The walks of the laws InstNames and InstOps: each returns true. Conditions: the listed variables hold what the program's text lays in them. -/
import Derived.Test.YtnooikjkjcflbaaDoorIr2
namespace Go.Proofs.YtnooikjkjcflbaaDoor
open Go.RowKit

theorem arr_cell2 (w : World) (l : List Value) (t j : Nat) : (w.alloc (.cells l.toArray t)).cell? ⟨w.heap.size, j, none⟩ = l[j]? := by
  simp [go_sem]
theorem names_at (j : Nat) (h : j < 58) : (namesL.map fun s => Value.string ⟨s.toArray⟩)[j]? = some (.string (nameAt j)) := by
  have hl : namesL.length = 58 := rfl
  rw [List.getElem?_map, List.getElem?_eq_getElem (by omega)]
  unfold nameAt
  rw [List.getD_eq_getElem?_getD, List.getElem?_eq_getElem (by omega)]
  rfl
set_option maxRecDepth 100000 in
theorem r2names_c (w : World) : Calls Tryd.prog 36 #[] w fun e w' => e = .returned (.slice (some ⟨w.heap.size, 0, none⟩) 58 58) ∧ w.alloc (.cells (namesL.map fun s => Value.string ⟨s.toArray⟩).toArray 9) = w' := by
  go_enter Tryd.func36, Tryd.ntmps36
  go_wp2
  go_ret
  exact ⟨rfl, rfl⟩
theorem hit_self : ∀ i, i < 58 → hitB (nameAt i) i = true := by decide +kernel
theorem hit_only : ∀ i, i < 58 → ∀ k, k < 58 → hitB (nameAt i) k = true → k = i := by decide +kernel
theorem opIs_name {i : Nat} (hi : i < 58) {v x : Int} (h : OpIs (nameAt i) v x) : v = i ∧ x = 0 := by
  rcases h with ⟨k, hk, hh, _, rfl, rfl⟩ | ⟨hn, _⟩
  · rw [hit_only i hi k hk hh]; exact ⟨rfl, rfl⟩
  · exact absurd ((hn i hi).symm.trans (hit_self i hi)) (by decide)
theorem form_eq : ∀ i, i < 58 → rformV ((i : Nat) : Int) = formsAt i := by decide +kernel
theorem name_remu : (nameAt 57) = ⟨#[114, 101, 109, 117]⟩ := rfl
theorem awake2_c (w : World) (hn : NamesIs w) (hf : FormsIs w) : Calls Tryd.prog 34 #[] w fun e w' => e = .returned (.bool true) ∧ Below w.heap.size w w' := by
  have HN := Lib.hid hn
  have HF := Lib.hid hf
  clear hn hf
  have e1 : nameV 18 = ⟨#[115, 119]⟩ := rfl
  have e2 : hasE 18 = 0 := rfl
  have hop := op_c (nameAt 57) w HN.out
  rw [name_remu] at hop
  have HOP := Lib.hid hop
  clear hop
  have hr : rightB 28 31 0 0 0 0 = true := by decide +kernel
  go_enter Tryd.func34, Tryd.ntmps34
  go_wp2_with (first | (go_at_call 32; refine (name_c 18 _ HN.out).mono ?_; rintro e w' ⟨rfl, rfl⟩; rw [e1, e2]) | (go_at_call 35; refine HOP.out.mono ?_; rintro e w' ⟨⟨v, x, rfl, hv⟩, rfl⟩; obtain ⟨rfl, rfl⟩ := opIs_name (i := 57) (by decide) (name_remu ▸ hv)) | (go_at_call 38; refine (right_c 28 31 0 0 0 0 (by decide) _ HF.out).mono ?_; rintro e w' ⟨rfl, hb⟩; rw [hr]))
  go_ret
  exact ⟨rfl, hb⟩
theorem iname_w (op : Int) (w : World) (hn : NamesIs w) (hf : FormsIs w) : Calls Tryd.prog 8 #[.int .i64 op] w fun e w' => e = .returned (.bool true) ∧ Below w.heap.size w w' := by
  have HN := Lib.hid hn
  have HF := Lib.hid hf
  clear hn hf
  rcases Bool.eq_false_or_eq_true (hasB op) with h | h
  · obtain ⟨h0, h1⟩ := has_t h
    obtain ⟨i, rfl⟩ := Int.eq_ofNat_of_zero_le h0
    have hi : i < 58 := by omega
    have e1 : nameV i = nameAt i := by rw [nameV, if_pos h]; rfl
    have e2 : hasE i = 0 := by rw [hasE, if_pos h]
    have e3 : formV i = formsAt i := by rw [formV, if_pos h]; rfl
    have e4 := form_eq i hi
    have hbl : Below w.heap.size w (w.alloc (.cells (namesL.map fun s => Value.string ⟨s.toArray⟩).toArray 9)) := bal (Below.refl _ _) _
    have hc : (w.alloc (.cells (namesL.map fun s => Value.string ⟨s.toArray⟩).toArray 9)).cell? ⟨w.heap.size, i, none⟩ = some (.string (nameAt i)) := by rw [arr_cell2, names_at _ hi]
    clear h
    go_enter Tryd.func8, Tryd.ntmps8
    go_wp2_with (first | (go_at_call 32; refine (name_c _ _ HN.out).mono ?_; rintro e w' ⟨rfl, rfl⟩; rw [e1, e2]) | (go_at_call 33; refine (form_c _ _ HF.out).mono ?_; rintro e w' ⟨rfl, rfl⟩; rw [e3, e2]) | (go_at_call 35; refine (op_c _ _ HN.out).mono ?_; rintro e w' ⟨⟨v, x, rfl, hv⟩, rfl⟩; obtain ⟨rfl, rfl⟩ := opIs_name hi hv) | (go_at_call 36; refine (r2names_c _).mono ?_; rintro e w' ⟨rfl, hw⟩; rw [hw] at hc hbl; clear hw) | (go_at_call 37; refine (rform_c _ _).mono ?_; rintro e w' ⟨rfl, rfl⟩; rw [e4]) | (go_at_call 34; refine (awake2_c _ (HN.out.below hbl) (HF.out.below hbl)).mono ?_; rintro e w' ⟨rfl, hb⟩))
    go_ret
    exact ⟨by simp, bthen hbl hb⟩
  · have h2 := has_f h
    have e1 : nameV op = ⟨#[]⟩ := by rw [nameV, if_neg (by simp [h])]
    have e2 : hasE op = 9 := by rw [hasE, if_neg (by simp [h])]
    have e3 : formV op = 0 := by rw [formV, if_neg (by simp [h])]
    clear h
    by_cases h3 : op < 0
    all_goals
      go_enter Tryd.func8, Tryd.ntmps8
      go_wp2_with (first | (go_at_call 32; refine (name_c _ _ HN.out).mono ?_; rintro e w' ⟨rfl, rfl⟩; rw [e1, e2]) | (go_at_call 33; refine (form_c _ _ HF.out).mono ?_; rintro e w' ⟨rfl, rfl⟩; rw [e3, e2]) | (go_at_call 34; refine (awake2_c _ HN.out HF.out).mono ?_; rintro e w' ⟨rfl, hb⟩))
      go_ret
      exact ⟨rfl, hb⟩
theorem opIs_unique {s : ByteArray} {v x v' x' : Int} (h : OpIs s v x) (h' : OpIs s v' x') : v = v' ∧ x = x' := by
  rcases h with ⟨k, hk, hp, hn, rfl, rfl⟩ | ⟨hn, rfl, rfl⟩ <;> rcases h' with ⟨k', hk', hp', hn', rfl, rfl⟩ | ⟨hn', rfl, rfl⟩
  · rcases Nat.lt_trichotomy k k' with h | h | h
    · have := hn' k h; rw [hp] at this; cases this
    · rw [h]; exact ⟨rfl, rfl⟩
    · have := hn k' h; rw [hp'] at this; cases this
  · have := hn' k hk; rw [hp] at this; cases this
  · have := hn k' hk'; rw [hp'] at this; cases this
  · exact ⟨rfl, rfl⟩
theorem iops_w (s : ByteArray) (w : World) (hn : NamesIs w) (hf : FormsIs w) : Calls Tryd.prog 9 #[.string s] w fun e w' => e = .returned (.bool true) ∧ Below w.heap.size w w' := by
  have HN := Lib.hid hn
  have HF := Lib.hid hf
  clear hn hf
  have hc : ∀ j, j < 58 → (w.alloc (.cells (namesL.map fun s => Value.string ⟨s.toArray⟩).toArray 9)).cell? ⟨w.heap.size, j, none⟩ = some (.string (nameAt j)) := fun j hj => by rw [arr_cell2, names_at _ hj]
  have hbl : Below w.heap.size w (w.alloc (.cells (namesL.map fun s => Value.string ⟨s.toArray⟩).toArray 9)) := bal (Below.refl _ _) _
  have HC := Lib.hid hc
  clear hc
  go_enter Tryd.func9, Tryd.ntmps9
  go_wp2_with fail
  refine (op_c _ _ HN.out).mono ?_
  rintro e w' ⟨⟨v, x, rfl, hv⟩, rfl⟩
  have HV := Lib.hid hv
  clear hv
  go_wp2_with fail
  refine (r2names_c _).mono ?_
  rintro e w' ⟨rfl, hw⟩
  rw [hw] at HC hbl
  clear hw
  have hz : w.heap.size ≤ w'.heap.size := hbl.size
  have HN' := Lib.hid (HN.out.below hbl)
  have HF' := Lib.hid (HF.out.below hbl)
  go_wp2
  go_loop [6] (fun i => ∃ k : Nat, k ≤ 58 ∧ i = .int .i64 k ∧ NoHit s k) (fun i => 58 - (intOf i).toNat)
  case atStart => exact ⟨0, by omega, rfl, fun j h => by omega⟩
  case round =>
    obtain ⟨k, hk, rfl, hn⟩ := hrel
    have hz : 0 < 1 := by decide
    by_cases hlt : k < 58
    · have c0 := HC.out k hlt
      rcases Bool.eq_false_or_eq_true ((nameAt k).toList == s.toList) with hh | hh
      · obtain ⟨rfl, rfl⟩ := opIs_unique HV.out (.inl ⟨k, hlt, hh, hn, rfl, rfl⟩)
        go_wp2_with (go_at_call 34; refine (awake2_c _ HN'.out HF'.out).mono ?_; rintro e w' ⟨rfl, hb⟩)
        go_ret
        exact ⟨by simp, bthen hbl hb⟩
      · go_wp2
        go_round
        case rel => exact ⟨k + 1, by omega, by go_num, fun j hj => by rcases Nat.lt_succ_iff_lt_or_eq.mp hj with h | h; exact hn j h; subst h; exact hh⟩
        case measure => simp [intOf]; omega
    · have hk8 : k = 58 := by omega
      subst hk8
      obtain ⟨rfl, rfl⟩ := opIs_unique HV.out (.inr ⟨hn, rfl, rfl⟩)
      go_wp2_with (go_at_call 34; refine (awake2_c _ HN'.out HF'.out).mono ?_; rintro e w' ⟨rfl, hb⟩)
      go_ret
      exact ⟨by simp, bthen hbl hb⟩
end Go.Proofs.YtnooikjkjcflbaaDoor
