/- The specification: number. -/
import Derived.Test.YtaahbabdbopphaaDoorDG
import Derived.Test.YtaahbabdbopphaaDoorPR
import Derived.Laws.IdiomStrings
namespace Go.Proofs.YtaahbabdbopphaaDoor
open Go.RowKit Mx
set_option maxRecDepth 100000
theorem dig1_new (w : World) (d : Nat) (z : Int) (hz : z = (d : Int)) : Sl (w.alloc (.cells #[.int .u32 z] 57)) (some ⟨w.heap.size, 0, none⟩) 1 1 [d] := by
  subst hz
  refine Sl.of_own (base := w.heap.size) (e := 57) ?_
  have e : u32s [d] = (#[Value.int .u32 (d : Int)] : Array Value).toList := rfl
  rw [e]
  exact World.ownsRow_lit (e := 57) (size := 1) (base := w.heap.size) w #[.int .u32 (d : Int)] 1 (Nat.le_refl _) (by simp [maxLen]) rfl
theorem alloc_size (w : World) (o : Obj) : (w.alloc o).heap.size = w.heap.size + 1 := by simp
/-- What number gives back. -/
def NumberPost (l : List UInt8) (w : World) (e : Ending) (w' : World) : Prop :=
  ∃ A n c ok, e = .returned (.tuple #[.slice A n c, .bool ok]) ∧ Hid (ok = decide (dpre l = l ∧ l ≠ [])) ∧ (ok = true → Sl w' A n c (dig (dv l))) ∧ n ≤ l.length ∧ Below w.heap.size w w'
set_option maxHeartbeats 4000000 in
theorem number_any (s : ByteArray) (w : World) (hs : s.size ≤ 100000) :
    Calls Tryd.prog 101 #[.string s] w (NumberPost s.data.toList w) := by
  have hl : s.data.toList.length = s.size := Array.length_toList
  go_enter Tryd.func101, Tryd.ntmps101
  go_wp2_with fail
  go_loopw [4, 5] (fun so si wr => ∃ (A : Option Addr) (n c j : Nat), so = .slice A n c ∧ si = .int .i64 j ∧ j ≤ s.size ∧ n ≤ j ∧ Sl wr A n c (dig (dv (s.data.toList.take j))) ∧
      Hid (∀ b ∈ s.data.toList.take j, isD b = true) ∧ Below w.heap.size w wr) (fun _ si _ => s.size - (intOf si).toNat)
  case atStart =>
    refine ⟨none, 0, 0, 0, rfl, rfl, Nat.zero_le _, Nat.le_refl _, ?_, Lib.hid (fun b hb => by simp at hb), Below.refl _ w⟩
    rw [List.take_zero, show dv [] = 0 from rfl, dig_zero]
    exact ⟨rfl, Nat.le_refl _, Rd.nil_ _ _⟩
  case round =>
    obtain ⟨A, n, c, j, rfl, rfl, hj, hn, hsl, HA, hb⟩ := hrel
    by_cases hp : j < s.size
    · have hbt : s.data.toList[j]'(by omega) = s[j]'hp := by rw [Array.getElem_toList]; rfl
      by_cases hD : isD (s[j]'hp) = true
      · have hD2 := hD
        simp only [isD, Bool.and_eq_true, decide_eq_true_eq] at hD2
        have HV : Hid (dv (s.data.toList.take (j + 1)) = dv (s.data.toList.take j) * 10 + ((s[j]'hp).toNat - 48)) := Lib.hid (by
          rw [List.take_succ_eq_append_getElem (by omega), dv_snoc, hbt])
        have HA2 : Hid (∀ b ∈ s.data.toList.take (j + 1), isD b = true) := Lib.hid (by
          rw [List.take_succ_eq_append_getElem (by omega)]
          intro b h
          rcases List.mem_append.1 h with h | h
          · exact HA.out b h
          · rw [List.mem_singleton.1 h, hbt]; exact hD)
        have HL : Hid ((dig (dv (s.data.toList.take (j + 1)))).length ≤ j + 1) := Lib.hid (by
          have := dv_len _ HA2.out
          rw [List.length_take] at this
          omega)
        have hd1 : (48 : Int) ≤ ((s[j]'hp).toNat : Int) := by omega
        have hd2 : ((s[j]'hp).toNat : Int) ≤ 57 := by omega
        obtain ⟨d, hd⟩ : ∃ d : Nat, Hid (((s[j]'hp).toNat : Int) - 48 = (d : Int)) := ⟨(s[j]'hp).toNat - 48, Lib.hid (by omega)⟩
        have hd9 : d ≤ 9 := by have := hd.out; omega
        have HV2 : Hid (dv (s.data.toList.take (j + 1)) = dv (s.data.toList.take j) * 10 + d) := Lib.hid (by rw [HV.out]; have := hd.out; omega)
        obtain ⟨m, hm⟩ : ∃ m, Hid (m = dv (s.data.toList.take j)) := ⟨_, rfl⟩
        rw [← hm.out] at HV2 hsl
        have hdd : Ds [d] := fun x hx => by rw [List.mem_singleton.1 hx]; omega
        have hvd : Hid (val [d] = d) := Lib.hid (by simp [val])
        have hdw : Hid (IntKind.u32.wrap (IntKind.u8.wrap (((s[j]'hp).toNat : Int) - 48)) = (d : Int)) := Lib.hid (by
          have e1 := hd.out
          have e2 : IntKind.u32.wrap (IntKind.u8.wrap (((s[j]'hp).toNat : Int) - 48)) = ((((s[j]'hp).toNat : Int) - 48) % 256) % 4294967296 := rfl
          rw [e2]; omega)
        have a1 := (hsl.alloc (.cells #[.int .u32 10] 57)).drew
        have B1 := below_drew (below_alloc hb (.cells #[.int .u32 10] 57))
        have t1 := (ten_new wr).drew
        have a2 := fun o => ((hsl.alloc (.cells #[.int .u32 10] 57)).alloc o).drew
        have t2 := fun o => ((ten_new wr).alloc o).drew
        have k2 := fun z hz => (dig1_new (wr.alloc (.cells #[.int .u32 10] 57)) d z hz).drew
        have B2 := fun o => below_drew (below_alloc (below_alloc hb (.cells #[.int .u32 10] 57)) o)
        have a3 := fun o => ((hsl.alloc o).alloc (.cells #[.int .u32 10] 57)).drew
        have t3 := fun o => (ten_new (wr.alloc o)).drew
        have k3 := fun z hz => ((dig1_new wr d z hz).alloc (.cells #[.int .u32 10] 57)).drew
        have B3 := fun o => below_drew (below_alloc (below_alloc hb o) (.cells #[.int .u32 10] 57))
        simp only [alloc_size] at k2 t3
        clear hD hbt HA hD2 hsl hb HV
        go_wp2_with fail
        go_region_held3 (fun _ => True)
          (trivial)
          (first
            | (go_at_call 93
               (with_reducible refine (rtimes_any A _ n 1 c 1 m 10 _ (by first | exact a1 | exact a2 _ | exact a3 _) (by first | exact t1 | exact t2 _ | exact t3 _) (by omega) (by omega)).mono ?_)
               rintro e w5 ⟨A2, n2, c2, rfl, g2, b2⟩
               have hn2 : n2 ≤ 200001 := by have := g2.len; have := len_mul m 10; have := a1.len; have := len_dig_ten; omega
               first | have gd := (k2 _ (by first | exact hd.out | exact hdw.out)).below b2.bel | have gd := (k3 _ (by first | exact hd.out | exact hdw.out)).below b2.bel | skip
               first | have bl := bthen B1 b2.bel | have bl := bthen (B2 _) b2.bel | have bl := bthen (B3 _) b2.bel)
            | (go_at_call 76
               (with_reducible refine (rtrim_any _ 1 [d] _ 1 (by first | exact gd | exact dig1_new _ _ _ (by first | exact hd.out | exact hdw.out)) hdd (by omega)).mono ?_)
               rintro e w6 ⟨n3, c3, rfl, g3, hw6⟩
               subst hw6
               have hn3 : n3 ≤ 2 := by rw [← g3.len]; exact len_two (by rw [hvd.out]; omega)
               rw [hvd.out] at g3)
            | (go_at_call 102
               (with_reducible refine (rplus_any A2 _ n2 n3 c2 c3 _ _ _ (by first | exact g2 | exact g2.alloc _) g3 (by omega) (by omega)).mono ?_)
               rintro e w7 ⟨A4, n4, c4, rfl, g4, b4⟩
               first | have bl2 := bthen bl b4.bel | have bl2 := bthen (below_alloc bl _) b4.bel))
        all_goals
          go_wp2_with fail
          go_roundw
          case rel => exact ⟨A4, n4, c4, j + 1, rfl, by go_num, by omega, by rw [← g4.len, ← HV2.out]; exact HL.out, by rw [HV2.out]; exact g4, HA2, bl2⟩
          case measure => simp [intOf]; omega
      · obtain ⟨ok, hok⟩ : ∃ ok : Bool, Hid (ok = false) := ⟨_, rfl⟩
        have HN : Hid (false = decide (dpre s.data.toList = s.data.toList ∧ s.data.toList ≠ [])) := Lib.hid (by
          refine (decide_eq_false ?_).symm
          rintro ⟨h1, -⟩
          have := dpre_all s.data.toList
          rw [h1] at this
          have h2 := this _ (List.getElem_mem (l := s.data.toList) (n := j) (by omega))
          rw [hbt] at h2
          exact hD h2)
        have hD2 : (((s[j]'hp).toNat : Int) < 48) ∨ (48 ≤ ((s[j]'hp).toNat : Int) ∧ (57 : Int) < ((s[j]'hp).toNat : Int)) := by
          simp only [isD, Bool.and_eq_true, decide_eq_true_eq] at hD
          omega
        clear hD hbt HA
        rcases hD2 with h1 | ⟨h1, h2⟩
        all_goals
          go_wp2_with fail
          go_ret2
          exact ⟨none, 0, 0, false, rfl, HN, (fun h => nomatch h), Nat.zero_le _, hb⟩
    · have hj2 : j = s.size := by omega
      subst hj2
      have HT : Hid (s.data.toList.take s.size = s.data.toList) := Lib.hid (List.take_of_length_le (by omega))
      rw [HT.out] at hsl
      have HD : Hid (dpre s.data.toList = s.data.toList) := Lib.hid (by
        have := dpre_eq s.data.toList s.size (by omega) HA.out (Or.inl (by omega))
        rwa [HT.out] at this)
      obtain ⟨ok, hok⟩ : ∃ ok : Bool, Hid (ok = decide (0 < s.size)) := ⟨_, rfl⟩
      have HN : Hid (ok = decide (dpre s.data.toList = s.data.toList ∧ s.data.toList ≠ [])) := Lib.hid (by
        rw [hok.out, decide_eq_decide]
        constructor
        · intro h
          refine ⟨HD.out, fun h2 => ?_⟩
          rw [h2] at hl; simp at hl; omega
        · rintro ⟨-, h⟩
          have := List.length_pos_iff.2 h
          omega)
      go_wp2_with fail
      go_ret2
      exact ⟨A, n, c, ok, by rw [hok.out]; rfl, HN, fun _ => hsl, by omega, hb⟩
end Go.Proofs.YtaahbabdbopphaaDoor
