/- Contracts of leb.Nums and leb.All, of the reference's, and of SameList. -/
import Derived.Test.YtfcekicjlgdmaaaLebM2
import Derived.Test.YtfcekicjlgdmaaaRef02Get
set_option linter.unusedVariables false
set_option linter.unusedSimpArgs false
namespace Go.Proofs.Ytfcekicjlgdmaaa
open Go.RowKit Go.Proofs.YtfcekicjlgdmaaaW.PrintWords

theorem info_u64 : (Try.prog.info? 26).map (fun i => (i.zero, i.size, i.bytes)) = some (some (.int .u64 0), 1, 8) := by kernel_rfl
theorem empty_own (W : World) (base : Nat) (e : TypeId) (k : IntKind) (hb : base ≤ W.heap.size) :
    (W.alloc (.cells #[] e)).ownsRow base e 1 (.slice (some ⟨W.heap.size, 0, none⟩) 0 0) 0 (nums k []) := own_made0 W base e k #[] 0 hb rfl (by decide)

set_option maxHeartbeats 800000 in
theorem nums_any (A : Option Addr) (cap : Nat) (l : List Int) (w : World) (hr : ReadsInt w .u64 A l.length l) (hb : U64 l) (hm : l.length ≤ 100000) :
    Calls Try.prog 45 #[.slice A l.length cap] w (MakesInts 5 .u8 (encL l) w) := by
  have hR := Lib.hid hr
  have hB := Lib.hid hb
  clear hr hb
  go_enter Try.func45, Try.ntmps45
  go_wp2
  go_loopw [3, 8] (fun v3 v8 wr => ∃ k : Nat, v8 = .int .i64 k ∧ k ≤ l.length ∧ wr.ownsRow w.heap.size 5 1 v3 (encL (l.take k)).length (nums .u8 (encL (l.take k))) ∧ Below w.heap.size w wr) (fun _ v8 _ => l.length - (intOf v8).toNat)
  case atStart => exact ⟨0, rfl, Nat.zero_le _, own_nil w w.heap.size 5 1, Below.refl _ _⟩
  case round =>
    obtain ⟨k, rfl, hk, ho, hBl⟩ := hrel
    by_cases hkl : k < l.length
    · have hkl2 : decide ((k : Int) < (l.length : Int)) = true := decide_eq_true (by omega)
      obtain ⟨ad, rfl, hcell⟩ := (hR.out.below hBl).at_ (k : Int) (by omega) (by omega)
      have hrd : rd l (k : Int) = l.getD k 0 := by simp [rd]
      rw [hrd, Int.toNat_natCast] at hcell
      clear hrd
      have hc0 := hB.out.getD hkl
      have hts := Lib.hid (encL_take_succ hkl)
      have hlen := encL_len (hB.out.take k)
      have hlk : (l.take k).length ≤ k := List.length_take_le _ _
      obtain ⟨n, hn⟩ := Int.eq_ofNat_of_zero_le hc0.1
      replace hn := Lib.hid hn
      rw [hn.out] at hcell hc0
      rw [hn.out] at hts
      replace hts := Lib.hid hts.out
      have hle := enc_len_10 (n := n) (by omega)
      go_wp2_with (first | (go_at_call 59; (with_reducible refine (put_any n _ (by omega)).mono ?_); rintro e w1 ⟨v1, rfl, ho1, hB1⟩; obtain ⟨A1, c1, rfl, hr1⟩ := own_reads ho1) | (at_builtin; refine print_append_row (w0 := w) w.heap.size rfl (.tmp 12) (.tmp 14) 48 5 .u8 1 rfl Try.underlying48 info_u8 (by decide) _ (encL (l.take k)) (enc n) A1 _ c1 rfl rfl (pw_own_below ho hB1) hr1 (bl_then hBl hB1) (bl_then hBl hB1).size (by omega) ?_; intro v2 w2 ho2 hB2 hg2 hat2))
      exact ⟨⟨k + 1, by first | rfl | (congr 1; omega), by omega, by rw [hts.out, Int.toNat_natCast]; exact ho2, hB2⟩, by simp [intOf]; omega⟩
    · have hkl2 : decide ((k : Int) < (l.length : Int)) = false := decide_eq_false (by omega)
      obtain rfl : k = l.length := by omega
      go_wp2
      go_ret
      rw [List.take_length] at ho
      exact ⟨_, rfl, ho, hBl⟩

set_option maxHeartbeats 800000 in
theorem rnums_any (A : Option Addr) (cap : Nat) (l : List Int) (w : World) (hr : ReadsInt w .u64 A l.length l) (hb : U64 l) (hm : l.length ≤ 100000) :
    Calls Try.prog 48 #[.slice A l.length cap] w (MakesInts 5 .u8 (encL l) w) := by
  have hR := Lib.hid hr
  have hB := Lib.hid hb
  clear hr hb
  go_enter Try.func48, Try.ntmps48
  go_wp2
  go_loopw [3, 9] (fun v3 v8 wr => ∃ k : Nat, v8 = .int .i64 k ∧ k ≤ l.length ∧ wr.ownsRow w.heap.size 5 1 v3 (encL (l.take k)).length (nums .u8 (encL (l.take k))) ∧ Below w.heap.size w wr) (fun _ v8 _ => l.length - (intOf v8).toNat)
  case atStart => exact ⟨0, rfl, Nat.zero_le _, empty_own w w.heap.size 5 .u8 (Nat.le_refl _), bl_alloc (Below.refl _ _) _⟩
  case round =>
    obtain ⟨k, rfl, hk, ho, hBl⟩ := hrel
    by_cases hkl : k < l.length
    · have hkl2 : decide ((k : Int) < (l.length : Int)) = true := decide_eq_true (by omega)
      obtain ⟨ad, rfl, hcell⟩ := (hR.out.below hBl).at_ (k : Int) (by omega) (by omega)
      have hrd : rd l (k : Int) = l.getD k 0 := by simp [rd]
      rw [hrd, Int.toNat_natCast] at hcell
      clear hrd
      have hc0 := hB.out.getD hkl
      have hts := Lib.hid (encL_take_succ hkl)
      have hlen := encL_len (hB.out.take k)
      have hlk : (l.take k).length ≤ k := List.length_take_le _ _
      obtain ⟨n, hn⟩ := Int.eq_ofNat_of_zero_le hc0.1
      replace hn := Lib.hid hn
      rw [hn.out] at hcell hc0
      rw [hn.out] at hts
      replace hts := Lib.hid hts.out
      have hle := enc_len_10 (n := n) (by omega)
      go_wp2_with (first | (go_at_call 62; (with_reducible refine (rput_any n _ (by omega)).mono ?_); rintro e w1 ⟨v1, rfl, ho1, hB1⟩; obtain ⟨A1, c1, rfl, hr1⟩ := own_reads ho1) | (at_builtin; refine print_append_row (w0 := w) w.heap.size rfl (.tmp 13) (.tmp 15) 48 5 .u8 1 rfl Try.underlying48 info_u8 (by decide) _ (encL (l.take k)) (enc n) A1 _ c1 rfl rfl (pw_own_below ho hB1) hr1 (bl_then hBl hB1) (bl_then hBl hB1).size (by omega) ?_; intro v2 w2 ho2 hB2 hg2 hat2))
      exact ⟨⟨k + 1, by first | rfl | (congr 1; omega), by omega, by rw [hts.out, Int.toNat_natCast]; exact ho2, hB2⟩, by simp [intOf]; omega⟩
    · have hkl2 : decide ((k : Int) < (l.length : Int)) = false := decide_eq_false (by omega)
      obtain rfl : k = l.length := by omega
      go_wp2
      go_ret
      rw [List.take_length] at ho
      exact ⟨_, rfl, ho, hBl⟩

/-- New memory with the numbers of bytes, and the error's number. -/
def MakesAll (xs : List Int) (w : World) (en : Ending) (w' : World) : Prop :=
  ∃ v, en = .returned (.tuple #[v, .int .i64 (allV xs).2]) ∧ w'.ownsRow w.heap.size 26 1 v (allV xs).1.length (nums .u64 (allV xs).1) ∧ Below w.heap.size w w'

theorem makesAll_err {xs : List Int} {w w' : World} (h : allV xs = ([], 21)) (hb : Below w.heap.size w w') : MakesAll xs w (.returned (.tuple #[.slice none 0 0, .int .i64 21])) w' := by
  refine ⟨.slice none 0 0, by rw [h], ?_, hb⟩
  rw [h]
  exact own_nil w' w.heap.size 26 1
theorem makesAll_ok {xs l : List Int} {v : Value} {w w' : World} (h : GoodL xs l) (ho : w'.ownsRow w.heap.size 26 1 v l.length (nums .u64 l)) (hb : Below w.heap.size w w') : MakesAll xs w (.returned (.tuple #[v, .int .i64 0])) w' := by
  refine ⟨v, by rw [allV_ok h], ?_, hb⟩
  rw [allV_ok h]
  exact ho
set_option maxHeartbeats 1600000 in
theorem all_any (A : Option Addr) (cap : Nat) (xs : List Int) (w : World) (hr : ReadsInt w .u8 A xs.length xs) (hcap : xs.length ≤ cap) (hcm : cap ≤ 9223372036854775807) (hb : ∀ x ∈ xs, 0 ≤ x ∧ x ≤ 255) :
    Calls Try.prog 46 #[.slice A xs.length cap] w (MakesAll xs w) := by
  have hR := Lib.hid hr
  have hB := Lib.hid hb
  clear hr hb
  obtain ⟨i0, hi0, _, hsz, _⟩ := info_parts info_u8
  go_enter Try.func46, Try.ntmps46
  go_wp2
  go_loopw [0, 4] (fun v0 v4 wr => ∃ (l r : List Int) (A' : Option Addr) (c : Nat), v0 = .slice A' r.length c ∧ r.length ≤ c ∧ c ≤ cap ∧ xs = encL l ++ r ∧ U64 l ∧ l.length ≤ 128 ∧ ReadsInt w .u8 A' r.length r ∧ wr.ownsRow w.heap.size 26 1 v4 l.length (nums .u64 l) ∧ Below w.heap.size w wr) (fun v0 _ _ => match v0 with | .slice _ n _ => n | _ => 0)
  case atStart => exact ⟨[], xs, A, cap, rfl, hcap, Nat.le_refl _, by simp [encL], U64.nil, by simp, hR.out, own_nil w w.heap.size 26 1, Below.refl _ _⟩
  case round =>
    obtain ⟨l, r, A', c, rfl, hrc, hcc, hx, hl, hlm, hrd0, ho, hBl⟩ := hrel
    obtain ⟨A4, c4, rfl⟩ := own_slice ho
    have hrd := hrd0.below hBl
    replace hx := Lib.hid hx
    replace hl := Lib.hid hl
    have hrb : ∀ x ∈ r, 0 ≤ x ∧ x ≤ 255 := fun x hxr => hB.out x (by rw [hx.out]; simp [hxr])
    replace hrb := Lib.hid hrb
    by_cases hr0 : r = []
    · subst hr0
      go_wp2
      go_ret2
      exact makesAll_ok ⟨hl.out, hlm, by rw [hx.out, List.append_nil]⟩ ho hBl
    · have hpos : 0 < r.length := List.length_pos_iff.2 hr0
      replace hr0 := Lib.hid hr0
      have hd1 : decide ((0 : Int) < (r.length : Int)) = true := decide_eq_true (by omega)
      rcases getV_cases r with ⟨n, hn, hpre, hgv⟩ | hgv
      · obtain ⟨hstep, hle⟩ := getV_step hpre
        replace hstep := Lib.hid hstep
        by_cases hl8 : l.length < 128
        · have hd2 : decide ((128 : Int) ≤ (l.length : Int)) = false := decide_eq_false (by omega)
          obtain ⟨A2, hcut, hA2⟩ := print_cut 48 5 .i64 Try.underlying48 hi0 hsz A' r.length c (enc n).length hle
          have hrd2 := hA2 w .u8 r hrc hrd0
          replace hA2 := Lib.hid hA2
          have hgv2 := Lib.hid hgv
          clear hgv hpre
          have ep := enc_pos n
          go_wp2_with (first | (go_at_call 60; (with_reducible refine (get_any A' c r _ hrd hrc (by omega) hrb.out).mono ?_); rw [hgv2.out]; rintro e w' ⟨rfl, rfl⟩) | (at_builtin; refine print_append_num (w0 := w) w.heap.size rfl (.tmp 24) (.tmp 26) 29 26 .u64 8 rfl Try.underlying29 info_u64 (by decide) _ l _ rfl rfl ho hBl hBl.size (by omega) ?_; intro v1 w1 ho1 hB1 hg1 hat1))
          have hdl : (r.drop (enc n).length).length = r.length - (enc n).length := List.length_drop
          refine ⟨⟨l ++ [(n : Int)], r.drop (enc n).length, A2, c - (enc n).length, by rw [hdl], by rw [hdl]; omega, by omega, ?_, hl.out.snoc (by omega), by simp; omega, by rw [hdl]; exact hrd2, ho1, hB1⟩, ?_⟩
          · rw [encL_snoc, Int.toNat_natCast, List.append_assoc, ← hstep.out]; exact hx.out
          · show r.length - (enc n).length < r.length
            omega
        · have hd2 : decide ((128 : Int) ≤ (l.length : Int)) = true := decide_eq_true (by omega)
          have hfin := Lib.hid (all_many hx.out hl.out hr0.out (by omega))
          have hgv2 := Lib.hid hgv
          clear hgv hpre
          go_wp2_with (go_at_call 60; (with_reducible refine (get_any A' c r _ hrd hrc (by omega) hrb.out).mono ?_); rw [hgv2.out]; rintro e w' ⟨rfl, rfl⟩)
          go_ret2
          exact makesAll_err hfin.out hBl
      · have hfin := Lib.hid (all_stop hx.out hl.out hr0.out hgv)
        have hgv2 := Lib.hid hgv
        clear hgv
        go_wp2_with (go_at_call 60; (with_reducible refine (get_any A' c r _ hrd hrc (by omega) hrb.out).mono ?_); rw [hgv2.out]; rintro e w' ⟨rfl, rfl⟩)
        go_ret2
        exact makesAll_err hfin.out hBl

set_option maxHeartbeats 1600000 in
theorem rall_any (A : Option Addr) (cap : Nat) (xs : List Int) (w : World) (hr : ReadsInt w .u8 A xs.length xs) (hcap : xs.length ≤ cap) (hcm : cap ≤ 9223372036854775807) (hb : ∀ x ∈ xs, 0 ≤ x ∧ x ≤ 255) :
    Calls Try.prog 54 #[.slice A xs.length cap] w (MakesAll xs w) := by
  have hR := Lib.hid hr
  have hB := Lib.hid hb
  clear hr hb
  obtain ⟨i0, hi0, _, hsz, _⟩ := info_parts info_u8
  go_enter Try.func54, Try.ntmps54
  go_wp2
  go_loopw [4, 5] (fun v4 v5 wr => ∃ (l : List Int) (at_ : Nat), v5 = .int .i64 at_ ∧ at_ ≤ xs.length ∧ xs = encL l ++ xs.drop at_ ∧ U64 l ∧ l.length ≤ 128 ∧ wr.ownsRow w.heap.size 26 1 v4 l.length (nums .u64 l) ∧ Below w.heap.size w wr) (fun _ v5 _ => xs.length - (intOf v5).toNat)
  case atStart => exact ⟨[], 0, rfl, Nat.zero_le _, by simp [encL], U64.nil, by simp, empty_own w w.heap.size 26 .u64 (Nat.le_refl _), bl_alloc (Below.refl _ _) _⟩
  case round =>
    obtain ⟨l, k, rfl, hk, hx, hl, hlm, ho, hBl⟩ := hrel
    obtain ⟨A4, c4, rfl⟩ := own_slice ho
    have hrd := hR.out.below hBl
    replace hx := Lib.hid hx
    replace hl := Lib.hid hl
    by_cases hr0 : k = xs.length
    · subst hr0
      have hd1 : decide ((xs.length : Int) < (xs.length : Int)) = false := decide_eq_false (by omega)
      have hd1' : decide (xs.length < xs.length) = false := decide_eq_false (by omega)
      go_wp2
      go_ret2
      exact makesAll_ok ⟨hl.out, hlm, by have := hx.out; rw [List.drop_length, List.append_nil] at this; exact this⟩ ho hBl
    · have hd1 : decide ((k : Int) < (xs.length : Int)) = true := decide_eq_true (by omega)
      have hd1' : decide (k < xs.length) = true := decide_eq_true (by omega)
      have hkl : k < xs.length := by omega
      obtain ⟨A2, hcut, hA2⟩ := print_cut 48 5 .i64 Try.underlying48 hi0 hsz A xs.length cap k hk
      have hrd2 := (hA2 w .u8 xs hcap hR.out).below hBl
      replace hA2 := Lib.hid hA2
      obtain ⟨r, hrr⟩ : ∃ r, xs.drop k = r := ⟨_, rfl⟩
      have hrl : r.length = xs.length - k := by rw [← hrr, List.length_drop]
      have hrb : ∀ x ∈ r, 0 ≤ x ∧ x ≤ 255 := fun x hxr => hB.out x (by rw [← hrr] at hxr; exact List.mem_of_mem_drop hxr)
      replace hrb := Lib.hid hrb
      have hxr : xs = encL l ++ r := by rw [← hrr]; exact hx.out
      replace hxr := Lib.hid hxr
      rw [hrr] at hrd2
      rw [← hrl] at hcut hrd2
      have hrne : r ≠ [] := fun e => by rw [e] at hrl; simp at hrl; omega
      replace hrne := Lib.hid hrne
      replace hrr := Lib.hid hrr
      have hrlI : (r.length : Int) = (xs.length : Int) - (k : Int) := by omega
      replace hrl := Lib.hid hrl
      replace hrlI := Lib.hid hrlI
      clear hr0
      rcases getV_cases r with ⟨n, hn, hpre, hgv⟩ | hgv
      · obtain ⟨hstep, hle⟩ := getV_step hpre
        replace hstep := Lib.hid hstep
        by_cases hl8 : l.length < 128
        · have hd2 : ((l.length : Int) == 128) = false := by simp; omega
          have hgv2 := Lib.hid hgv
          clear hgv hpre
          have ep := enc_pos n
          have hbd : k + (enc n).length ≤ xs.length := by have := hrl.out; omega
          go_wp2_with (first | (go_at_call 66; (with_reducible refine (rget_any A2 (cap - k) r _ hrd2 (by have := hrl.out; omega) (by omega) hrb.out).mono ?_); rw [hgv2.out]; rintro e w' ⟨rfl, hBg⟩) | (at_builtin; refine print_append_num (w0 := w) w.heap.size rfl (.tmp 29) (.tmp 31) 29 26 .u64 8 rfl Try.underlying29 info_u64 (by decide) _ l _ rfl rfl (pw_own_below ho hBg) (bl_then hBl hBg) (bl_then hBl hBg).size (by omega) ?_; intro v1 w1 ho1 hB1 hg1 hat1))
          refine ⟨⟨l ++ [(n : Int)], k + (enc n).length, by first | rfl | (congr 1; omega), hbd, ?_, hl.out.snoc (by omega), by simp; omega, ho1, hB1⟩, by simp [intOf]; omega⟩
          rw [encL_snoc, Int.toNat_natCast, List.append_assoc, ← List.drop_drop, hrr.out, ← hstep.out]; exact hxr.out
        · have hd2 : ((l.length : Int) == 128) = true := by simp; omega
          have hfin := Lib.hid (all_many hxr.out hl.out hrne.out (by omega))
          have hgv2 := Lib.hid hgv
          clear hgv hpre
          go_wp2_with (go_at_call 66; (with_reducible refine (rget_any A2 (cap - k) r _ hrd2 (by have := hrl.out; omega) (by omega) hrb.out).mono ?_); rw [hgv2.out]; rintro e w' ⟨rfl, hBg⟩)
          go_ret2
          exact makesAll_err hfin.out (bl_then hBl hBg)
      · have hfin := Lib.hid (all_stop hxr.out hl.out hrne.out hgv)
        have hgv2 := Lib.hid hgv
        clear hgv
        go_wp2_with (go_at_call 66; (with_reducible refine (rget_any A2 (cap - k) r _ hrd2 (by have := hrl.out; omega) (by omega) hrb.out).mono ?_); rw [hgv2.out]; rintro e w' ⟨rfl, hBg⟩)
        go_ret2
        exact makesAll_err hfin.out (bl_then hBl hBg)

theorem list_ext_getD {a b : List Int} (h : a.length = b.length) (he : ∀ i, i < a.length → a.getD i 0 = b.getD i 0) : a = b := by
  refine List.ext_getElem h fun i h1 h2 => ?_
  have := he i h1
  rwa [List.getD_eq_getElem?_getD, List.getD_eq_getElem?_getD, List.getElem?_eq_getElem h1, List.getElem?_eq_getElem h2] at this
theorem same_any (A B : Option Addr) (ca cb : Nat) (a b : List Int) (w : World) (ha : ReadsInt w .u64 A a.length a) (hb : ReadsInt w .u64 B b.length b) (hm : a.length ≤ 9223372036854775807) (hm2 : b.length ≤ 9223372036854775807) :
    Calls Try.prog 19 #[.slice A a.length ca, .slice B b.length cb] w fun e w' => e = .returned (.bool (decide (a = b))) ∧ ∃ n, w' = w.drewN n := by
  by_cases hlen : a.length = b.length
  · have hd : ((a.length : Int) != (b.length : Int)) = false := by rw [hlen]; simp
    have hd' : (a.length != b.length) = false := by rw [hlen]; simp
    have hLen := Lib.hid hlen
    have hA := Lib.hid ha
    have hB := Lib.hid hb
    have hlb : a.length ≤ b.length := by omega
    clear ha hb hlen
    go_enter Try.func19, Try.ntmps19
    go_wp2
    go_loopw [13] (fun v wr => ∃ k n : Nat, v = .int .i64 k ∧ k ≤ a.length ∧ (∀ i, i < k → a.getD i 0 = b.getD i 0) ∧ wr = w.drewN n) (fun v _ => a.length - (intOf v).toNat)
    case atStart => exact ⟨0, 0, rfl, Nat.zero_le _, fun i hi => absurd hi (by omega), rfl⟩
    case round =>
      obtain ⟨k, nd, rfl, hk, he, rfl⟩ := hrel
      replace he := Lib.hid he
      by_cases hkl : k < a.length
      · have hkl2 : decide ((k : Int) < (a.length : Int)) = true := decide_eq_true (by omega)
        obtain ⟨x, rfl, hx⟩ := hA.out.at_ (k : Int) (by omega) (by omega)
        obtain ⟨y, rfl, hy⟩ := hB.out.at_ (k : Int) (by omega) (by omega)
        have hrda : rd a (k : Int) = a.getD k 0 := by simp [rd]
        have hrdb : rd b (k : Int) = b.getD k 0 := by simp [rd]
        rw [hrda, Int.toNat_natCast] at hx
        rw [hrdb, Int.toNat_natCast] at hy
        clear hrda hrdb
        have hi1 : (k : Int) < (a.length : Int) := by omega
        have hi2 : (k : Int) < (b.length : Int) := by omega
        obtain ⟨c, hc⟩ : ∃ c, a.getD k 0 = c := ⟨_, rfl⟩
        obtain ⟨d, hd0⟩ : ∃ d, b.getD k 0 = d := ⟨_, rfl⟩
        rw [hc] at hx
        rw [hd0] at hy
        replace hc := Lib.hid hc
        replace hd0 := Lib.hid hd0
        by_cases hxy : c = d
        · have hne : (c != d) = false := by rw [hxy]; simp
          replace hxy := Lib.hid hxy
          go_wp2
          go_quiet (fail)
          go_wp2
          refine ⟨⟨k + 1, nd + nq, by first | rfl | (congr 1; omega), by omega, fun i hi => ?_, rfl⟩, by simp [intOf]; omega⟩
          rcases Nat.lt_or_ge i k with h | h
          · exact he.out i h
          · obtain rfl : i = k := by omega
            rw [hc.out, hd0.out, hxy.out]
        · have hne : (c != d) = true := by simpa using hxy
          have hfin : decide (a = b) = false := decide_eq_false fun e => hxy (by rw [← hc.out, ← hd0.out, e])
          replace hfin := Lib.hid hfin
          clear hxy
          go_wp2
          go_quiet (fail)
          go_wp2
          go_ret
          rw [hfin.out]
          exact ⟨rfl, nd + nq, World.drewN_drewN _ _ _⟩
      · have hkl2 : decide ((k : Int) < (a.length : Int)) = false := decide_eq_false (by omega)
        have hfin : decide (a = b) = true := decide_eq_true (list_ext_getD hLen.out fun i hi => he.out i (by omega))
        replace hfin := Lib.hid hfin
        go_wp2
        go_ret
        rw [hfin.out]
        exact ⟨rfl, _, rfl⟩
  · have hd : ((a.length : Int) != (b.length : Int)) = true := by simp; omega
    have hd' : (a.length != b.length) = true := by simpa using hlen
    have hfin : decide (a = b) = false := decide_eq_false fun e => hlen (by rw [e])
    replace hfin := Lib.hid hfin
    clear hlen ha hb
    go_enter Try.func19, Try.ntmps19
    go_wp2
    go_ret
    rw [hfin.out]
    exact ⟨rfl, 0, rfl⟩
end Go.Proofs.Ytfcekicjlgdmaaa
