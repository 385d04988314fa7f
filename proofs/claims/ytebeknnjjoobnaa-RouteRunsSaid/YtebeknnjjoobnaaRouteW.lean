/- Contract: the routes of a table, in order: the walk. -/
import Derived.Test.YtebeknnjjoobnaaRouteV
import Derived.Test.YtebeknnjjoobnaaWWords
set_option linter.unusedVariables false
set_option linter.unusedSimpArgs false
set_option maxRecDepth 100000
namespace Go.Proofs.Ytebeknnjjoobnaa
open Go.RowKit Go.Sort Go.Lib Go.Shelf Go.Proofs Go.Proofs.YtebeknnjjoobnaaW.PrintWords
attribute [local go_sem] max2_int min2_int max_two min_two
attribute [local go_sem ↓] eql_nt neq_nt eql_ad net_addr net_bits

abbrev RgR (w : World) (b r : Nat) (l left : List Rt) : Prop := Rg Try.prog 29 netV intV w b r l left
theorem rg_objs {w : World} {b r : Nat} {l left : List Rt} (h : RgR w b r l left) : (∃ es c, w.heap[b]? = some (.map es c)) ∧ ∃ a s x c, w.heap[r]? = some (.mapIter a s x c) := by
  obtain ⟨es, clock, since, seen, c0, hb, hs, hk, he, hr, _⟩ := h
  exact ⟨⟨es, clock, hb⟩, ⟨_, since, seen, c0, hr⟩⟩
theorem own_not {w : World} {base n size : Nat} {e : TypeId} {v : Value} {xs : List Value} (h : w.ownsRow base e size v n xs) {k : Nat} {o : Obj} (hk : w.heap[k]? = some o) (ho : ∀ c e z, o ≠ .cells c e z) : some k ≠ v.ownBlock := by
  rcases h.2 with ⟨rfl, _⟩ | ⟨g, cap, cur, rfl, _, hh, _⟩
  · simp [Value.ownBlock]
  · intro he
    have : k = g := by simpa [Value.ownBlock] using he
    subst this
    rw [hk] at hh
    cases hh
    exact ho _ _ _ rfl
theorem own_iter {w w' : World} {b r base n size : Nat} {l left : List Rt} {e : TypeId} {v : Value} {xs : List Value} (h : w.ownsRow base e size v n xs) (hR : RgR w b r l left) (hK : Kept (· = r) w w') : w'.ownsRow base e size v n xs := by
  obtain ⟨_, a, s, x, c, hr⟩ := rg_objs hR
  have hg : w.grownBy w' (some r) := ⟨hK.1, hK.2.1, hK.2.2.1, hK.size, fun k hk hne => hK.block hk (fun e => hne (by rw [e]))⟩
  exact own_other h hg (.inr (Ne.symm (own_not h hr (fun _ _ _ => Obj.noConfusion))))
theorem rg_grown {w w' : World} {b r base n size : Nat} {l left : List Rt} {e : TypeId} {v : Value} {xs : List Value} (hR : RgR w b r l left) (h : w.ownsRow base e size v n xs) (hg : w.grownBy w' v.ownBlock) : RgR w' b r l left := by
  obtain ⟨⟨es, c, hb⟩, a, s, x, c', hr⟩ := rg_objs hR
  exact hR.same (hg.block b (blk_lt hb) (own_not h hb (fun _ _ _ => Obj.noConfusion))) (hg.block r (blk_lt hr) (own_not h hr (fun _ _ _ => Obj.noConfusion)))
theorem own_succ {W : World} {base : Nat} {e : TypeId} {size : Nat} {v : Value} {k : Nat} {xs : List Value} (h : W.ownsRow base e size v (k + 1) xs) : ∃ g cap, v = .slice (some ⟨g, 0, none⟩) (k + 1) cap := by
  rcases h.2 with ⟨_, h0⟩ | ⟨g, cap, _, rfl, _⟩
  · omega
  · exact ⟨g, cap, rfl⟩
theorem perm_step {d pre post : List Rt} {p : Rt} {l : List Rt} (h : (d ++ (pre ++ p :: post)).Perm l) : ((d ++ [p]) ++ (pre ++ post)).Perm l := by
  refine List.Perm.trans ?_ h
  rw [List.append_assoc]
  exact List.Perm.append_left d (show (p :: (pre ++ post)).Perm (pre ++ p :: post) from List.perm_middle.symm)
set_option maxHeartbeats 3200000 in
theorem tlist_any {w : World} {g b : Nat} {l : List Rt} (h : Tb w g b l) (hok : ∀ x ∈ l, NtOkT x.1) (hl : l.length ≤ 1000) : Calls Try.prog 16 #[.pointer (some ⟨g, 0, none⟩)] w (ListPost l w) := by
  obtain ⟨hbk, hmp⟩ := h
  obtain ⟨w1, hrange, hRg, hBr, hsz⟩ := Mp.range Try.underlying54 hmp
  have hnd := Mp.nodup hmp
  have x0 : w.cell? ⟨g, 0, none⟩ = some (.map (some b)) := (bk_cell hbk 0).trans rfl
  replace hnd := Lib.hid hnd
  replace hok := Lib.hid hok
  clear hmp hsz
  go_enter Try.func16, Try.ntmps16
  go_wp2
  clear hrange
  go_loopw [3] (fun v3 wr => ∃ d left : List Rt, lenV v3 = d.length ∧ wr.ownsRow w.heap.size 35 6 v3 d.length (rrows d) ∧ RgR wr b w.heap.size l left ∧ (d ++ left).Perm l ∧ Below w.heap.size w wr) (fun v3 _ => l.length - lenV v3)
  case atStart => exact ⟨[], l, rfl, own_nil _ _ _ _, hRg, List.Perm.refl _, hBr⟩
  case round =>
    obtain ⟨d, left, hlv, ho, hR, hp, hB⟩ := hrel
    have hlen : d.length + left.length = l.length := by have := hp.length_eq; rw [List.length_append] at this; exact this
    rcases hR.next 0 with ⟨rfl, hn⟩ | ⟨pre, p, post, w2, rfl, hn, hR2, hK, hs2, he⟩
    · rw [List.append_nil] at hp
      rcases ho.2 with ⟨rfl, h0⟩ | ⟨gg, cap, cur, rfl, hbg, hg, hn', hm, hs, ht⟩
      · have hd : d = [] := List.length_eq_zero_iff.1 h0
        subst hd
        go_wp2_with (go_at_call 26; (with_reducible refine (sort_none _).mono ?_); rintro e w3 ⟨rfl, rfl⟩)
        go_ret
        exact ⟨none, 0, [], rfl, fun i hi => absurd hi (by simp), List.Pairwise.nil, hp, hB⟩
      · have hdok : ∀ x ∈ d, NtOkT x.1 := fun x hx => hok.out x (hp.mem_iff.1 hx)
        obtain ⟨dS, hdS⟩ : ∃ dS : Array RtS, dS.toList.map (·.1) = d := ⟨(d.pmap (fun x hx => (⟨x, hx⟩ : RtS)) hdok).toArray, by simp [List.map_pmap]⟩
        have hsz : d.length = dS.size := by rw [← hdS]; simp
        have hH : HoldsK encS 6 wr gg 0 dS := holdsS hg dS (by rw [← hsz, hdS]; exact ht)
        have hsort := sort_any gg cap dS wr hH (blk_lt hg) (by omega)
        rw [← hsz] at hsort
        replace hsort := Lib.hid hsort
        replace hdS := Lib.hid hdS
        replace hsz := Lib.hid hsz
        replace hH := Lib.hid hH
        replace ht := Lib.hid ht
        clear hs
        go_wp2_with (go_at_call 26; (with_reducible refine hsort.out.mono ?_); rintro e w3 ⟨rfl, d', nn, os, hperm, hsorted, rfl⟩)
        go_ret
        obtain ⟨hps, _, hpp⟩ := hperm
        have hsz' := hsz.out
        have hpm : (d'.toList.map (·.1)).Perm d := by
          rw [← hdS.out]
          refine List.Perm.map _ ?_
          have e1 : (d'.extract 0 d.length).toList = d'.toList := by rw [show d.length = d'.size by omega, Array.extract_size]
          have e2 : (dS.extract 0 d.length).toList = dS.toList := by rw [hsz', Array.extract_size]
          rw [e1, e2] at hpp
          exact hpp
        have hl' : (d'.toList.map (·.1)).length = d.length := hpm.length_eq
        refine ⟨some ⟨gg, 0, none⟩, cap, d'.toList.map (·.1), by rw [hl']; rfl, rt_of_holds (holdsK_sortWorldK_c encS 6 wr gg 0 dS d' nn os hH.out (blk_lt hg) (by omega)), ordered_of ?_ ?_, hpm.trans hp, hB.trans (below_sort hbg hB.size)⟩
        · rw [show d'.size = d.length by omega]; exact hsorted
        · exact ((hpm.trans hp).map _).nodup_iff.2 hnd.out
    · unfold netV intV at hn he
      have hB2 := Kept.bl hB hK (fun i e => by subst e; exact Nat.le_refl _)
      have ho2 := own_iter ho hR hK
      have hp2 := perm_step hp
      have hdl : d.length ≤ 1000 := by omega
      have hdlt : d.length < l.length := by rw [← hlen, List.length_append, List.length_cons]; omega
      clear hp hlen
      replace hp2 := Lib.hid hp2
      go_wp2_with (at_builtin; refine append_rt1 w.heap.size rfl (.tmp 16) (.tmp 20) rfl _ d p _ rfl rfl (pw_own_below ho2 (bl_alloc (bl_alloc (Below.refl _ _) _) _)) (rt_news (by rw [World.size_alloc]; have := hs2; omega) p) hdl (bl_alloc (bl_alloc hB2 _) _).size ?_; intro v' w3 hown hgrow; obtain ⟨g', cap', rfl⟩ := own_succ hown)
      have hR3 := rg_grown (hR2.below (bl_alloc (bl_alloc (Below.refl _ _) _) _)) (pw_own_below ho2 (bl_alloc (bl_alloc (Below.refl _ _) _) _)) hgrow
      refine ⟨⟨d ++ [p], pre ++ post, by rw [List.length_append]; rfl, by rw [rrows_snoc, List.length_append]; exact hown, hR3, hp2.out, (bl_alloc (bl_alloc hB2 _) _).grown hgrow (bl_alloc (bl_alloc hB2 _) _).size (own_base ho2)⟩, ?_⟩
      rw [hlv]
      simp only [lenV]; omega
end Go.Proofs.Ytebeknnjjoobnaa
