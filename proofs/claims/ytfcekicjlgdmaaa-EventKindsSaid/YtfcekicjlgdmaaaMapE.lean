/- An entry of a map that is made (or found) first and written later: m[k]++ and the like. -/
import Derived.Test.YtfcekicjlgdmaaaMapL
import Derived.WideKeyEntry
set_option linter.unusedVariables false
set_option linter.unusedSimpArgs false
namespace Go.Proofs.Ytfcekicjlgdmaaa
open Go.RowKit Go.Maps Go.MapKept
open Go.ChangeMaps (setBlock heap_setBlock_same heap_setBlock_other modify_eq_set)
open Go.WideElems (findIdx_born findIdx_arr modify_last set_self)
section
variable {P : Program} {k : TypeId} {K V : Type} {kv : K → Value} {vv : V → Value} {ok : K → Prop} {w : World} {b : Nat} {l : List (K × V)} [DecidableEq K]
theorem Mp.entry (KV : KeyV P k kv ok) {t e : TypeId} (ht : P.underlying t = some (.map k e)) (h : Mp P k kv vv w b l) {a : K} (ha : ok a) {z : Value} (hz : ∀ u : World, (zeroValue e).run P u = .ok z u) :
    ∃ (v0 : Value) (st : Nat) (w1 : World), (Instr.mapEntry t (.map (some b)) (kv a)).run P w = .ok (.tuple #[v0, goInt st]) w1 ∧ Kept (· = b) w w1 ∧ w1.heap.size = w.heap.size ∧ (∀ zi : V, z = vv zi → ∃ l1, Mp P k kv vv w1 b l1 ∧ mget l1 a = some ((mget l a).getD zi)) ∧
      ∀ (w2 : World), w2.heap[b]? = w1.heap[b]? → ∀ v : V, ∃ w3, (Instr.entryStore t (.map (some b)) (goInt st) (vv v)).run P w2 = .ok () w3 ∧ Mp P k kv vv w3 b (mput l a v) ∧ Kept (· = b) w2 w3 ∧ w3.heap.size = w2.heap.size := by
  have hlt := h.lt
  have hst := fun v => Mp.store KV ht h ha v
  have hcopy := h
  have hn := h.nodup
  obtain ⟨es, clock, hb, hs, hk, he⟩ := h
  obtain ⟨kl, hkey⟩ := KV.reads ha
  obtain ⟨s1, s2, _⟩ := hs
  have fin : ∀ (es1 : Array MapEntry) (c1 : Nat) (w2 : World) (v : V), b < w2.heap.size → (Instr.mapUpdate t (.map (some b)) (kv a) (vv v)).run P w = .ok () (setBlock w b (.map es1 c1)) → Mp P k kv vv (setBlock w2 b (.map es1 c1)) b (mput l a v) := by
    intro es1 c1 w2 v hb2 hrun
    obtain ⟨w', hrun', hmp, _, _⟩ := hst v
    rw [hrun] at hrun'
    injection hrun' with _ hw
    subst hw
    refine hmp.same ?_
    have e1 : (setBlock w2 b (.map es1 c1)).heap[b]? = some (.map es1 c1) := by simp [setBlock, hb2]
    have e2 : (setBlock w b (.map es1 c1)).heap[b]? = some (.map es1 c1) := by simp [setBlock, hlt]
    rw [e1, e2]
  rcases KV.keyed.find w hkey es.toList hk with ⟨h1, h2⟩ | ⟨j, e0, h1, h2, h3⟩
  · refine ⟨z, clock, setBlock w b (.map (es.push ⟨kv a, z, clock⟩) (clock + 1)), ?_, kept_block w b _ hlt, by simp [setBlock], fun zi hzi => ⟨mput l a zi, fin _ _ _ _ hlt ?_, ?_⟩, fun w2 hw2 v => ?_⟩
    · simp [Instr.mapEntry, run_underlying ht, MapKept.run_getObj_map hb, KV.keyed.check w false hkey, h1, hz, MapKept.run_setObj_map _ hb, Result.andThen, setBlock]
    · subst hzi
      simp [Instr.mapUpdate, run_underlying ht, MapKept.run_getObj_map hb, KV.keyed.check w false hkey, h1, MapKept.run_setObj_map _ hb, Result.andThen, setBlock]
    · have hg : mget l a = none := mget_none.2 fun p hp e => by
        obtain ⟨x, hx, hxk, _⟩ := Mp.mem_of he hp
        exact h2 x hx (hxk.trans (by rw [e]))
      rw [mget_put, if_pos rfl, hg]
      rfl
    · rw [heap_setBlock_same hb] at hw2
      have hb2 : b < w2.heap.size := (Array.getElem?_eq_some_iff.1 hw2).1
      have hidx : (es.push ⟨kv a, z, clock⟩).findIdx? (fun e => ((e.born : Nat) : Int) == ((clock : Nat) : Int)) = some es.size := by
        rw [findIdx_arr]
        exact findIdx_born (l := (es.push ⟨kv a, z, clock⟩).toList) (j := es.size) (e0 := ⟨kv a, z, clock⟩) (by
          simp only [Array.toList_push, List.map_append, List.map_cons, List.map_nil]
          refine List.nodup_append.2 ⟨s2, by simp, fun x hx c hc e1 => ?_⟩
          simp only [List.mem_singleton] at hc
          obtain ⟨y, hy, rfl⟩ := List.mem_map.1 hx
          have := s1 y hy
          omega) (by simp)
      have hmod : (es.push ⟨kv a, z, clock⟩).modify es.size (fun e => { e with val := vv v }) = es.push ⟨kv a, vv v, clock⟩ := by
        apply Array.ext'
        rw [Array.toList_modify, Array.toList_push, Array.toList_push, ← Array.length_toList, modify_last]
      refine ⟨setBlock w2 b (.map (es.push ⟨kv a, vv v, clock⟩) (clock + 1)), ?_, fin _ _ _ _ hb2 ?_, kept_block w2 b _ hb2, by simp [setBlock]⟩
      · simp [Instr.entryStore, MapKept.run_getObj_map hw2, asInt, asIntOf, goInt, hidx, hmod, MapKept.run_setObj_map _ hw2, Result.andThen, setBlock]
      · simp [Instr.mapUpdate, run_underlying ht, MapKept.run_getObj_map hb, KV.keyed.check w false hkey, h1, MapKept.run_setObj_map _ hb, Result.andThen, setBlock]
  · have hj : es[j]? = some e0 := by simpa using h2
    have hsame : es.modify j (fun e => { e with key := kv a }) = es := by
      apply Array.ext'
      rw [Array.toList_modify, modify_eq_set _ _ _ _ h2]
      have : ({ e0 with key := kv a } : MapEntry) = e0 := by rw [← h3]
      rw [this]
      exact set_self _ _ _ h2
    refine ⟨e0.val, e0.born, setBlock w b (.map es clock), ?_, kept_block w b _ hlt, by simp [setBlock], fun zi hzi => ⟨l, hcopy.same (by rw [heap_setBlock_same hb, hb]), ?_⟩, fun w2 hw2 v => ?_⟩
    · simp [Instr.mapEntry, run_underlying ht, MapKept.run_getObj_map hb, KV.keyed.check w false hkey, h1, hj, h3, KV.keyed.stays w hkey, hsame, MapKept.run_setObj_map _ hb, Result.andThen, setBlock]
    · obtain ⟨p, hp, hpk, hpv⟩ := Mp.at_ he h2
      have hpa := KV.inj (hpk.symm.trans h3)
      have hg : mget l a = some p.2 := mget_of_mem hn (by rw [← hpa]; exact List.mem_of_getElem? hp)
      rw [hg]
      rfl
    · rw [heap_setBlock_same hb] at hw2
      have hb2 : b < w2.heap.size := (Array.getElem?_eq_some_iff.1 hw2).1
      have hidx : es.findIdx? (fun e => ((e.born : Nat) : Int) == ((e0.born : Nat) : Int)) = some j := by
        rw [findIdx_arr]
        exact findIdx_born s2 h2
      have hmod : es.modify j (fun e => { e with val := vv v }) = es.modify j (fun e' => { e' with key := kv a, val := vv v }) := by
        apply Array.ext'
        rw [Array.toList_modify, Array.toList_modify, modify_eq_set _ _ _ _ h2, modify_eq_set _ _ _ _ h2, ← h3]
      refine ⟨setBlock w2 b (.map (es.modify j (fun e' => { e' with key := kv a, val := vv v })) clock), ?_, fin _ _ _ _ hb2 ?_, kept_block w2 b _ hb2, by simp [setBlock]⟩
      · simp [Instr.entryStore, MapKept.run_getObj_map hw2, asInt, asIntOf, goInt, hidx, hmod, MapKept.run_setObj_map _ hw2, Result.andThen, setBlock]
      · simp [Instr.mapUpdate, run_underlying ht, MapKept.run_getObj_map hb, KV.keyed.check w false hkey, h1, hj, h3, KV.keyed.stays w hkey, MapKept.run_setObj_map _ hb, Result.andThen, setBlock]
end
end Go.Proofs.Ytfcekicjlgdmaaa
