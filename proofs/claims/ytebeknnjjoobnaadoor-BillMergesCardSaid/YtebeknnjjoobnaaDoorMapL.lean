/- Maps known by their entries: keys and values in a list, no key twice. -/
import Derived.Test.YtebeknnjjoobnaaDoorKept
import Derived.Maps.Keyed
import Derived.Maps.RangeWalk
import Derived.Maps.OwnOps
import Derived.Maps.OwnSet
set_option linter.unusedVariables false
set_option linter.unusedSimpArgs false
namespace Go.Proofs.YtebeknnjjoobnaaDoor
open Go.RowKit Go.Maps Go.MapKept
open Go.ChangeMaps (setBlock heap_setBlock_same heap_setBlock_other modify_eq_set)

/-- Keys of a type: how they stand as values, and which can be. -/
structure KeyV (P : Program) (k : TypeId) {K : Type} (kv : K → Value) (ok : K → Prop) : Prop where
  keyed : Keyed P k
  inj : ∀ {a b : K}, kv a = kv b → a = b
  reads : ∀ {a : K}, ok a → ∃ l, keyOf P k (kv a) = some l

/-- Block b is a map with these entries. -/
def Mp (P : Program) (k : TypeId) {K V : Type} (kv : K → Value) (vv : V → Value) (w : World) (b : Nat) (l : List (K × V)) : Prop :=
  ∃ es clock, w.heap[b]? = some (.map es clock) ∧ Stamped es clock ∧ (∀ x ∈ es.toList, ∃ y, keyOf P k x.key = some y) ∧ es.toList.map (fun x => (x.key, x.val)) = l.map (fun p => (kv p.1, vv p.2))

section
variable {P : Program} {k : TypeId} {K V : Type} {kv : K → Value} {vv : V → Value} {ok : K → Prop} {w : World} {b : Nat} {l : List (K × V)}

theorem Mp.lt (h : Mp P k kv vv w b l) : b < w.heap.size := by
  obtain ⟨es, clock, hb, _⟩ := h
  exact (Array.getElem?_eq_some_iff.1 hb).1
theorem Mp.same {w' : World} (h : Mp P k kv vv w b l) (e : w'.heap[b]? = w.heap[b]?) : Mp P k kv vv w' b l := by
  obtain ⟨es, clock, hb, r⟩ := h
  exact ⟨es, clock, e.trans hb, r⟩
theorem Mp.kept {S : Nat → Prop} {w' : World} (h : Mp P k kv vv w b l) (hk : Kept S w w') (hS : ¬ S b) : Mp P k kv vv w' b l := h.same (hk.block h.lt hS)
theorem Mp.below {w' : World} (h : Mp P k kv vv w b l) (hB : Below w.heap.size w w') : Mp P k kv vv w' b l := h.same (hB.block b h.lt)
theorem Mp.drew (h : Mp P k kv vv w b l) : Mp P k kv vv w.drew b l := h
theorem Mp.alloc (h : Mp P k kv vv w b l) (o : Obj) : Mp P k kv vv (w.alloc o) b l := h.same (Below.heap_alloc w o b h.lt)
theorem Mp.far {p : Addr} (h : Mp P k kv vv w b l) (hp : b ≠ p.block) (u : Value) : Mp P k kv vv (w.setCell p u) b l := h.same (Below.heap_setCell w p u b hp)
theorem Mp.made (w : World) : Mp P k kv vv (w.alloc (.map #[] 0)) w.heap.size ([] : List (K × V)) := ⟨#[], 0, heap_alloc_new w _, stamped_empty 0, by simp, rfl⟩
theorem Mp.made_at {w : World} {b : Nat} (hb : w.heap.size = b) : Mp P k kv vv (w.alloc (.map #[] 0)) b ([] : List (K × V)) := by subst hb; exact Mp.made w
theorem Mp.nodup (h : Mp P k kv vv w b l) : (l.map Prod.fst).Nodup := by
  obtain ⟨es, clock, _, hs, _, he⟩ := h
  have h3 := hs.2.2
  have e : es.toList.map (·.key) = l.map (fun p => kv p.1) := by
    have := congrArg (List.map Prod.fst) he
    simpa [List.map_map, Function.comp_def] using this
  rw [e] at h3
  have : l.map (fun p => kv p.1) = (l.map Prod.fst).map kv := by simp [List.map_map, Function.comp_def]
  rw [this] at h3
  exact List.Pairwise.of_map kv (fun a b hne e => hne (by rw [e])) h3
theorem Mp.at_ {es : Array MapEntry} (he : es.toList.map (fun x => (x.key, x.val)) = l.map (fun p => (kv p.1, vv p.2))) {j : Nat} {e0 : MapEntry} (hj : es.toList[j]? = some e0) : ∃ p, l[j]? = some p ∧ e0.key = kv p.1 ∧ e0.val = vv p.2 := by
  have h := congrArg (fun l : List (Value × Value) => l[j]?) he
  simp only [List.getElem?_map, hj, Option.map_some] at h
  cases hp : l[j]? with
  | none => rw [hp] at h; simp at h
  | some p =>
    rw [hp] at h
    simp only [Option.map_some, Option.some.injEq, Prod.mk.injEq] at h
    exact ⟨p, rfl, h.1, h.2⟩
theorem Mp.mem_of {es : Array MapEntry} (he : es.toList.map (fun x => (x.key, x.val)) = l.map (fun p => (kv p.1, vv p.2))) {p : K × V} (hp : p ∈ l) : ∃ x ∈ es.toList, x.key = kv p.1 ∧ x.val = vv p.2 := by
  have : (kv p.1, vv p.2) ∈ es.toList.map (fun x => (x.key, x.val)) := by rw [he]; exact List.mem_map.2 ⟨p, hp, rfl⟩
  obtain ⟨x, hx, e⟩ := List.mem_map.1 this
  simp only [Prod.mk.injEq] at e
  exact ⟨x, hx, e.1, e.2⟩

variable [DecidableEq K]
/-- What stands at a key. -/
def mget (l : List (K × V)) (a : K) : Option V := (l.find? fun p => p.1 = a).map Prod.snd
def mput (l : List (K × V)) (a : K) (v : V) : List (K × V) := if (mget l a).isSome then l.map fun p => if p.1 = a then (a, v) else p else l ++ [(a, v)]
def mdel (l : List (K × V)) (a : K) : List (K × V) := l.filter fun p => p.1 ≠ a

theorem mget_none {a : K} : mget l a = none ↔ ∀ p ∈ l, p.1 ≠ a := by
  unfold mget
  rw [Option.map_eq_none_iff, List.find?_eq_none]
  simp
theorem mget_some_mem {a : K} {v : V} (h : mget l a = some v) : (a, v) ∈ l := by
  unfold mget at h
  obtain ⟨p, hp, rfl⟩ := Option.map_eq_some_iff.1 h
  have h1 := List.mem_of_find?_eq_some hp
  have h2 := List.find?_some hp
  simp at h2
  subst h2
  exact h1
theorem mget_of_mem (hn : (l.map Prod.fst).Nodup) {a : K} {v : V} (h : (a, v) ∈ l) : mget l a = some v := by
  induction l with
  | nil => simp at h
  | cons p l ih =>
    rw [List.map_cons, List.nodup_cons] at hn
    unfold mget
    rw [List.find?_cons]
    by_cases e : p.1 = a
    · simp only [e, decide_true, Option.map_some]
      rcases List.mem_cons.1 h with r | r
      · rw [← r]
      · exact absurd (List.mem_map.2 ⟨_, r, rfl⟩) (e ▸ hn.1)
    · simp only [e, decide_false]
      rcases List.mem_cons.1 h with r | r
      · rw [← r] at e; simp at e
      · exact ih hn.2 r
theorem mget_put (l : List (K × V)) (a : K) (v : V) (c : K) : mget (mput l a v) c = if c = a then some v else mget l c := by
  unfold mput
  by_cases hs : (mget l a).isSome
  · rw [if_pos hs]
    obtain ⟨v0, hv0⟩ := Option.isSome_iff_exists.1 hs
    clear hs
    induction l generalizing v0 with
    | nil => simp [mget] at hv0
    | cons p l ih =>
      unfold mget at *
      rw [List.map_cons, List.find?_cons, List.find?_cons]
      rw [List.find?_cons] at hv0
      by_cases e : p.1 = a
      · simp only [e, if_true]
        by_cases ec : c = a
        · subst ec; simp
        · have : ¬ a = c := fun h => ec h.symm
          simp only [this, decide_false, ec, if_false]
          by_cases hh : ∃ q ∈ l, q.1 = a
          · have : ∃ v1, Option.map Prod.snd (List.find? (fun p => decide (p.1 = a)) l) = some v1 := by
              obtain ⟨q, hq, hqa⟩ := hh
              cases hf : List.find? (fun p => decide (p.1 = a)) l with
              | none => rw [List.find?_eq_none] at hf; exact absurd hqa (by simpa using hf q hq)
              | some q' => exact ⟨q'.2, rfl⟩
            obtain ⟨v1, hv1⟩ := this
            have := ih v1 hv1
            rw [this, if_neg ec]
          · have e2 : l.map (fun p => if p.1 = a then (a, v) else p) = l := by
              conv => rhs; rw [← List.map_id l]
              refine List.map_congr_left fun q hq => ?_
              rw [if_neg fun h => hh ⟨q, hq, h⟩]; rfl
            rw [e2]
      · simp only [e, if_false, decide_false] at hv0 ⊢
        by_cases ec : p.1 = c
        · simp only [ec, decide_true, Option.map_some]
          rw [if_neg (fun h => e (ec.trans h))]
        · simp only [ec, decide_false]
          exact ih v0 hv0
  · rw [if_neg hs]
    have hn : mget l a = none := by simpa using hs
    have hn' := mget_none.1 hn
    unfold mget
    rw [List.find?_append]
    by_cases ec : c = a
    · subst ec
      rw [if_pos rfl]
      have : l.find? (fun p => decide (p.1 = c)) = none := by rw [List.find?_eq_none]; simpa using hn'
      rw [this]
      simp
    · rw [if_neg ec]
      have : ¬ a = c := fun h => ec h.symm
      cases hf : l.find? (fun p => decide (p.1 = c)) <;> simp [this]
theorem mget_del (l : List (K × V)) (a c : K) : mget (mdel l a) c = if c = a then none else mget l c := by
  unfold mdel mget
  induction l with
  | nil => simp
  | cons p l ih =>
    rw [List.filter_cons]
    by_cases e : p.1 = a
    · simp only [e, ne_eq, not_true, decide_false, Bool.false_eq_true, if_false]
      rw [ih, List.find?_cons]
      by_cases ec : c = a
      · simp [ec]
      · have : ¬ a = c := fun h => ec h.symm
        simp [e, this]
    · simp only [ne_eq, e, not_false_eq_true, decide_true, if_true]
      rw [List.find?_cons, List.find?_cons]
      by_cases ec : p.1 = c
      · simp only [ec, decide_true, Option.map_some]
        rw [if_neg (fun h => e (ec.trans h))]
      · simp only [ec, decide_false]
        exact ih
theorem mput_len (l : List (K × V)) (a : K) (v : V) : (mput l a v).length = if (mget l a).isSome then l.length else l.length + 1 := by
  unfold mput
  split <;> simp

theorem Mp.look_none (KV : KeyV P k kv ok) {t e : TypeId} (ht : P.underlying t = some (.map k e)) (h : Mp P k kv vv w b l) {a : K} (ha : ok a) {z : Value} (hz : (zeroValue e).run P w = .ok z w) (hg : mget l a = none) (c : Bool) :
    (Instr.lookup t (.map (some b)) (kv a) c).run P w = .ok (if c then .tuple #[z, .bool false] else z) w := by
  obtain ⟨es, clock, hb, hs, hk, he⟩ := h
  obtain ⟨kl, hkey⟩ := KV.reads ha
  rcases KV.keyed.find w hkey es.toList hk with ⟨h1, h2⟩ | ⟨j, e0, h1, h2, h3⟩
  · simp [Instr.lookup, run_underlying ht, MapKept.run_getObj_map hb, KV.keyed.check w _ hkey, h1, hz, Result.andThen]
  · exfalso
    obtain ⟨p, hp, hpk, _⟩ := Mp.at_ he h2
    exact mget_none.1 hg p (List.mem_of_getElem? hp) (KV.inj (hpk.symm.trans h3))
theorem Mp.look_some (KV : KeyV P k kv ok) {t e : TypeId} (ht : P.underlying t = some (.map k e)) (h : Mp P k kv vv w b l) {a : K} (ha : ok a) {v : V} (hg : mget l a = some v) (c : Bool) :
    (Instr.lookup t (.map (some b)) (kv a) c).run P w = .ok (if c then .tuple #[vv v, .bool true] else vv v) w := by
  have hn := h.nodup
  obtain ⟨es, clock, hb, hs, hk, he⟩ := h
  obtain ⟨kl, hkey⟩ := KV.reads ha
  rcases KV.keyed.find w hkey es.toList hk with ⟨h1, h2⟩ | ⟨j, e0, h1, h2, h3⟩
  · exfalso
    obtain ⟨x, hx, hxk, _⟩ := Mp.mem_of he (mget_some_mem hg)
    exact h2 x hx hxk
  · obtain ⟨p, hp, hpk, hpv⟩ := Mp.at_ he h2
    have hpa := KV.inj (hpk.symm.trans h3)
    have : mget l a = some p.2 := mget_of_mem hn (by rw [← hpa]; exact List.mem_of_getElem? hp)
    rw [this] at hg
    obtain rfl := Option.some.inj hg
    simp [Instr.lookup, run_underlying ht, MapKept.run_getObj_map hb, KV.keyed.check w _ hkey, h1, hpv, Result.andThen]

theorem kept_block (w : World) (b : Nat) (o : Obj) (hb : b < w.heap.size) : Kept (· = b) w (setBlock w b o) :=
  ⟨rfl, rfl, rfl, by simp [setBlock], fun i _ hi => by simp [setBlock, Array.getElem?_setIfInBounds, Ne.symm hi]⟩

theorem Mp.store (KV : KeyV P k kv ok) {t e : TypeId} (ht : P.underlying t = some (.map k e)) (h : Mp P k kv vv w b l) {a : K} (ha : ok a) (v : V) :
    ∃ w', (Instr.mapUpdate t (.map (some b)) (kv a) (vv v)).run P w = .ok () w' ∧ Mp P k kv vv w' b (mput l a v) ∧ Kept (· = b) w w' ∧ w'.heap.size = w.heap.size := by
  have hlt := h.lt
  have hn := h.nodup
  obtain ⟨es, clock, hb, hs, hk, he⟩ := h
  obtain ⟨kl, hkey⟩ := KV.reads ha
  rcases KV.keyed.find w hkey es.toList hk with ⟨h1, h2⟩ | ⟨j, e0, h1, h2, h3⟩
  · have hg : mget l a = none := mget_none.2 fun p hp e => by
      obtain ⟨x, hx, hxk, _⟩ := Mp.mem_of he hp
      exact h2 x hx (hxk.trans (by rw [e]))
    refine ⟨setBlock w b (.map (es.push ⟨kv a, vv v, clock⟩) (clock + 1)), ?_, ⟨_, _, heap_setBlock_same hb _, stamped_push hs h2, ?_, ?_⟩, kept_block w b _ hlt, by simp [setBlock]⟩
    · simp [Instr.mapUpdate, run_underlying ht, MapKept.run_getObj_map hb, KV.keyed.check w false hkey, h1, MapKept.run_setObj_map _ hb, Result.andThen, setBlock]
    · intro x hx
      simp only [Array.toList_push, List.mem_append, List.mem_singleton] at hx
      rcases hx with hx | rfl
      · exact hk x hx
      · exact ⟨kl, hkey⟩
    · unfold mput
      rw [hg]
      simp [he]
  · have hj : es[j]? = some e0 := by simpa using h2
    have hjl : j < es.toList.length := (List.getElem?_eq_some_iff.1 h2).1
    obtain ⟨p, hp, hpk, hpv⟩ := Mp.at_ he h2
    have hpa := KV.inj (hpk.symm.trans h3)
    have hg : mget l a = some p.2 := mget_of_mem hn (by rw [← hpa]; exact List.mem_of_getElem? hp)
    have hkeyf : ∀ e', es[j]? = some e' → ({ e' with key := kv a, val := vv v } : MapEntry).key = e'.key := fun e' he' => by rw [hj] at he'; cases he'; exact h3.symm
    have hlist : (es.modify j (fun e' => { e' with key := kv a, val := vv v })).toList = es.toList.set j { e0 with key := kv a, val := vv v } := by rw [Array.toList_modify, modify_eq_set _ _ _ _ h2]
    refine ⟨setBlock w b (.map (es.modify j (fun e' => { e' with key := kv a, val := vv v })) clock), ?_, ⟨_, _, heap_setBlock_same hb _, stamped_modify hs _ _ (fun _ _ => rfl) (fun e' _ he' => hkeyf e' he'), ?_, ?_⟩, kept_block w b _ hlt, by simp [setBlock]⟩
    · simp [Instr.mapUpdate, run_underlying ht, MapKept.run_getObj_map hb, KV.keyed.check w false hkey, h1, hj, h3, KV.keyed.stays w hkey, MapKept.run_setObj_map _ hb, Result.andThen, setBlock]
    · intro x hx
      rw [hlist] at hx
      rcases List.mem_or_eq_of_mem_set hx with hx | rfl
      · exact hk x hx
      · exact ⟨kl, hkey⟩
    · unfold mput
      rw [hg, Option.isSome_some, if_pos rfl, hlist, List.map_set, he]
      refine List.ext_getElem? fun i => ?_
      rw [List.getElem?_set, List.getElem?_map, List.getElem?_map, List.getElem?_map, List.length_map]
      by_cases hij : j = i
      · subst hij
        have hjl' : j < l.length := (List.getElem?_eq_some_iff.1 hp).1
        have hpj : l[j] = p := (List.getElem?_eq_some_iff.1 hp).2
        simp [hjl', hpj, hpa]
      · rw [if_neg hij]
        cases hq : l[i]? with
        | none => rfl
        | some q =>
          have hne : q.1 ≠ a := fun e => hij (by
            have hjl' : j < l.length := (List.getElem?_eq_some_iff.1 hp).1
            have hil' : i < l.length := (List.getElem?_eq_some_iff.1 hq).1
            have e1 : (l.map Prod.fst)[j]? = some a := by rw [List.getElem?_map, hp]; simp [hpa]
            have e2 : (l.map Prod.fst)[i]? = some a := by rw [List.getElem?_map, hq]; simp [e]
            exact (List.getElem?_inj (by simpa using hjl') hn).1 (e1.trans e2.symm))
          simp [hne]

theorem Mp.drop (KV : KeyV P k kv ok) {t e ty : TypeId} (ht : P.underlying t = some (.map k e)) (h : Mp P k kv vv w b l) {a : K} (ha : ok a) :
    ∃ w', (Builtin.delete_ #[t, k] ty #[.map (some b), kv a]).run P w = .ok (.tuple #[]) w' ∧ Mp P k kv vv w' b (mdel l a) ∧ Kept (· = b) w w' ∧ w'.heap.size = w.heap.size := by
  have hlt := h.lt
  have hn := h.nodup
  obtain ⟨es, clock, hb, hs, hk, he⟩ := h
  obtain ⟨kl, hkey⟩ := KV.reads ha
  rcases KV.keyed.find w hkey es.toList hk with ⟨h1, h2⟩ | ⟨j, e0, h1, h2, h3⟩
  · refine ⟨setBlock w b (.map es clock), ?_, ⟨_, _, heap_setBlock_same hb _, hs, hk, ?_⟩, kept_block w b _ hlt, by simp [setBlock]⟩
    · simp [Builtin.delete_, run_underlying ht, MapKept.run_getObj_map hb, KV.keyed.check w _ hkey, h1, MapKept.run_setObj_map _ hb, Result.andThen, setBlock]
    · unfold mdel
      rw [List.filter_eq_self.2 fun p hp => ?_, he]
      simp only [ne_eq, decide_eq_true_eq]
      intro e
      obtain ⟨x, hx, hxk, _⟩ := Mp.mem_of he hp
      exact h2 x hx (hxk.trans (by rw [e]))
  · have hjl : j < es.toList.length := (List.getElem?_eq_some_iff.1 h2).1
    have hjs : j < es.size := by simpa using hjl
    obtain ⟨p, hp, hpk, hpv⟩ := Mp.at_ he h2
    have hpa := KV.inj (hpk.symm.trans h3)
    have hsub : (es.eraseIdxIfInBounds j).toList = es.toList.eraseIdx j := by
      unfold Array.eraseIdxIfInBounds
      rw [dif_pos hjs]
      simp
    refine ⟨setBlock w b (.map (es.eraseIdxIfInBounds j) clock), ?_, ⟨_, _, heap_setBlock_same hb _, stamped_erase hs j, ?_, ?_⟩, kept_block w b _ hlt, by simp [setBlock]⟩
    · simp [Builtin.delete_, run_underlying ht, MapKept.run_getObj_map hb, KV.keyed.check w _ hkey, h1, MapKept.run_setObj_map _ hb, Result.andThen, setBlock]
    · intro x hx
      rw [hsub] at hx
      exact hk x ((List.eraseIdx_sublist _ _).subset hx)
    · have e1 : (es.toList.eraseIdx j).map (fun x => (x.key, x.val)) = (es.toList.map (fun x => (x.key, x.val))).eraseIdx j := ChangeMaps.map_eraseIdx _ _ _
      have e2 : (l.eraseIdx j).map (fun p => (kv p.1, vv p.2)) = (l.map (fun p => (kv p.1, vv p.2))).eraseIdx j := ChangeMaps.map_eraseIdx _ _ _
      rw [hsub, e1, he, ← e2]
      congr 1
      unfold mdel
      have hjl' : j < l.length := (List.getElem?_eq_some_iff.1 hp).1
      have hpj : l[j] = p := (List.getElem?_eq_some_iff.1 hp).2
      rw [List.eraseIdx_eq_take_drop_succ]
      conv => rhs; rw [← List.take_append_drop j l, List.drop_eq_getElem_cons hjl']
      rw [List.filter_append, List.filter_cons, hpj]
      simp only [hpa, ne_eq, not_true, decide_false, Bool.false_eq_true, if_false]
      have hd : ∀ i q, l[i]? = some q → i ≠ j → q.1 ≠ a := fun i q hq hij e => hij (by
        have hil' : i < l.length := (List.getElem?_eq_some_iff.1 hq).1
        have e1 : (l.map Prod.fst)[j]? = some a := by rw [List.getElem?_map, hp]; simp [hpa]
        have e2 : (l.map Prod.fst)[i]? = some a := by rw [List.getElem?_map, hq]; simp [e]
        exact (List.getElem?_inj (by simpa using hil') hn).1 (e2.trans e1.symm))
      rw [List.filter_eq_self.2, List.filter_eq_self.2]
      · intro q hq
        obtain ⟨i, hi, e⟩ := List.mem_iff_getElem.1 hq
        rw [List.getElem_drop] at e
        simpa using hd (j + 1 + i) q (by rw [← e]; simp at hi; exact List.getElem?_eq_getElem (by omega)) (by omega)
      · intro q hq
        obtain ⟨i, hi, e⟩ := List.mem_iff_getElem.1 hq
        rw [List.getElem_take] at e
        simp at hi
        simpa using hd i q (by rw [← e]; exact List.getElem?_eq_getElem (by omega)) (by omega)

omit [DecidableEq K] in
theorem Mp.len {t e : TypeId} (ht : P.underlying t = some (.map k e)) (h : Mp P k kv vv w b l) (ty : TypeId) : (Builtin.len_ #[t] ty #[.map (some b)]).run P w = .ok (.int .i64 l.length) w := by
  obtain ⟨es, clock, hb, hs, hk, he⟩ := h
  have := congrArg List.length he
  simp at this
  simp [Builtin.len_, run_underlying ht, MapKept.run_getObj_map hb, goInt, this]

/-- 'for k, v := range m' under way: what is still to come. -/
def Rg (P : Program) (k : TypeId) {K V : Type} (kv : K → Value) (vv : V → Value) (w : World) (b r : Nat) (l left : List (K × V)) : Prop :=
  ∃ es clock since seen c0, w.heap[b]? = some (.map es clock) ∧ Stamped es clock ∧ (∀ x ∈ es.toList, ∃ y, keyOf P k x.key = some y) ∧ es.toList.map (fun x => (x.key, x.val)) = l.map (fun p => (kv p.1, vv p.2)) ∧
    w.heap[r]? = some (.mapIter (some b) since seen c0) ∧ (∀ x ∈ es.toList, x.born < since) ∧ since ≤ c0 ∧ since ≤ clock ∧ (leftOf es seen).toList.map (fun x => (x.key, x.val)) = left.map (fun p => (kv p.1, vv p.2))
omit [DecidableEq K] in
theorem Rg.mp {r : Nat} {left : List (K × V)} (h : Rg P k kv vv w b r l left) : Mp P k kv vv w b l := by
  obtain ⟨es, clock, since, seen, c0, hb, hs, hk, he, _⟩ := h
  exact ⟨es, clock, hb, hs, hk, he⟩
omit [DecidableEq K] in
theorem Rg.lt {r : Nat} {left : List (K × V)} (h : Rg P k kv vv w b r l left) : r < w.heap.size := by
  obtain ⟨es, clock, since, seen, c0, hb, hs, hk, he, hr, _⟩ := h
  exact (Array.getElem?_eq_some_iff.1 hr).1
omit [DecidableEq K] in
theorem Rg.ne {r : Nat} {left : List (K × V)} (h : Rg P k kv vv w b r l left) : r ≠ b := by
  obtain ⟨es, clock, since, seen, c0, hb, hs, hk, he, hr, _⟩ := h
  rintro rfl
  rw [hb] at hr
  cases hr
omit [DecidableEq K] in
theorem Rg.same {r : Nat} {left : List (K × V)} {w' : World} (h : Rg P k kv vv w b r l left) (e1 : w'.heap[b]? = w.heap[b]?) (e2 : w'.heap[r]? = w.heap[r]?) : Rg P k kv vv w' b r l left := by
  obtain ⟨es, clock, since, seen, c0, hb, hs, hk, he, hr, q⟩ := h
  exact ⟨es, clock, since, seen, c0, e1.trans hb, hs, hk, he, e2.trans hr, q⟩
omit [DecidableEq K] in
theorem Rg.kept {r : Nat} {left : List (K × V)} {S : Nat → Prop} {w' : World} (h : Rg P k kv vv w b r l left) (hk : Kept S w w') (hb : ¬ S b) (hr : ¬ S r) : Rg P k kv vv w' b r l left := h.same (hk.block h.mp.lt hb) (hk.block h.lt hr)
omit [DecidableEq K] in
theorem Rg.below {r : Nat} {left : List (K × V)} {w' : World} (h : Rg P k kv vv w b r l left) (hB : Below w.heap.size w w') : Rg P k kv vv w' b r l left := h.same (hB.block b h.mp.lt) (hB.block r h.lt)
omit [DecidableEq K] in
theorem Mp.range {t e : TypeId} (ht : P.underlying t = some (.map k e)) (h : Mp P k kv vv w b l) :
    ∃ w', (Instr.range t (.map (some b))).run P w = .ok (.pointer (some ⟨w.heap.size, 0, none⟩)) w' ∧ Rg P k kv vv w' b w.heap.size l l ∧ Below w.heap.size w w' ∧ w'.heap.size = w.heap.size + 1 := by
  have hlt := h.lt
  obtain ⟨es, clock, hb, hs, hk, he⟩ := h
  refine ⟨_, run_range_map w t k e b es clock ht hb, ⟨es, clock, clock, #[], clock, (Below.heap_alloc w _ b hlt).trans hb, hs, hk, he, heap_alloc_new w _, hs.1, Nat.le_refl _, Nat.le_refl _, ?_⟩, bl_alloc (Below.refl _ _) _, by simp⟩
  simp only [leftOf, Array.toList_filter]
  rw [List.filter_eq_self.2 (by simp)]
  exact he
theorem filter_split {es : List MapEntry} {pre post : List MapEntry} {e : MapEntry} (hn : (es.map (·.born)).Nodup) (h : es = pre ++ e :: post) : es.filter (fun x => !(x.born == e.born)) = pre ++ post := by
  subst h
  rw [List.map_append, List.map_cons, List.nodup_append, List.nodup_cons] at hn
  obtain ⟨_, ⟨h2, _⟩, h3⟩ := hn
  rw [List.filter_append, List.filter_cons]
  simp only [beq_self_eq_true, Bool.not_true, Bool.false_eq_true, if_false]
  rw [List.filter_eq_self.2, List.filter_eq_self.2]
  · intro x hx
    simp only [Bool.not_eq_true', beq_eq_false_iff_ne, ne_eq]
    intro e1
    exact h2 (List.mem_map.2 ⟨x, hx, e1⟩)
  · intro x hx
    simp only [Bool.not_eq_true', beq_eq_false_iff_ne, ne_eq]
    intro e1
    exact h3 x.born (List.mem_map.2 ⟨x, hx, rfl⟩) e.born (by simp) e1
omit [DecidableEq K] in
theorem Rg.next {r : Nat} {left : List (K × V)} (h : Rg P k kv vv w b r l left) (ty : TypeId) :
    (left = [] ∧ (Instr.next (.pointer (some ⟨r, 0, none⟩)) false ty).run P w = .ok (.tuple #[.bool false]) w) ∨
    ∃ pre p post w', left = pre ++ p :: post ∧ (Instr.next (.pointer (some ⟨r, 0, none⟩)) false ty).run P w = .ok (.tuple #[.bool true, kv p.1, vv p.2]) w' ∧ Rg P k kv vv w' b r l (pre ++ post) ∧ Kept (· = r) w w' ∧ w'.heap.size = w.heap.size ∧
      (Instr.entry (.pointer (some ⟨r, 0, none⟩))).run P w' = .ok (.tuple #[kv p.1, vv p.2]) w' := by
  have hne := h.ne
  obtain ⟨es, clock, since, seen, c0, hb, hs, hk, he, hr, hold, hsc, hsk, hl⟩ := h
  rcases run_next_at (P := P) w ty r b since c0 seen es clock hr hb hold hsc with ⟨h0, hrun⟩ | ⟨e, hel, w1, hal, hrun⟩
  · refine Or.inl ⟨?_, hrun⟩
    have : (leftOf es seen).toList = [] := by simpa using h0
    rw [this] at hl
    simpa using hl.symm
  · obtain ⟨hem, hes⟩ := mem_left hel
    obtain ⟨pre', post', hsp⟩ := List.append_of_mem hel
    have hl' := hl
    rw [hsp, List.map_append, List.map_cons] at hl'
    obtain ⟨pre, r1, hl1, hpre, hr1⟩ := List.map_eq_append_iff.1 hl'.symm
    obtain ⟨p, post, hr2, hp, hpost⟩ := List.map_eq_cons_iff.1 hr1
    simp only [Prod.mk.injEq] at hp
    subst hr2 hl1
    have hr1 : w1.heap[r]? = some (.mapIter (some b) since seen c0) := by rcases hal with rfl | rfl <;> exact hr
    have hb1 : w1.heap[b]? = some (.map es clock) := by rcases hal with rfl | rfl <;> exact hb
    have hset := heap_set (o' := .mapIter (some b) since (seen.push e.born) clock) hr1
    have hb' : (setBlock w1 r (.mapIter (some b) since (seen.push e.born) clock)).heap[b]? = some (.map es clock) := (hset.2 b (fun e1 => hne e1.symm)).trans hb1
    have hst := (stamped_iff es clock).1 hs
    refine Or.inr ⟨pre, p, post, _, rfl, ?_, ⟨es, clock, since, seen.push e.born, clock, hb', hs, hk, he, hset.1, hold, hsk, hsk, ?_⟩, ?_, ?_, ?_⟩
    · rw [hp.1, hp.2]; exact hrun
    · have e1 : (leftOf es (seen.push e.born)).toList = (leftOf es seen).toList.filter (fun x => !(x.born == e.born)) := by
        unfold leftOf
        rw [Array.toList_filter, Array.toList_filter, List.filter_filter]
        refine List.filter_congr fun x _ => ?_
        rw [contains_push]
        cases seen.contains x.born <;> cases (x.born == e.born) <;> rfl
      have hnd : ((leftOf es seen).toList.map (·.born)).Nodup := by
        refine List.Sublist.nodup (List.Sublist.map _ ?_) hst.2.1
        unfold leftOf
        rw [Array.toList_filter]
        exact List.filter_sublist
      rw [e1, filter_split hnd hsp, List.map_append, List.map_append, hpre, hpost]
    · rcases hal with rfl | rfl <;> exact ⟨rfl, rfl, rfl, by simp [setBlock], fun i _ hi => hset.2 i hi⟩
    · rcases hal with rfl | rfl <;> simp [setBlock]
    · rw [hp.1, hp.2]; exact run_entry_at _ r b since seen es clock e hset.1 hb' hem hst.2.1
end
end Go.Proofs.YtebeknnjjoobnaaDoor
