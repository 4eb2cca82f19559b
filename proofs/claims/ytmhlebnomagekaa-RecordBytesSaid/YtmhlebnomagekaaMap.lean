/- Maps with plain keys, entry by entry: what a look-up, a store, a delete, a length and a clone do to a list of pairs. -/
import Derived.Test.YtmhlebnomagekaaKit
import Derived.Maps.OwnSet
import Derived.Maps.OwnOps
import Derived.KernelRfl
set_option linter.unusedVariables false
set_option linter.unusedSectionVars false
set_option linter.unusedSimpArgs false
namespace Go.Proofs.Ytmhlebnomagekaa
open Go.RowKit Go.Proofs.YtmhlebnomagekaaW.PrintWords

/-- block b of w is a map that holds just these pairs, in this order -/
def Born (es : Array MapEntry) (clock : Nat) : Prop := (∀ x ∈ es.toList, x.born < clock) ∧ (es.toList.map (·.born)).Nodup
def MapIs (w : World) (b : Nat) (kv : List (Value × Value)) : Prop := ∃ es clock, w.heap[b]? = some (.map es clock) ∧ Born es clock ∧ es.toList.map (fun e => (e.key, e.val)) = kv
theorem born_empty (c : Nat) : Born #[] c := ⟨by simp, by simp⟩
theorem born_push {es : Array MapEntry} {clock : Nat} (h : Born es clock) (k v : Value) : Born (es.push { key := k, val := v, born := clock }) (clock + 1) := by
  refine ⟨?_, ?_⟩
  · intro x hx
    simp only [Array.toList_push, List.mem_append, List.mem_singleton] at hx
    rcases hx with hx | rfl
    · exact Nat.lt_succ_of_lt (h.1 x hx)
    · exact Nat.lt_succ_self _
  · simp only [Array.toList_push, List.map_append, List.map_cons, List.map_nil]
    rw [List.nodup_append]
    refine ⟨h.2, by simp, ?_⟩
    intro a ha b hb
    simp at hb
    subst hb
    obtain ⟨x, hx, rfl⟩ := List.mem_map.1 ha
    have := h.1 x hx
    omega
theorem born_modify {es : Array MapEntry} {clock : Nat} (h : Born es clock) (i : Nat) (f : MapEntry → MapEntry) (hf : ∀ e, (f e).born = e.born) : Born (es.modify i f) clock := by
  have hm : (es.modify i f).toList.map (·.born) = es.toList.map (·.born) := by
    apply List.ext_getElem?
    intro j
    simp only [List.getElem?_map, Array.getElem?_toList, Array.getElem?_modify]
    by_cases hij : i = j
    · subst hij; cases es[i]? <;> simp [hf]
    · simp [hij]
  refine ⟨?_, by rw [hm]; exact h.2⟩
  intro x hx
  have : x.born ∈ (es.modify i f).toList.map (·.born) := List.mem_map_of_mem hx
  rw [hm] at this
  obtain ⟨y, hy, hyx⟩ := List.mem_map.1 this
  rw [← hyx]; exact h.1 y hy
theorem born_erase {es : Array MapEntry} {clock : Nat} (h : Born es clock) (i : Nat) : Born (es.eraseIdxIfInBounds i) clock := by
  have hs : (es.eraseIdxIfInBounds i).toList.Sublist es.toList := by
    unfold Array.eraseIdxIfInBounds
    split
    · simp only [Array.toList_eraseIdx]; exact List.eraseIdx_sublist _ _
    · exact List.Sublist.refl _
  exact ⟨fun x hx => h.1 x (hs.subset hx), (hs.map _).nodup h.2⟩

/-- w with other entries in block b, if that is a map -/
def setMap (w : World) (b : Nat) (es : Array MapEntry) (c : Nat) : World := { w with heap := w.heap.modify b fun | .map _ _ => .map es c | o => o }

theorem setMap_heap_ne {w : World} {b k : Nat} {es : Array MapEntry} {c : Nat} (h : k ≠ b) : (setMap w b es c).heap[k]? = w.heap[k]? := by
  simp only [setMap, Array.getElem?_modify]; rw [if_neg (by omega)]
theorem setMap_heap_eq {w : World} {b : Nat} {es es0 : Array MapEntry} {c c0 : Nat} (h : w.heap[b]? = some (.map es0 c0)) : (setMap w b es c).heap[b]? = some (.map es c) := by
  simp [setMap, Array.getElem?_modify, h]
theorem setMap_size (w : World) (b : Nat) (es : Array MapEntry) (c : Nat) : (setMap w b es c).heap.size = w.heap.size := by simp [setMap]
theorem setMap_cell (w : World) (b : Nat) (es : Array MapEntry) (c : Nat) (a : Addr) : (setMap w b es c).cell? a = w.cell? a := by
  simp only [World.cell?, setMap, Array.getElem?_modify]
  by_cases h : b = a.block
  · rw [if_pos h]
    cases hb : w.heap[a.block]? with
    | none => rfl
    | some o => cases o <;> rfl
  · rw [if_neg h]
theorem setMap_frozen (w : World) (b : Nat) (es : Array MapEntry) (c : Nat) (a : Addr) : (setMap w b es c).frozen? a = w.frozen? a := by
  simp only [World.frozen?, setMap, Array.getElem?_modify]
  by_cases h : b = a.block
  · rw [if_pos h]
    cases hb : w.heap[a.block]? with
    | none => rfl
    | some o => cases o <;> rfl
  · rw [if_neg h]
theorem setMap_setCell (w : World) (b : Nat) (es : Array MapEntry) (c : Nat) (a : Addr) (v : Value) : (setMap w b es c).setCell a v = setMap (w.setCell a v) b es c := by
  unfold setMap World.setCell
  congr 1
  apply Array.ext_getElem?
  intro i
  simp only [Array.getElem?_modify]
  by_cases h1 : a.block = i <;> by_cases h2 : b = i <;> simp [h1, h2]
  all_goals (cases w.heap[i]? with
    | none => rfl
    | some o => cases o <;> rfl)
theorem setMap_drewN (w : World) (b : Nat) (es : Array MapEntry) (c n : Nat) : setMap (w.drewN n) b es c = (setMap w b es c).drewN n := rfl
theorem setMap_eq {w : World} {b : Nat} {es0 : Array MapEntry} {c0 : Nat} (h : w.heap[b]? = some (.map es0 c0)) (es : Array MapEntry) (c : Nat) :
    ({ w with heap := w.heap.setIfInBounds b (.map es c) } : World) = setMap w b es c := by
  unfold setMap
  congr 1
  apply Array.ext_getElem?
  intro i
  have hlt : b < w.heap.size := (Array.getElem?_eq_some_iff.1 h).1
  simp only [Array.getElem?_modify, Array.getElem?_setIfInBounds]
  by_cases hi : b = i
  · subst hi; simp only [if_true, hlt]; rw [h]; rfl
  · simp [hi]

/-! ### what keeps a map -/
theorem MapIs.lt {w : World} {b : Nat} {kv : List (Value × Value)} (h : MapIs w b kv) : b < w.heap.size := by
  obtain ⟨es, c, hb, _⟩ := h; exact (Array.getElem?_eq_some_iff.1 hb).1
theorem MapIs.move {w w' : World} {b : Nat} {kv : List (Value × Value)} (h : MapIs w b kv) (he : w'.heap[b]? = w.heap[b]?) : MapIs w' b kv := by
  obtain ⟨es, c, hb, hn, hk⟩ := h; exact ⟨es, c, he.trans hb, hn, hk⟩
theorem MapIs.setCell {w : World} {b : Nat} {kv : List (Value × Value)} (h : MapIs w b kv) (a : Addr) (v : Value) : MapIs (w.setCell a v) b kv := by
  obtain ⟨es, c, hb, hn, hk⟩ := h
  refine ⟨es, c, ?_, hn, hk⟩
  simp only [World.setCell, Array.getElem?_modify]
  by_cases ha : a.block = b
  · rw [if_pos ha, hb]; rfl
  · rw [if_neg ha]; exact hb
theorem MapIs.alloc {w : World} {b : Nat} {kv : List (Value × Value)} (h : MapIs w b kv) (o : Obj) : MapIs (w.alloc o) b kv := h.move (Below.heap_alloc w o b h.lt)
theorem MapIs.drewN {w : World} {b : Nat} {kv : List (Value × Value)} (h : MapIs w b kv) (n : Nat) : MapIs (w.drewN n) b kv := h
theorem MapIs.drew {w : World} {b : Nat} {kv : List (Value × Value)} (h : MapIs w b kv) : MapIs w.drew b kv := h
theorem MapIs.more {w : World} {b : Nat} {kv : List (Value × Value)} (h : MapIs w b kv) (os : Array Obj) (d : Nat) : MapIs (more w os d) b kv := h.move ((more_below w os d).block b h.lt)
theorem MapIs.below {w w' : World} {b : Nat} {kv : List (Value × Value)} (h : MapIs w b kv) (hb : Below w.heap.size w w') : MapIs w' b kv := h.move (hb.block b h.lt)
theorem MapIs.setMap_ne {w : World} {b b' : Nat} {kv : List (Value × Value)} (h : MapIs w b kv) (es : Array MapEntry) (c : Nat) (hne : b ≠ b') : MapIs (setMap w b' es c) b kv := h.move (setMap_heap_ne hne)
theorem MapIs.made (w : World) : MapIs (w.alloc (.map #[] 0)) w.heap.size [] := ⟨#[], 0, by show (w.heap.push _)[w.heap.size]? = _; simp, born_empty 0, rfl⟩

/-! ### plain keys -/
/-- a key type whose values are told apart by looking -/
structure PlainKey (P : Program) (kt : TypeId) (K : Type) [DecidableEq K] (ek : K → Value) : Prop where
  chk : ∀ (e : Bool) (w : World) (k : K), (Instr.checkKey e 10000 kt (ek k)).run P w = .ok () w
  find : ∀ (w : World) (k : K) (es : List MapEntry) (ks : List K), es.map (·.key) = ks.map ek → (Instr.findKey kt (ek k) es).run P w = .ok ((ks.findIdx? (· == k)).bind fun i => (es[i]?).map fun e => (i, e.val)) w
  stay : ∀ (w : World) (k : K), (Instr.keyThatStays (ek k) (ek k)).run P w = .ok (ek k) w

theorem findNow_plain {K : Type} [DecidableEq K] {ek : K → Value} {kind : TypeDesc} (hs : ∀ a b, Instr.sameNow kind (ek a) (ek b) = some (decide (b = a))) (k : K) :
    ∀ (es : List MapEntry) (ks : List K) (i : Nat), es.map (·.key) = ks.map ek → Instr.findNow kind (ek k) es i = some ((ks.findIdx? (· == k)).bind fun j => (es[j]?).map fun e => (i + j, e.val)) := by
  intro es
  induction es with
  | nil => intro ks i h; cases ks with | nil => rfl | cons a l => simp at h
  | cons e es ih =>
    intro ks i h
    cases ks with
    | nil => simp at h
    | cons a l =>
      simp only [List.map_cons, List.cons.injEq] at h
      obtain ⟨h1, h2⟩ := h
      unfold Instr.findNow
      rw [h1, hs]
      by_cases hk : a = k
      · subst hk; simp [List.findIdx?_cons]
      · have hk' : (a == k) = false := by simpa using hk
        simp only [hk, decide_false]
        rw [ih l (i + 1) h2]
        simp only [List.findIdx?_cons, hk', Bool.false_eq_true, if_false]
        cases hf : List.findIdx? (fun x => x == k) l with
        | none => simp
        | some j => simp; cases es[j]? <;> simp <;> omega

theorem string_key {P : Program} {kt : TypeId} (h : P.underlying kt = some .string) : PlainKey P kt ByteArray Value.string where
  chk e w k := by
    show (Instr.checkKey e (9999 + 1) kt (.string k)).run P w = _
    unfold Instr.checkKey; simp [run_underlying h]
  find w k es ks hk := by
    unfold Instr.findKey
    simp only [Sem.run_bind, run_underlying h, Result.andThen]
    rw [findNow_plain (kind := .string) (ek := Value.string) (fun a b => by show some (a == b) = some (decide (b = a)); congr 1; rw [Bool.eq_iff_iff, MapKept.bytes_beq, decide_eq_true_iff]; exact eq_comm) k es ks 0 hk]
    simp
  stay w k := by
    unfold Instr.keyThatStays
    rw [if_pos (by show Instr.sameBits 10000 (.string k) (.string k) = true; rw [Instr.sameBits]; exact (MapKept.bytes_beq _ _).2 rfl)]
    rfl
theorem int_key {P : Program} {kt : TypeId} {q : IntKind} (h : P.underlying kt = some (.int q)) : PlainKey P kt Int (Value.int q) where
  chk e w k := by
    show (Instr.checkKey e (9999 + 1) kt (.int q k)).run P w = _
    unfold Instr.checkKey; simp [run_underlying h]
  find w k es ks hk := by
    unfold Instr.findKey
    simp only [Sem.run_bind, run_underlying h, Result.andThen]
    rw [findNow_plain (kind := .int q) (ek := Value.int q) (fun a b => by simp only [Instr.sameNow, if_true]; congr 1; rw [Bool.eq_iff_iff, beq_iff_eq, decide_eq_true_iff]; exact eq_comm) k es ks 0 hk]
    simp
  stay w k := by
    unfold Instr.keyThatStays
    rw [if_pos (by show Instr.sameBits 10000 (.int q k) (.int q k) = true; rw [Instr.sameBits]; simp)]
    rfl

/-! ### a map of pairs -/
section
variable {P : Program} {kt et mt : TypeId} {K V : Type} [DecidableEq K] {ek : K → Value} {ev : V → Value}
/-- block b holds just these pairs; no key twice -/
def MapOf (ek : K → Value) (ev : V → Value) (w : World) (b : Nat) (l : List (K × V)) : Prop := MapIs w b (l.map fun p => (ek p.1, ev p.2)) ∧ (l.map (·.1)).Nodup
def kvGet (l : List (K × V)) (k : K) : Option V := (l.find? (·.1 == k)).map (·.2)
def kvPut (l : List (K × V)) (k : K) (v : V) : List (K × V) := if (kvGet l k).isSome then l.map (fun p => if p.1 == k then (k, v) else p) else l ++ [(k, v)]
def kvDel (l : List (K × V)) (k : K) : List (K × V) := l.filter (fun p => !(p.1 == k))

theorem find_index (l : List (K × V)) (k : K) (es : List MapEntry) (hes : es.map (fun e => (e.key, e.val)) = l.map fun p => (ek p.1, ev p.2)) :
    ((l.map (·.1)).findIdx? (· == k)).bind (fun i => (es[i]?).map fun e => (i, e.val)) =
      ((l.findIdx? (·.1 == k)).bind fun i => (l[i]?).map fun p => (i, ev p.2)) := by
  have h1 : (l.map (·.1)).findIdx? (· == k) = l.findIdx? (·.1 == k) := by simp [List.findIdx?_map, Function.comp_def]
  rw [h1]
  cases hf : l.findIdx? (·.1 == k) with
  | none => rfl
  | some i =>
    have hh := congrArg (·[i]?) hes
    simp only [List.getElem?_map] at hh
    simp only [Option.bind_some]
    cases he : es[i]? <;> cases hl : l[i]? <;> simp [he, hl] at hh ⊢
    exact hh.2
theorem kvGet_index (l : List (K × V)) (k : K) : kvGet l k = (l.findIdx? (·.1 == k)).bind fun i => (l[i]?).map (·.2) := by
  unfold kvGet
  induction l with
  | nil => rfl
  | cons a l ih =>
    simp only [List.find?_cons, List.findIdx?_cons]
    cases hk : a.1 == k with
    | true => simp
    | false =>
      simp only [Bool.false_eq_true, if_false, ih]
      cases List.findIdx? (fun x => x.1 == k) l <;> simp

theorem MapOf.keys {w : World} {b : Nat} {l : List (K × V)} {es : Array MapEntry} {c : Nat} (hb : w.heap[b]? = some (.map es c)) (hes : es.toList.map (fun e => (e.key, e.val)) = l.map fun p => (ek p.1, ev p.2)) : es.toList.map (·.key) = (l.map (·.1)).map ek := by
  have := congrArg (List.map Prod.fst) hes
  simpa [List.map_map, Function.comp_def] using this

/-- 'm[k]', with or without 'ok' -/
theorem run_lookup (KL : PlainKey P kt K ek) (ht : P.underlying mt = some (.map kt et)) {w : World} {b : Nat} {l : List (K × V)} (h : MapOf ek ev w b l) {z : Value} (hz : (zeroValue et).run P w = .ok z w) (k : K) (c : Bool) :
    (Instr.lookup mt (.map (some b)) (ek k) c).run P w = .ok (if c then .tuple #[((kvGet l k).map ev).getD z, .bool (kvGet l k).isSome] else ((kvGet l k).map ev).getD z) w := by
  obtain ⟨⟨es, cl, hb, hbn, hes⟩, hnd⟩ := h
  have hf := KL.find w k es.toList _ (MapOf.keys hb hes)
  rw [find_index l k es.toList hes] at hf
  unfold Instr.lookup
  simp only [Sem.run_bind, run_underlying ht, Result.andThen, MapKept.run_getObj_map hb, KL.chk, hf, Sem.run_pure]
  rw [kvGet_index]
  cases hi : l.findIdx? (·.1 == k) with
  | none => simp [hz]
  | some i =>
    simp only [Option.bind_some]
    cases hl : l[i]? with
    | none =>
      exfalso
      rw [List.findIdx?_eq_some_iff_getElem] at hi
      obtain ⟨h1, _⟩ := hi
      rw [List.getElem?_eq_getElem h1] at hl; cases hl
    | some p => simp

theorem kvGet_isSome (l : List (K × V)) (k : K) : (kvGet l k).isSome = (l.findIdx? (·.1 == k)).isSome := by
  rw [kvGet_index]
  cases hf : l.findIdx? (·.1 == k) with
  | none => rfl
  | some i =>
    rw [List.findIdx?_eq_some_iff_getElem] at hf
    obtain ⟨h1, _⟩ := hf
    simp [List.getElem?_eq_getElem h1]
theorem kvGet_mem {l : List (K × V)} {k : K} {v : V} (h : kvGet l k = some v) : (k, v) ∈ l := by
  unfold kvGet at h
  rw [Option.map_eq_some_iff] at h
  obtain ⟨p, hp, rfl⟩ := h
  have h1 := List.mem_of_find?_eq_some hp
  have h2 := List.find?_some hp
  have : p.1 = k := by simpa using h2
  subst this; exact h1
theorem kvGet_none {l : List (K × V)} {k : K} : kvGet l k = none ↔ k ∉ l.map (·.1) := by
  unfold kvGet
  simp only [Option.map_eq_none_iff, List.find?_eq_none, List.mem_map, not_exists, not_and]
  constructor
  · intro h p hp e; exact h p hp (by simp [e])
  · intro h p hp e; exact h p hp (by simpa using e)
theorem kvGet_of_mem {l : List (K × V)} (hnd : (l.map (·.1)).Nodup) {k : K} {v : V} (h : (k, v) ∈ l) : kvGet l k = some v := by
  cases hg : kvGet l k with
  | none => exact absurd (List.mem_map_of_mem (f := (·.1)) h) (kvGet_none.1 hg)
  | some u =>
    have hm := kvGet_mem hg
    congr 1
    induction l with
    | nil => cases h
    | cons a l ih =>
      simp only [List.map_cons, List.nodup_cons] at hnd
      rcases List.mem_cons.1 h with h | h <;> rcases List.mem_cons.1 hm with hm | hm
      · rw [← h] at hm; simpa using hm
      · exact absurd (List.mem_map_of_mem (f := (·.1)) hm) (by rw [← h] at hnd; exact hnd.1)
      · exact absurd (List.mem_map_of_mem (f := (·.1)) h) (by rw [← hm] at hnd; exact hnd.1)
      · have hg' : kvGet l k = some u := by
          unfold kvGet at hg ⊢
          rw [List.find?_cons] at hg
          have : (a.1 == k) = false := by
            apply Bool.eq_false_iff.2
            intro e
            have e' : a.1 = k := by simpa using e
            exact hnd.1 (by rw [e']; exact List.mem_map_of_mem (f := (·.1)) h)
          rw [this] at hg; exact hg
        exact ih hnd.2 h hg' hm
theorem map_modify_nodup {l : List (K × V)} (hnd : (l.map (·.1)).Nodup) {k : K} {i : Nat} (hi : l.findIdx? (·.1 == k) = some i) (v : V) : l.modify i (fun _ => (k, v)) = l.map (fun p => if p.1 == k then (k, v) else p) := by
  rw [List.findIdx?_eq_some_iff_getElem] at hi
  obtain ⟨h1, h2, h3⟩ := hi
  apply List.ext_getElem?
  intro j
  rw [List.getElem?_modify, List.getElem?_map]
  by_cases hj : i = j
  · subst hj
    have e2 : l[i].1 = k := by simpa using h2
    simp [List.getElem?_eq_getElem h1, e2]
  · cases hl : l[j]? with
    | none => rfl
    | some p =>
      have hlt : j < l.length := (List.getElem?_eq_some_iff.1 hl).1
      have hp : l[j] = p := (List.getElem?_eq_some_iff.1 hl).2
      have : (p.1 == k) = false := by
        apply Bool.eq_false_iff.2
        intro e
        have e1 : p.1 = k := by simpa using e
        have e2 : l[i].1 = k := by simpa using h2
        have := (List.getElem_inj (i := i) (j := j) (h₀ := by simpa using h1) (h₁ := by simpa using hlt) hnd).1 (by simp [e2, hp, e1])
        exact hj this
      simp only [this, hj, if_false, Option.map_some, Bool.false_eq_true]; rfl
theorem kvPut_nodup {l : List (K × V)} (hnd : (l.map (·.1)).Nodup) (k : K) (v : V) : ((kvPut l k v).map (·.1)).Nodup := by
  unfold kvPut
  split
  · have : (l.map fun p => if p.1 == k then (k, v) else p).map (·.1) = l.map (·.1) := by
      rw [List.map_map]
      apply List.map_congr_left
      intro p _
      simp only [Function.comp_def]
      split
      · rename_i h; simpa using (by simpa using h : p.1 = k).symm
      · rfl
    rw [this]; exact hnd
  · rename_i h
    have hn : k ∉ l.map (·.1) := kvGet_none.1 (by simpa using h)
    rw [List.map_append, List.nodup_append]
    refine ⟨hnd, by simp, ?_⟩
    intro a ha b hb
    simp at hb
    subst hb
    rintro rfl
    exact hn ha
theorem kvDel_nodup {l : List (K × V)} (hnd : (l.map (·.1)).Nodup) (k : K) : ((kvDel l k).map (·.1)).Nodup :=
  List.Nodup.sublist (List.Sublist.map _ (List.filter_sublist)) hnd

/-- 'm[k] = v' -/
theorem run_mapUpdate (KL : PlainKey P kt K ek) (ht : P.underlying mt = some (.map kt et)) {w : World} {b : Nat} {l : List (K × V)} (h : MapOf ek ev w b l) (k : K) (v : V) :
    ∃ es c, (Instr.mapUpdate mt (.map (some b)) (ek k) (ev v)).run P w = .ok () (setMap w b es c) ∧ MapOf ek ev (setMap w b es c) b (kvPut l k v) := by
  obtain ⟨⟨es, cl, hb, hbn, hes⟩, hnd⟩ := h
  have hf := KL.find w k es.toList _ (MapOf.keys hb hes)
  rw [find_index l k es.toList hes] at hf
  unfold Instr.mapUpdate
  simp only [Sem.run_bind, run_underlying ht, Result.andThen, MapKept.run_getObj_map hb, KL.chk, hf]
  have hsome := kvGet_isSome l k
  cases hi : l.findIdx? (·.1 == k) with
  | none =>
    simp only [Option.bind_none, MapKept.run_setObj_map _ hb]
    rw [setMap_eq hb]
    refine ⟨_, _, rfl, ⟨_, _, setMap_heap_eq hb, born_push hbn _ _, ?_⟩, kvPut_nodup hnd k v⟩
    rw [hi] at hsome
    unfold kvPut
    rw [if_neg (by simpa using hsome)]
    simp [hes]
  | some i =>
    have hi' := hi
    rw [List.findIdx?_eq_some_iff_getElem] at hi'
    obtain ⟨h1, h2, _⟩ := hi'
    have hkey : ((es[i]?).map (·.key)).getD (ek k) = ek k := by
      have hh := congrArg (·[i]?) (MapOf.keys hb hes)
      simp only [List.getElem?_map, List.getElem?_eq_getElem h1] at hh
      have e2 : l[i].1 = k := by simpa using h2
      cases he : es[i]? with
      | none => rfl
      | some e => simp [he, e2] at hh ⊢; exact hh
    simp only [Option.bind_some, List.getElem?_eq_getElem h1, Option.map_some, hkey, Sem.run_bind, Result.andThen, KL.stay, MapKept.run_setObj_map _ hb]
    rw [setMap_eq hb]
    refine ⟨_, _, rfl, ⟨_, _, setMap_heap_eq hb, born_modify hbn _ _ (fun _ => rfl), ?_⟩, kvPut_nodup hnd k v⟩
    rw [hi] at hsome
    unfold kvPut
    rw [if_pos (by simpa using hsome), ← map_modify_nodup hnd hi]
    apply List.ext_getElem?
    intro j
    have hh := congrArg (·[j]?) hes
    simp only [List.getElem?_map] at hh ⊢
    rw [List.getElem?_modify]
    have hm : (es.modify i fun e => { e with key := ek k, val := ev v }).toList[j]? = if i = j then (es.toList[j]?).map (fun e => { e with key := ek k, val := ev v }) else es.toList[j]? := by
      rw [Array.getElem?_toList, Array.getElem?_modify]
      split <;> simp
    rw [hm]
    by_cases hj : i = j
    · subst hj; simp [List.getElem?_eq_getElem h1] at hh ⊢
      obtain ⟨e, he, _⟩ := hh
      exact ⟨e, he⟩
    · simp only [hj, if_false]; rw [hh]; cases l[j]? <;> rfl

/-- 'delete(m, k)' -/
theorem run_delete (KL : PlainKey P kt K ek) (ht : P.underlying mt = some (.map kt et)) {w : World} {b : Nat} {l : List (K × V)} (h : MapOf ek ev w b l) (k : K) (ty u : TypeId) :
    ∃ es c, (Builtin.delete_ #[mt, u] ty #[.map (some b), ek k]).run P w = .ok (.tuple #[]) (setMap w b es c) ∧ MapOf ek ev (setMap w b es c) b (kvDel l k) := by
  obtain ⟨⟨es, cl, hb, hbn, hes⟩, hnd⟩ := h
  have hf := KL.find w k es.toList _ (MapOf.keys hb hes)
  rw [find_index l k es.toList hes] at hf
  unfold Builtin.delete_
  simp only [List.size_toArray, List.length_cons, List.getElem?_toArray, List.getElem?_cons_zero, List.getElem?_cons_succ, Sem.run_bind, run_underlying ht, Result.andThen, MapKept.run_getObj_map hb, KL.chk, hf]
  cases hi : l.findIdx? (·.1 == k) with
  | none =>
    simp only [Option.bind_none, Sem.run_bind, Result.andThen, MapKept.run_setObj_map _ hb, Sem.run_pure]
    rw [setMap_eq hb]
    refine ⟨_, _, rfl, ⟨_, _, setMap_heap_eq hb, hbn, ?_⟩, kvDel_nodup hnd k⟩
    rw [hes]
    congr 1
    unfold kvDel
    rw [List.filter_eq_self.2]
    intro p hp
    rw [List.findIdx?_eq_none_iff] at hi
    simp [hi p hp]
  | some i =>
    have hi' := hi
    rw [List.findIdx?_eq_some_iff_getElem] at hi'
    obtain ⟨h1, h2, _⟩ := hi'
    simp only [Option.bind_some, List.getElem?_eq_getElem h1, Option.map_some, Sem.run_bind, Result.andThen, MapKept.run_setObj_map _ hb, Sem.run_pure]
    rw [setMap_eq hb]
    refine ⟨_, _, rfl, ⟨_, _, setMap_heap_eq hb, born_erase hbn _, ?_⟩, kvDel_nodup hnd k⟩
    have hd : kvDel l k = l.eraseIdx i := by
      unfold kvDel
      have e2 : l[i].1 = k := by simpa using h2
      have hno : ∀ j (hj : j < l.length), j ≠ i → (l[j].1 == k) = false := by
        intro j hj hne
        apply Bool.eq_false_iff.2
        intro e
        have e1 : l[j].1 = k := by simpa using e
        exact hne ((List.getElem_inj (i := j) (j := i) (h₀ := by simpa using hj) (h₁ := by simpa using h1) hnd).1 (by simp [e2, e1]))
      rw [List.eraseIdx_eq_take_drop_succ]
      conv => lhs; rw [← List.take_append_drop i l, List.drop_eq_getElem_cons h1]
      rw [List.filter_append, List.filter_cons]
      have hneg : (!(l[i].1 == k)) = false := by simp [e2]
      rw [hneg]
      simp only [Bool.false_eq_true, if_false]
      rw [List.filter_eq_self.2, List.filter_eq_self.2]
      · intro p hp
        obtain ⟨j, hj, rfl⟩ := List.mem_iff_getElem.1 hp
        simp only [List.length_drop] at hj
        rw [List.getElem_drop]
        rw [hno _ (by omega) (by omega)]; rfl
      · intro p hp
        obtain ⟨j, hj, rfl⟩ := List.mem_iff_getElem.1 hp
        simp only [List.length_take] at hj
        rw [List.getElem_take]
        rw [hno _ (by omega) (by omega)]; rfl
    rw [hd]
    have : (es.eraseIdxIfInBounds i).toList = es.toList.eraseIdx i := by simp
    rw [this, ChangeMaps.map_eraseIdx, hes, ChangeMaps.map_eraseIdx]


/-! ### the two halves of a store in an assignment -/
/-- block b is a map with an entry for k, of the stamp n; a store there makes it 'l with k ↦ v' -/
def EntryAt (ek : K → Value) (ev : V → Value) (w : World) (b : Nat) (l : List (K × V)) (k : K) (n : Nat) : Prop :=
  ∃ es c i e, w.heap[b]? = some (.map es c) ∧ Born es c ∧ es[i]? = some e ∧ e.born = n ∧ (l.map (·.1)).Nodup ∧ ∀ v, (es.modify i fun e => { e with val := ev v }).toList.map (fun e => (e.key, e.val)) = (kvPut l k v).map fun p => (ek p.1, ev p.2)
theorem run_mapEntry (KL : PlainKey P kt K ek) (ht : P.underlying mt = some (.map kt et)) {w : World} {b : Nat} {l : List (K × V)} (h : MapOf ek ev w b l) {z : Value} (hz : ∀ w, (zeroValue et).run P w = .ok z w) (k : K) :
    ∃ es c u n, (Instr.mapEntry mt (.map (some b)) (ek k)).run P w = .ok (.tuple #[u, .int .i64 (n : Nat)]) (setMap w b es c) ∧ EntryAt ek ev (setMap w b es c) b l k n := by
  obtain ⟨⟨es, cl, hb, hbn, hes⟩, hnd⟩ := h
  have hf := KL.find w k es.toList _ (MapOf.keys hb hes)
  rw [find_index l k es.toList hes] at hf
  unfold Instr.mapEntry
  simp only [Sem.run_bind, run_underlying ht, Result.andThen, MapKept.run_getObj_map hb, KL.chk, hf]
  have hsome := kvGet_isSome l k
  cases hi : l.findIdx? (·.1 == k) with
  | none =>
    simp only [Option.bind_none, Sem.run_bind, Result.andThen, hz, MapKept.run_setObj_map _ hb, Sem.run_pure]
    rw [setMap_eq hb]
    refine ⟨_, _, _, cl, rfl, _, _, es.size, _, setMap_heap_eq hb, born_push hbn _ _, by simp; rfl, rfl, hnd, ?_⟩
    intro v
    rw [hi] at hsome
    unfold kvPut
    rw [if_neg (by simpa using hsome)]
    rw [List.map_append, ← hes]
    apply List.ext_getElem?
    intro j
    simp only [List.getElem?_map, Array.getElem?_toList, Array.getElem?_modify, Array.getElem?_push, List.getElem?_append, List.length_map, Array.length_toList]
    by_cases h1 : j = es.size
    · subst h1; simp
    · by_cases h2 : j < es.size
      · simp [h1, h2, Ne.symm h1]
      · have h3 : es.size < j := by omega
        have h4 : j - es.size ≠ 0 := by omega
        simp only [h1, h2, Ne.symm h1, if_false, List.map_cons, List.map_nil]
        rw [Array.getElem?_eq_none (by omega), List.getElem?_eq_none (by simp; omega)]
        rfl
  | some i =>
    have hi' := hi
    rw [List.findIdx?_eq_some_iff_getElem] at hi'
    obtain ⟨h1, h2, _⟩ := hi'
    have e2 : l[i].1 = k := by simpa using h2
    obtain ⟨e, he, hek⟩ : ∃ e, es[i]? = some e ∧ e.key = ek k := by
      have hh := congrArg (·[i]?) (MapOf.keys hb hes)
      simp only [List.getElem?_map, List.getElem?_eq_getElem h1] at hh
      cases he : es[i]? with
      | none => simp [he] at hh
      | some e => simp [he, e2] at hh; exact ⟨e, rfl, hh⟩
    have hkey : ((es[i]?).map (·.key)).getD (ek k) = ek k := by rw [he]; exact hek
    simp only [Option.bind_some, List.getElem?_eq_getElem h1, Option.map_some, hkey, Sem.run_bind, Result.andThen, KL.stay, MapKept.run_setObj_map _ hb, Sem.run_pure]
    rw [setMap_eq hb]
    refine ⟨es.modify i fun e => { e with key := ek k }, cl, _, e.born, by simp [he, goInt]; rfl, es.modify i fun e => { e with key := ek k }, cl, i, { e with key := ek k }, setMap_heap_eq hb, born_modify hbn _ _ (fun _ => rfl), ?_, rfl, hnd, ?_⟩
    · rw [Array.getElem?_modify]; simp [he]
    intro v
    rw [hi] at hsome
    unfold kvPut
    rw [if_pos (by simpa using hsome), ← map_modify_nodup hnd hi]
    apply List.ext_getElem?
    intro j
    have hh := congrArg (·[j]?) hes
    simp only [List.getElem?_map] at hh ⊢
    simp only [Array.getElem?_toList, Array.getElem?_modify, List.getElem?_modify] at hh ⊢
    by_cases hj : i = j
    · subst hj; simp [he, List.getElem?_eq_getElem h1]
    · simp only [hj, if_false]; rw [hh]; cases l[j]? <;> rfl
theorem run_asInt' (n : Int) (w : World) : (asInt (.int .i64 n)).run P w = .ok n w := rfl
theorem run_entryStore {w : World} {b : Nat} {l : List (K × V)} {k : K} {n : Nat} (h : EntryAt ek ev w b l k n) (v : V) :
    ∃ es c, (Instr.entryStore mt (.map (some b)) (.int .i64 (n : Nat)) (ev v)).run P w = .ok () (setMap w b es c) ∧ MapOf ek ev (setMap w b es c) b (kvPut l k v) := by
  obtain ⟨es, c, i, e, hb, hbn, he, hn, hnd, hput⟩ := h
  have hidx : es.findIdx? (fun e => (e.born : Int) == ((n : Nat) : Int)) = some i := by
    rw [Array.findIdx?_eq_some_iff_getElem]
    have hlt : i < es.size := (Array.getElem?_eq_some_iff.1 he).1
    have hei : es[i] = e := (Array.getElem?_eq_some_iff.1 he).2
    refine ⟨hlt, by simp [hei, hn], ?_⟩
    intro j hj
    intro hc
    have h7 : ((es[j].born : Nat) : Int) = ((n : Nat) : Int) := by simpa using hc
    have hc' : es[j].born = n := by omega
    have := (List.getElem_inj (i := j) (j := i) (h₀ := by simp; omega) (h₁ := by simp; omega) hbn.2).1 (by simp [hc', hei, hn])
    omega
  unfold Instr.entryStore
  simp only [Sem.run_bind, Result.andThen, MapKept.run_getObj_map hb, run_asInt', Sem.run_pure, hidx, MapKept.run_setObj_map _ hb]
  rw [setMap_eq hb]
  exact ⟨_, _, rfl, ⟨_, _, setMap_heap_eq hb, born_modify hbn _ _ (fun _ => rfl), hput v⟩, kvPut_nodup hnd k v⟩

/-- 'len(m)' -/
theorem run_len (ht : P.underlying mt = some (.map kt et)) {w : World} {b : Nat} {l : List (K × V)} (h : MapOf ek ev w b l) (ty : TypeId) :
    (Builtin.len_ #[mt] ty #[.map (some b)]).run P w = .ok (.int .i64 l.length) w := by
  obtain ⟨⟨es, cl, hb, hbn, hes⟩, hnd⟩ := h
  have hl : es.size = l.length := by
    have := congrArg List.length hes
    simpa using this
  unfold Builtin.len_
  simp [run_underlying ht, MapKept.run_getObj_map hb, Result.andThen, hl, goInt]

/-! ### what keeps it -/
theorem MapOf.lt {w : World} {b : Nat} {l : List (K × V)} (h : MapOf ek ev w b l) : b < w.heap.size := h.1.lt
theorem MapOf.move {w w' : World} {b : Nat} {l : List (K × V)} (h : MapOf ek ev w b l) (he : w'.heap[b]? = w.heap[b]?) : MapOf ek ev w' b l := ⟨h.1.move he, h.2⟩
theorem MapOf.setCell {w : World} {b : Nat} {l : List (K × V)} (h : MapOf ek ev w b l) (a : Addr) (v : Value) : MapOf ek ev (w.setCell a v) b l := ⟨h.1.setCell a v, h.2⟩
theorem MapOf.alloc {w : World} {b : Nat} {l : List (K × V)} (h : MapOf ek ev w b l) (o : Obj) : MapOf ek ev (w.alloc o) b l := ⟨h.1.alloc o, h.2⟩
theorem MapOf.drewN {w : World} {b : Nat} {l : List (K × V)} (h : MapOf ek ev w b l) (n : Nat) : MapOf ek ev (w.drewN n) b l := h
theorem MapOf.drew {w : World} {b : Nat} {l : List (K × V)} (h : MapOf ek ev w b l) : MapOf ek ev w.drew b l := h
theorem MapOf.more {w : World} {b : Nat} {l : List (K × V)} (h : MapOf ek ev w b l) (os : Array Obj) (d : Nat) : MapOf ek ev (more w os d) b l := ⟨h.1.more os d, h.2⟩
theorem MapOf.below {w w' : World} {b : Nat} {l : List (K × V)} (h : MapOf ek ev w b l) (hb : Below w.heap.size w w') : MapOf ek ev w' b l := ⟨h.1.below hb, h.2⟩
theorem MapOf.setMap_ne {w : World} {b b' : Nat} {l : List (K × V)} (h : MapOf ek ev w b l) (es : Array MapEntry) (c : Nat) (hne : b ≠ b') : MapOf ek ev (setMap w b' es c) b l := ⟨h.1.setMap_ne es c hne, h.2⟩
theorem MapOf.made (w : World) : MapOf ek ev (w.alloc (.map #[] 0)) w.heap.size [] := ⟨MapIs.made w, List.nodup_nil⟩

/-! ### at the operation, for the walk -/
variable {w : World} {ops : Array Oper} {rest : List Oper} {o : Oper} {a : Act} {Q : Exit → Act → World → Prop} {b : Nat} {l : List (K × V)}
theorem wpList_kv_hit2 (KL : PlainKey P kt K ek) (ht : P.underlying mt = some (.map kt et)) (hg : o.guard = none) (m x : Operand) (hop : o.op = Op.lookup mt m x true) (hm : a.eval m = .map (some b)) (h : MapOf ek ev w b l)
    (z : Value) (hz : (zeroValue et).run P w = .ok z w) (k : K) (hx : a.eval x = ek k) (v : V) (hv : kvGet l k = some v) (hK : wpList P ops Q rest (a.put o.dst (.tuple #[ev v, .bool true])) w) : wpList P ops Q (o :: rest) a w := by
  refine wpList_plain hg fun K' hK' => ?_
  have hr := run_lookup KL ht h hz k true
  rw [hv] at hr
  unfold Oper.wp
  simp [execOp, hop, hm, hx, hr, Result.andThen]
  exact hK' _ _ hK
theorem wpList_kv_miss2 (KL : PlainKey P kt K ek) (ht : P.underlying mt = some (.map kt et)) (hg : o.guard = none) (m x : Operand) (hop : o.op = Op.lookup mt m x true) (hm : a.eval m = .map (some b)) (h : MapOf ek ev w b l)
    (z : Value) (hz : (zeroValue et).run P w = .ok z w) (k : K) (hx : a.eval x = ek k) (hv : kvGet l k = none) (hK : wpList P ops Q rest (a.put o.dst (.tuple #[z, .bool false])) w) : wpList P ops Q (o :: rest) a w := by
  refine wpList_plain hg fun K' hK' => ?_
  have hr := run_lookup KL ht h hz k true
  rw [hv] at hr
  unfold Oper.wp
  simp [execOp, hop, hm, hx, hr, Result.andThen]
  exact hK' _ _ hK
theorem wpList_kv_hit1 (KL : PlainKey P kt K ek) (ht : P.underlying mt = some (.map kt et)) (hg : o.guard = none) (m x : Operand) (hop : o.op = Op.lookup mt m x false) (hm : a.eval m = .map (some b)) (h : MapOf ek ev w b l)
    (z : Value) (hz : (zeroValue et).run P w = .ok z w) (k : K) (hx : a.eval x = ek k) (v : V) (hv : kvGet l k = some v) (hK : wpList P ops Q rest (a.put o.dst (ev v)) w) : wpList P ops Q (o :: rest) a w := by
  refine wpList_plain hg fun K' hK' => ?_
  have hr := run_lookup KL ht h hz k false
  rw [hv] at hr
  unfold Oper.wp
  simp [execOp, hop, hm, hx, hr, Result.andThen]
  exact hK' _ _ hK
theorem wpList_kv_miss1 (KL : PlainKey P kt K ek) (ht : P.underlying mt = some (.map kt et)) (hg : o.guard = none) (m x : Operand) (hop : o.op = Op.lookup mt m x false) (hm : a.eval m = .map (some b)) (h : MapOf ek ev w b l)
    (z : Value) (hz : (zeroValue et).run P w = .ok z w) (k : K) (hx : a.eval x = ek k) (hv : kvGet l k = none) (hK : wpList P ops Q rest (a.put o.dst z) w) : wpList P ops Q (o :: rest) a w := by
  refine wpList_plain hg fun K' hK' => ?_
  have hr := run_lookup KL ht h hz k false
  rw [hv] at hr
  unfold Oper.wp
  simp [execOp, hop, hm, hx, hr, Result.andThen]
  exact hK' _ _ hK
theorem wpList_kv_put (KL : PlainKey P kt K ek) (ht : P.underlying mt = some (.map kt et)) (hg : o.guard = none) (m x y : Operand) (hop : o.op = Op.mapUpdate mt m x y) (hm : a.eval m = .map (some b)) (h : MapOf ek ev w b l)
    (k : K) (hx : a.eval x = ek k) (v : V) (hy : a.eval y = ev v) (hK : ∀ es c, MapOf ek ev (setMap w b es c) b (kvPut l k v) → wpList P ops Q rest (a.put o.dst undef) (setMap w b es c)) : wpList P ops Q (o :: rest) a w := by
  refine wpList_plain hg fun K' hK' => ?_
  obtain ⟨es, c, hr, hm'⟩ := run_mapUpdate KL ht h k v
  unfold Oper.wp
  simp [execOp, hop, hm, hx, hy, hr, Result.andThen]
  exact hK' _ _ (hK es c hm')
theorem wpList_kv_del (KL : PlainKey P kt K ek) (ht : P.underlying mt = some (.map kt et)) (hg : o.guard = none) (m x : Operand) (u : TypeId) (hop : o.op = Op.call { callee := Callee.builtin Builtin.delete, args := #[m, x], argTypes := #[mt, u] }) (hm : a.eval m = .map (some b)) (h : MapOf ek ev w b l)
    (k : K) (hx : a.eval x = ek k) (hK : ∀ es c, MapOf ek ev (setMap w b es c) b (kvDel l k) → wpList P ops Q rest (a.put o.dst (.tuple #[])) (setMap w b es c)) : wpList P ops Q (o :: rest) a w := by
  refine wpList_plain hg fun K' hK' => ?_
  obtain ⟨es, c, hr, hm'⟩ := run_delete KL ht h k o.type u
  unfold Oper.wp
  simp [execOp, hop, resolve, invoke, builtin, hm, hx, hr, Result.andThen]
  exact hK' _ _ (hK es c hm')
theorem wpList_kv_entry (KL : PlainKey P kt K ek) (ht : P.underlying mt = some (.map kt et)) (hg : o.guard = none) (m x : Operand) (hop : o.op = Op.mapEntry mt m x) (hm : a.eval m = .map (some b)) (h : MapOf ek ev w b l)
    (z : Value) (hz : ∀ w, (zeroValue et).run P w = .ok z w) (k : K) (hx : a.eval x = ek k) (hK : ∀ es c u n, EntryAt ek ev (setMap w b es c) b l k n → wpList P ops Q rest (a.put o.dst (.tuple #[u, .int .i64 (n : Nat)])) (setMap w b es c)) : wpList P ops Q (o :: rest) a w := by
  refine wpList_plain hg fun K' hK' => ?_
  obtain ⟨es, c, u, n, hr, hm'⟩ := run_mapEntry KL ht h hz k
  unfold Oper.wp
  simp [execOp, hop, hm, hx, hr, Result.andThen]
  exact hK' _ _ (hK es c u n hm')
theorem wpList_kv_store (hg : o.guard = none) (m s y : Operand) (hop : o.op = Op.entryStore mt m s y) (hm : a.eval m = .map (some b)) (k : K) (n : Nat) (h : EntryAt ek ev w b l k n)
    (hs : a.eval s = .int .i64 (n : Nat)) (v : V) (hy : a.eval y = ev v) (hK : ∀ es c, MapOf ek ev (setMap w b es c) b (kvPut l k v) → wpList P ops Q rest (a.put o.dst undef) (setMap w b es c)) : wpList P ops Q (o :: rest) a w := by
  refine wpList_plain hg fun K' hK' => ?_
  obtain ⟨es, c, hr, hm'⟩ := run_entryStore (P := P) (mt := mt) h v
  unfold Oper.wp
  simp [execOp, hop, hm, hs, hy, hr, Result.andThen]
  exact hK' _ _ (hK es c hm')
theorem wpList_kv_len (ht : P.underlying mt = some (.map kt et)) (hg : o.guard = none) (m : Operand) (hop : o.op = Op.call { callee := Callee.builtin Builtin.len, args := #[m], argTypes := #[mt] }) (hm : a.eval m = .map (some b)) (h : MapOf ek ev w b l)
    (hK : wpList P ops Q rest (a.put o.dst (.int .i64 l.length)) w) : wpList P ops Q (o :: rest) a w := by
  refine wpList_plain hg fun K' hK' => ?_
  unfold Oper.wp
  simp [execOp, hop, resolve, invoke, builtin, hm, run_len ht h o.type, Result.andThen]
  exact hK' _ _ hK
end

/-! ### a world in which two maps have turned, and more lies behind -/
theorem alloc_more (w : World) (o : Obj) : w.alloc o = more w #[o] w.drawn := by
  have h : w.heap.push o = w.heap ++ #[o] := by simp
  unfold more; rw [← h]; rfl
theorem setMap_more {w : World} {m : Nat} (hm : m < w.heap.size) (es : Array MapEntry) (c : Nat) (os : Array Obj) (d : Nat) : setMap (more w os d) m es c = more (setMap w m es c) os d := by
  unfold setMap more
  simp only
  congr 1
  apply Array.ext_getElem?
  intro i
  simp only [Array.getElem?_modify, Array.getElem?_append, Array.size_modify]
  by_cases hi : i < w.heap.size
  · simp [hi]
  · have : m ≠ i := by omega
    simp [hi, this]
theorem setMap_alloc {w : World} {m : Nat} (hm : m < w.heap.size) (es : Array MapEntry) (c : Nat) (o : Obj) : setMap (w.alloc o) m es c = (setMap w m es c).alloc o := by
  rw [alloc_more, setMap_more hm, alloc_more]; rfl
theorem below_setMap {B : Nat} {a w : World} (h : Below B a w) {m : Nat} (hm : B ≤ m) (es : Array MapEntry) (c : Nat) : Below B a (setMap w m es c) :=
  h.trans ⟨rfl, rfl, rfl, by rw [setMap_size]; exact Nat.le_refl _, fun k hk => setMap_heap_ne (by omega)⟩
theorem setMap_drew (w : World) (b : Nat) (es : Array MapEntry) (c : Nat) : setMap w.drew b es c = (setMap w b es c).drew := rfl

section
variable {K V : Type} [DecidableEq K]
theorem kvGet_put (l : List (K × V)) (k : K) (v : V) (k' : K) : kvGet (kvPut l k v) k' = if k' = k then some v else kvGet l k' := by
  unfold kvPut
  split
  · rename_i h
    unfold kvGet at h ⊢
    induction l with
    | nil => simp at h
    | cons a l ih =>
      simp only [List.map_cons, List.find?_cons]
      by_cases ha : a.1 = k
      · subst ha
        by_cases hk : k' = a.1
        · subst hk; simp
        · have : (a.1 == k') = false := by simpa using fun e => hk e.symm
          simp only [beq_self_eq_true, if_true, this]
          by_cases hl : (List.find? (fun x => x.1 == a.1) l).isSome
          · have := ih (by simpa using hl)
            rw [this]
          · have hno : ∀ p ∈ l, (p.1 == a.1) = false := by
              intro p hp
              have h9 : List.find? (fun x => x.1 == a.1) l = none := by
                cases hf : List.find? (fun x => x.1 == a.1) l with
                | none => rfl
                | some q => rw [hf] at hl; exact absurd rfl hl
              have := List.find?_eq_none.1 h9 p hp
              simpa using this
            have hmap : l.map (fun p => if (p.1 == a.1) = true then (a.1, v) else p) = l := by
              conv => rhs; rw [← List.map_id l]
              apply List.map_congr_left
              intro p hp
              simp [hno p hp]
            rw [hmap, if_neg hk]
      · have h1 : (a.1 == k) = false := by simpa using ha
        simp only [h1, Bool.false_eq_true, if_false]
        have h' : (Option.map (fun x => x.2) (List.find? (fun x => x.1 == k) l)).isSome = true := by
          rw [List.find?_cons, h1] at h; exact h
        by_cases hk : a.1 = k'
        · have : (a.1 == k') = true := by simpa using hk
          simp only [this]
          rw [if_neg (by rw [← hk]; exact ha)]
        · have : (a.1 == k') = false := by simpa using hk
          simp only [this]
          exact ih h'
  · rename_i h
    unfold kvGet
    rw [List.find?_append]
    cases hf : List.find? (fun x => x.1 == k') l with
    | none =>
      by_cases hk : k' = k
      · subst hk; simp
      · have : (k == k') = false := by simpa using fun e => hk e.symm
        simp [this, hk]
    | some p =>
      have hp := List.find?_some hf
      have hp' : p.1 = k' := by simpa using hp
      have hne : k' ≠ k := by
        rintro rfl
        apply h
        unfold kvGet
        rw [hf]; rfl
      simp [hne]
theorem kvGet_del (l : List (K × V)) (k k' : K) : kvGet (kvDel l k) k' = if k' = k then none else kvGet l k' := by
  unfold kvGet kvDel
  rw [List.find?_filter]
  by_cases hk : k' = k
  · subst hk
    rw [if_pos rfl]
    simp
  · rw [if_neg hk]
    congr 1
    congr 1
    funext p
    by_cases hp : p.1 = k'
    · have : (p.1 == k) = false := by rw [hp]; simpa using hk
      have h9 : (p.1 == k') = true := by simpa using hp
      simp [this, h9]
    · have : (p.1 == k') = false := by simpa using hp
      simp [this]
end

/-! ### what a block holds as a map, for rewriting -/
def mapAt (w : World) (b : Nat) : Option (Array MapEntry × Nat) := match w.heap[b]? with | some (.map es c) => some (es, c) | _ => none
theorem mapAt_of {w w' : World} {b : Nat} (h : w'.heap[b]? = w.heap[b]?) : mapAt w' b = mapAt w b := by unfold mapAt; rw [h]
theorem mapAt_alloc (w : World) (o : Obj) (b : Nat) (h : b < w.heap.size) : mapAt (w.alloc o) b = mapAt w b := mapAt_of (Below.heap_alloc w o b h)
theorem mapAt_drew (w : World) (b : Nat) : mapAt w.drew b = mapAt w b := rfl
theorem mapAt_drewN (w : World) (b n : Nat) : mapAt (w.drewN n) b = mapAt w b := rfl
theorem mapAt_more (w : World) (os : Array Obj) (d b : Nat) (h : b < w.heap.size) : mapAt (more w os d) b = mapAt w b := mapAt_of ((more_below w os d).block b h)
theorem mapAt_setCell (w : World) (a : Addr) (v : Value) (b : Nat) : mapAt (w.setCell a v) b = mapAt w b := by
  unfold mapAt
  simp only [World.setCell, Array.getElem?_modify]
  by_cases ha : a.block = b
  · rw [if_pos ha]
    cases w.heap[b]? with
    | none => rfl
    | some o => cases o <;> rfl
  · rw [if_neg ha]
theorem mapAt_setMap_ne (w : World) (b b' : Nat) (es : Array MapEntry) (c : Nat) (h : b ≠ b') : mapAt (setMap w b' es c) b = mapAt w b := mapAt_of (setMap_heap_ne h)
def Holds {K V : Type} (ek : K → Value) (ev : V → Value) (m : Option (Array MapEntry × Nat)) (l : List (K × V)) : Prop := ∃ es c, m = some (es, c) ∧ Born es c ∧ es.toList.map (fun e => (e.key, e.val)) = (l.map fun p => (ek p.1, ev p.2)) ∧ (l.map (·.1)).Nodup
theorem holds_iff {K V : Type} {ek : K → Value} {ev : V → Value} {w : World} {b : Nat} {l : List (K × V)} : Holds ek ev (mapAt w b) l ↔ MapOf ek ev w b l := by
  constructor
  · rintro ⟨es, c, h1, h2, h3, h4⟩
    refine ⟨⟨es, c, ?_, h2, h3⟩, h4⟩
    unfold mapAt at h1
    split at h1
    · rename_i es' c' he; simp at h1; obtain ⟨rfl, rfl⟩ := h1; exact he
    · cases h1
  · rintro ⟨⟨es, c, h1, h2, h3⟩, h4⟩
    exact ⟨es, c, by unfold mapAt; rw [h1], h2, h3, h4⟩

/-! ### all but some blocks is as it was -/
structure Frame (S : Nat → Prop) (w w' : World) : Prop where
  os : w'.os = w.os
  tape : w'.tape = w.tape
  output : w'.output = w.output
  size : w.heap.size ≤ w'.heap.size
  block : ∀ k, k < w.heap.size → ¬ S k → w'.heap[k]? = w.heap[k]?
theorem Frame.refl (S : Nat → Prop) (w : World) : Frame S w w := ⟨rfl, rfl, rfl, Nat.le_refl _, fun _ _ _ => rfl⟩
theorem Frame.trans {S : Nat → Prop} {a b c : World} (h : Frame S a b) (k : Frame S b c) : Frame S a c :=
  ⟨k.os.trans h.os, k.tape.trans h.tape, k.output.trans h.output, Nat.le_trans h.size k.size, fun i hi hs => (k.block i (Nat.lt_of_lt_of_le hi h.size) hs).trans (h.block i hi hs)⟩
theorem Frame.mono {S S' : Nat → Prop} {a b : World} (h : Frame S a b) (hs : ∀ k, S k → S' k) : Frame S' a b := ⟨h.os, h.tape, h.output, h.size, fun i hi hn => h.block i hi (fun x => hn (hs i x))⟩
theorem Frame.of_below {S : Nat → Prop} {a b : World} (h : Below a.heap.size a b) : Frame S a b := ⟨h.os, h.tape, h.output, h.size, fun i hi _ => h.block i hi⟩
theorem Frame.alloc {S : Nat → Prop} {a w : World} (h : Frame S a w) (o : Obj) : Frame S a (w.alloc o) := h.trans (.of_below ((Below.refl _ _).alloc (Nat.le_refl _) o))
theorem Frame.drew {S : Nat → Prop} {a w : World} (h : Frame S a w) : Frame S a w.drew := h.trans (.of_below ((Below.refl _ _).drew))
theorem Frame.drewN {S : Nat → Prop} {a w : World} (h : Frame S a w) (n : Nat) : Frame S a (w.drewN n) := h.trans (.of_below (below_drewN' (Below.refl _ _) n))
theorem Frame.more {S : Nat → Prop} {a w : World} (h : Frame S a w) (os : Array Obj) (d : Nat) : Frame S a (more w os d) := h.trans (.of_below (more_below w os d))
theorem Frame.setMap {S : Nat → Prop} {a w : World} (h : Frame S a w) {m : Nat} (hm : S m) (es : Array MapEntry) (c : Nat) : Frame S a (setMap w m es c) :=
  h.trans ⟨rfl, rfl, rfl, by rw [setMap_size]; exact Nat.le_refl _, fun k hk hs => setMap_heap_ne (fun e => hs (e ▸ hm))⟩
/-- a store into a block of the call's own -/
theorem Frame.setNew {S : Nat → Prop} {a w : World} (h : Frame S a w) {p : Addr} (hp : a.heap.size ≤ p.block) (v : Value) : Frame S a (w.setCell p v) :=
  ⟨h.os, h.tape, h.output, by simpa [World.setCell] using h.size, fun k hk hs => (Below.heap_setCell _ _ _ _ (by omega)).trans (h.block k hk hs)⟩
theorem Frame.below {S : Nat → Prop} {B : Nat} {a w w' : World} (h : Below B a w) (f : Frame S w w') (hB : B ≤ w.heap.size) (hS : ∀ k, S k → B ≤ k) : Below B a w' :=
  h.trans ⟨f.os, f.tape, f.output, f.size, fun k hk => f.block k (by omega) (fun x => by have := hS k x; omega)⟩

/-! ### in a region that draws its order (the print's words) -/
open Go.Proofs.YtmhlebnomagekaaW.PrintLast
theorem start_below {P : Program} {ops : Array Oper} {Q : Exit → Act → World → Prop} {id n : Nat} {a : Act} {w : World} (l : Array Bool) (hm : P.follows .mixedOrders = true) (hn : ops.size = n) (hl : Array.replicate n false = l)
    (h : Below w.heap.size w w.drew → wpAnyLast P .any ops Q (fun W => Below w.heap.size w W) [] n l a w.drew) : (Code.region id ops true).wp P Q a w :=
  start_ (S := fun W => Below w.heap.size w W) (ds := []) l hm hn hl (Below.refl _ _).drew h
theorem start_same {P : Program} {ops : Array Oper} {Q : Exit → Act → World → Prop} {id n : Nat} {a : Act} {w : World} (l : Array Bool) (hm : P.follows .mixedOrders = true) (hn : ops.size = n) (hl : Array.replicate n false = l)
    (h : (∀ q, w.drew.cell? q = w.cell? q) → wpAnyLast P .any ops Q (fun W => ∀ q, W.cell? q = w.cell? q) [] n l a w.drew) : (Code.region id ops true).wp P Q a w :=
  start_ (S := fun W => ∀ q, W.cell? q = w.cell? q) (ds := []) l hm hn hl (fun _ => rfl) h
section
variable {P : Program} {kt et mt : TypeId} {K V : Type} [DecidableEq K] {ek : K → Value} {ev : V → Value}
variable {w : World} {o : Oper} {a : Act} {Q : Exit → Act → World → Prop} {b : Nat} {l : List (K × V)} {NX : Act → World → Prop} {N : Option Tmp}
theorem step_of {X Y : Prop} (hg : o.guard = none) {ys : Nat → Option Bool} (h : X) : if Region.wanted o ys = true then X else Y := by
  rw [if_pos (by simp [Region.wanted, hg])]; exact h
theorem step_entry (KL : PlainKey P kt K ek) (ht : P.underlying mt = some (.map kt et)) (hg : o.guard = none) (hN : o.dst = N) (m x : Operand) (hop : o.op = Op.mapEntry mt m x) (hm : a.eval m = .map (some b)) (h : MapOf ek ev w b l)
    (z : Value) (hz : ∀ w, (zeroValue et).run P w = .ok z w) (k : K) (hx : a.eval x = ek k) {ys : Nat → Option Bool} (hK : ∀ es c u n, EntryAt ek ev (setMap w b es c) b l k n → NX (a.put N (.tuple #[u, .int .i64 (n : Nat)])) (setMap w b es c)) : if Region.wanted o ys = true then o.wp P a w NX Q else NX (a.put N undef) w := by
  refine step_of hg ?_
  subst hN
  obtain ⟨es, c, u, n, hr, hm'⟩ := run_mapEntry KL ht h hz k
  unfold Oper.wp
  simp [execOp, hop, hm, hx, hr, Result.andThen]
  exact hK es c u n hm'
theorem step_store (hg : o.guard = none) (hN : o.dst = N) (m s y : Operand) (hop : o.op = Op.entryStore mt m s y) (hm : a.eval m = .map (some b)) (k : K) (n : Nat) (h : EntryAt ek ev w b l k n)
    (hs : a.eval s = .int .i64 (n : Nat)) (v : V) (hy : a.eval y = ev v) {ys : Nat → Option Bool} (hK : ∀ es c, MapOf ek ev (setMap w b es c) b (kvPut l k v) → NX (a.put N undef) (setMap w b es c)) : if Region.wanted o ys = true then o.wp P a w NX Q else NX (a.put N undef) w := by
  refine step_of hg ?_
  subst hN
  obtain ⟨es, c, hr, hm'⟩ := run_entryStore (P := P) (mt := mt) h v
  unfold Oper.wp
  simp [execOp, hop, hm, hs, hy, hr, Result.andThen]
  exact hK es c hm'
theorem step_del (KL : PlainKey P kt K ek) (ht : P.underlying mt = some (.map kt et)) (hg : o.guard = none) (hN : o.dst = N) (m x : Operand) (u : TypeId) (hop : o.op = Op.call { callee := Callee.builtin Builtin.delete, args := #[m, x], argTypes := #[mt, u] }) (hm : a.eval m = .map (some b)) (h : MapOf ek ev w b l)
    (k : K) (hx : a.eval x = ek k) {ys : Nat → Option Bool} (hK : ∀ es c, MapOf ek ev (setMap w b es c) b (kvDel l k) → NX (a.put N (.tuple #[])) (setMap w b es c)) : if Region.wanted o ys = true then o.wp P a w NX Q else NX (a.put N undef) w := by
  refine step_of hg ?_
  subst hN
  obtain ⟨es, c, hr, hm'⟩ := run_delete KL ht h k o.type u
  unfold Oper.wp
  simp [execOp, hop, resolve, invoke, builtin, hm, hx, hr, Result.andThen]
  exact hK es c hm'
end
end Go.Proofs.Ytmhlebnomagekaa
