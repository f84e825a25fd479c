/-
  Texts of the proof, part 9 of 9.
-/
import Derived.Test.YtlhliolknaopjaaPD
import Derived.Test.YtlhliolknaopjaaPH
import Derived.Test.YtlhliolknaopjaaPB
import Derived.Test.YtlhliolknaopjaaPF
import Derived.Deep.DeepAppendRoom
import Derived.Deep.DeepAppendWide
import Derived.Test.YtlhliolknaopjaaPG

/-
  Denote, plain: bytes represent at most one tree; a represented tree is valid but for its depth, and sorted. No program.
-/
namespace Go.Proofs.Ytlhliolknaopjaa
open Go Go.ChangeShapes Go.WideShapes Go.ChangeAt Go.RowKit Go.Joins Go.Deep
set_option linter.unusedVariables false
set_option linter.unusedSimpArgs false

theorem len_zero {α : Type} {l : List α} (h : l.length = 0) : l = [] := List.length_eq_zero_iff.1 h
theorem bare_iff {t : Tr} {k n u : Int} {s : ByteArray} : bareF t k n u s = true ↔ t = .mk k n u s [] [] := by
  unfold bareF
  simp only [Bool.and_eq_true, decide_eq_true_eq]
  obtain ⟨k', n', u', s', keys, l⟩ := t
  simp only [Tr.kind, Tr.fn, Tr.fu, Tr.fs, Tr.keys, Tr.kids, Tr.mk.injEq]
  constructor
  · rintro ⟨⟨⟨⟨⟨rfl, rfl⟩, rfl⟩, rfl⟩, h1⟩, h2⟩
    exact ⟨rfl, rfl, rfl, rfl, len_zero h1, len_zero h2⟩
  · rintro ⟨rfl, rfl, rfl, rfl, rfl, rfl⟩
    exact ⟨⟨⟨⟨⟨rfl, rfl⟩, rfl⟩, rfl⟩, rfl⟩, rfl⟩
theorem has_iff {d : List UInt8} {at_ : Int} {s : ByteArray} : hasF d at_ s = true ↔ 0 ≤ at_ ∧ (s.size : Int) ≤ d.length - at_ ∧ (d.drop at_.toNat).take s.size = s.data.toList := by
  simp only [hasF, Bool.and_eq_true, decide_eq_true_eq, and_assoc]
theorem ends_list (s : ByteArray) : (ends s).data.toList = s.data.toList ++ [0] := by
  unfold ends
  rw [ByteArray.data_append, Array.toList_append]
theorem size_list (s : ByteArray) : s.data.toList.length = s.size := rfl
theorem key_zero {s : ByteArray} (h : keyE s = 0) : (0 : UInt8) ∉ s.data.toList := by
  rw [keyE_eq] at h
  by_cases hz : zeroB s = true
  · rw [if_pos hz] at h; cases h
  · unfold zeroB at hz; simpa using hz
theorem ends_less {X : List UInt8} {a b : List UInt8} (ha : X.take (a.length + 1) = a ++ [0]) (hb : X.take (b.length + 1) = b ++ [0]) (h0 : (0 : UInt8) ∉ b) : ¬ a.length < b.length := by
  intro hlt
  have h1 : X[a.length]? = some 0 := by
    have : (X.take (a.length + 1))[a.length]? = some 0 := by rw [ha]; simp
    rw [List.getElem?_take] at this
    rwa [if_pos (by omega)] at this
  have h2 : (X.take (b.length + 1))[a.length]? = some 0 := by
    rw [List.getElem?_take, if_pos (by omega)]; exact h1
  rw [hb, List.getElem?_append_left hlt] at h2
  exact h0 (List.mem_of_getElem? h2)
theorem ends_inj {d : List UInt8} {at_ : Int} {a b : ByteArray} (ka : keyE a = 0) (kb : keyE b = 0) (ha : hasF d at_ (ends a) = true) (hb : hasF d at_ (ends b) = true) : a = b := by
  obtain ⟨_, _, ha⟩ := has_iff.1 ha
  obtain ⟨_, _, hb⟩ := has_iff.1 hb
  rw [ends_list, ends_size, ← size_list] at ha hb
  have h1 := ends_less ha hb (key_zero kb)
  have h2 := ends_less hb ha (key_zero ka)
  have he : a.data.toList.length = b.data.toList.length := by omega
  rw [he, hb] at ha
  exact (bytes_inj (List.append_cancel_right ha)).symm
theorem has_inj {d : List UInt8} {at_ : Int} {a b : ByteArray} (hz : a.size = b.size) (ha : hasF d at_ a = true) (hb : hasF d at_ b = true) : a = b := by
  obtain ⟨_, _, ha⟩ := has_iff.1 ha
  obtain ⟨_, _, hb⟩ := has_iff.1 hb
  rw [hz, hb] at ha
  exact (bytes_inj ha).symm
theorem number_iff {d : List UInt8} {at_ w sg un : Int} {t : Tr} (h : numberF d at_ w sg un t = true) : t = .mk sg (loadIntF d at_ w).1 0 EMB [] [] ∨ t = .mk un 0 (loadF d at_ w).1 EMB [] [] := by
  unfold numberF at h
  split at h
  · cases h
  split at h
  · exact .inl (bare_iff.1 h)
  · rw [Bool.and_eq_true] at h; exact .inr (bare_iff.1 h.2)
/-- The kind of a type's trees. -/
def kindT (typ : Int) : Int := if typ = 0 then 1 else if typ = 1 then 3 else if typ = 2 then 4 else if typ = 26 then 2 else if typ = 4 then 5 else if typ = 5 then 6 else if typ = 25 then 7 else if typ = 6 then 8 else if typ = 7 then 9 else (shapeF typ).1
theorem near_or (typ : Int) (h : nearT typ = true ∨ farT typ = true) : typ = 0 ∨ typ = 1 ∨ typ = 2 ∨ typ = 26 ∨ typ = 4 ∨ typ = 5 ∨ typ = 25 ∨ typ = 6 ∨ typ = 7 := by
  unfold nearT farT at h
  simp only [Bool.or_eq_true, decide_eq_true_eq] at h
  omega
/-- What a leaf is, by its type. -/
theorem look_cases {d : List UInt8} {typ pos par wid at_ : Int} {t : Tr} (hn : nearT typ = true ∨ farT typ = true) (h : lookF d typ pos par wid at_ t = true) :
    (typ = 0 ∧ t = .mk 1 0 0 EMB [] []) ∨ (typ = 1 ∧ t = .mk 3 (loadIntF d pos par).1 0 EMB [] []) ∨ (typ = 2 ∧ t = .mk 4 0 (loadF d pos par).1 EMB [] []) ∨ (typ = 26 ∧ t = .mk 2 (if (loadF d pos par).1 = 0 then 0 else 1) 0 EMB [] []) ∨
    (typ = 4 ∧ ∃ s, t = .mk 5 0 0 s [] [] ∧ keyE s = 0 ∧ hasF d at_ (ends s) = true) ∨ (typ = 5 ∧ ∃ s, t = .mk 6 0 0 s [] [] ∧ (numF d (at_ - wid) wid).1 = s.size ∧ hasF d at_ (ends s) = true) ∨ (typ = 25 ∧ ∃ s, t = .mk 7 0 0 s [] [] ∧ (numF d (at_ - wid) wid).1 = s.size ∧ hasF d at_ s = true) ∨
    (typ = 6 ∧ t = .mk 8 (loadIntF d at_ wid).1 0 EMB [] []) ∨ (typ = 7 ∧ t = .mk 9 0 (loadF d at_ wid).1 EMB [] []) := by
  rcases near_or typ hn with rfl | rfl | rfl | rfl | rfl | rfl | rfl | rfl | rfl
  · rw [show lookF d 0 pos par wid at_ t = nullF d pos par t from rfl] at h
    unfold nullF at h
    rw [Bool.and_eq_true] at h
    exact .inl ⟨rfl, bare_iff.1 h.2⟩
  · rw [show lookF d 1 pos par wid at_ t = intF d pos par t from rfl] at h
    unfold intF at h
    rw [Bool.and_eq_true, decide_eq_true_eq] at h
    rcases number_iff h.2 with e | e
    · exact .inr (.inl ⟨rfl, e⟩)
    · rw [e] at h; exact absurd h.1 (by simp [Tr.kind])
  · rw [show lookF d 2 pos par wid at_ t = uintF d pos par t from rfl] at h
    unfold uintF at h
    rw [Bool.and_eq_true, decide_eq_true_eq] at h
    rcases number_iff h.2 with e | e
    · rw [e] at h; exact absurd h.1 (by simp [Tr.kind])
    · exact .inr (.inr (.inl ⟨rfl, e⟩))
  · rw [show lookF d 26 pos par wid at_ t = boolF d pos par t from rfl] at h
    unfold boolF at h
    rw [Bool.and_eq_true] at h
    exact .inr (.inr (.inr (.inl ⟨rfl, bare_iff.1 h.2⟩)))
  · rw [show lookF d 4 pos par wid at_ t = keyF d at_ t from rfl] at h
    unfold keyF at h
    simp only [Bool.and_eq_true, decide_eq_true_eq] at h
    exact .inr (.inr (.inr (.inr (.inl ⟨rfl, _, bare_iff.1 h.1.1, h.1.2, h.2⟩))))
  · rw [show lookF d 5 pos par wid at_ t = textF d 5 wid at_ t from rfl] at h
    unfold textF at h
    simp only [Bool.and_eq_true, decide_eq_true_eq, if_true] at h
    exact .inr (.inr (.inr (.inr (.inr (.inl ⟨rfl, _, bare_iff.1 h.1.1.1.1, h.1.2, h.2⟩)))))
  · rw [show lookF d 25 pos par wid at_ t = textF d 25 wid at_ t from rfl] at h
    unfold textF at h
    rw [if_neg (by decide), if_neg (by decide)] at h
    simp only [Bool.and_eq_true, decide_eq_true_eq] at h
    exact .inr (.inr (.inr (.inr (.inr (.inr (.inl ⟨rfl, _, bare_iff.1 h.1.1.1.1, h.1.2, h.2⟩))))))
  · rw [show lookF d 6 pos par wid at_ t = apartF d 6 wid at_ t from rfl] at h
    unfold apartF at h
    rw [if_pos rfl] at h
    simp only [Bool.and_eq_true, decide_eq_true_eq] at h
    rcases number_iff h.2 with e | e
    · exact .inr (.inr (.inr (.inr (.inr (.inr (.inr (.inl ⟨rfl, e⟩)))))))
    · rw [e] at h; exact absurd h.1.1 (by simp [Tr.kind])
  · rw [show lookF d 7 pos par wid at_ t = apartF d 7 wid at_ t from rfl] at h
    unfold apartF at h
    rw [if_neg (by decide)] at h
    simp only [Bool.and_eq_true, decide_eq_true_eq] at h
    rcases number_iff h.2 with e | e
    · rw [e] at h; exact absurd h.1.1 (by simp [Tr.kind])
    · exact .inr (.inr (.inr (.inr (.inr (.inr (.inr (.inr ⟨rfl, e⟩)))))))
theorem look_uniq {d : List UInt8} {typ pos par wid at_ : Int} {t u : Tr} (hn : nearT typ = true ∨ farT typ = true) (h : lookF d typ pos par wid at_ t = true) (g : lookF d typ pos par wid at_ u = true) : t = u := by
  have hc := look_cases hn h
  have gc := look_cases hn g
  rcases hc with ⟨e, ht⟩ | ⟨e, ht⟩ | ⟨e, ht⟩ | ⟨e, ht⟩ | ⟨e, a, ht, h1, h2⟩ | ⟨e, a, ht, h1, h2⟩ | ⟨e, a, ht, h1, h2⟩ | ⟨e, ht⟩ | ⟨e, ht⟩ <;>
  rcases gc with ⟨e', hu⟩ | ⟨e', hu⟩ | ⟨e', hu⟩ | ⟨e', hu⟩ | ⟨e', b, hu, g1, g2⟩ | ⟨e', b, hu, g1, g2⟩ | ⟨e', b, hu, g1, g2⟩ | ⟨e', hu⟩ | ⟨e', hu⟩ <;>
  first
  | (exfalso; omega)
  | (rw [ht, hu]; done)
  | (rw [ht, hu, ends_inj h1 g1 h2 g2])
  | (rw [ht, hu, has_inj (by omega) h2 g2])
  | (have hz : a.size = b.size := by omega
     have := has_inj (by rw [ends_size, ends_size, hz]) h2 g2
     have h3 : (ends a).data.toList = (ends b).data.toList := by rw [this]
     rw [ends_list, ends_list] at h3
     rw [ht, hu, bytes_inj (List.append_cancel_right h3)])
theorem look_kind {d : List UInt8} {typ pos par wid at_ : Int} {t : Tr} (hn : nearT typ = true ∨ farT typ = true) (h : lookF d typ pos par wid at_ t = true) : t.kind = kindT typ := by
  rcases look_cases hn h with ⟨rfl, ht⟩ | ⟨rfl, ht⟩ | ⟨rfl, ht⟩ | ⟨rfl, ht⟩ | ⟨rfl, a, ht, h1, h2⟩ | ⟨rfl, a, ht, h1, h2⟩ | ⟨rfl, a, ht, h1, h2⟩ | ⟨rfl, ht⟩ | ⟨rfl, ht⟩ <;> (rw [ht]; rfl)
/-- What a list is. -/
structure ListP (d : List UInt8) (typ w at_ : Int) (k n u : Int) (s : ByteArray) (keys : List ByteArray) (l : List Tr) : Prop where
  kind : k = (shapeF typ).1
  zn : n = 0
  zu : u = 0
  zs : s = EMB
  nokeys : (shapeF typ).1 ≠ 17 → keys = []
  fix : at_ % w = 0
  room : at_ + l.length * w + (if taggedB (shapeF typ).1 = true then (l.length : Int) else 0) ≤ d.length
  many : if (shapeF typ).2 = 0 then (numF d (at_ - w) w).2 = true ∧ (numF d (at_ - w) w).1 = l.length else (l.length : Int) = (shapeF typ).2
  table : (shapeF typ).1 = 17 → 0 ≤ at_ - 3 * w ∧ keys.length = l.length ∧ keysF d (at_ - 3 * w) w keys = true
theorem front_iff {d : List UInt8} {typ w at_ k n u : Int} {s : ByteArray} {keys : List ByteArray} {l : List Tr} : frontF d typ w at_ (.mk k n u s keys l) = true ↔ ListP d typ w at_ k n u s keys l := by
  simp only [frontF, Bool.and_eq_true, decide_eq_true_eq, Bool.or_eq_true]
  constructor
  · rintro ⟨⟨⟨⟨⟨⟨⟨⟨h1, h2⟩, h3⟩, h4⟩, h5⟩, h6⟩, h7⟩, h8⟩, h9⟩
    refine ⟨h1, h2, h3, h4, fun hk => len_zero (h5.resolve_left hk), h6, h7, ?_, fun hk => ?_⟩
    · split
      · rename_i hz
        rw [if_pos hz, Bool.and_eq_true, decide_eq_true_eq] at h8; exact h8
      · rename_i hz
        rw [if_neg hz, decide_eq_true_eq] at h8; exact h8
    · rw [if_pos hk, Bool.and_eq_true, Bool.and_eq_true, decide_eq_true_eq, decide_eq_true_eq, and_assoc] at h9; exact h9
  · rintro ⟨h1, h2, h3, h4, h5, h6, h7, h8, h9⟩
    refine ⟨⟨⟨⟨⟨⟨⟨⟨h1, h2⟩, h3⟩, h4⟩, ?_⟩, h6⟩, h7⟩, ?_⟩, ?_⟩
    · by_cases hk : (shapeF typ).1 = 17
      · exact .inl hk
      · exact .inr (by rw [h5 hk]; rfl)
    · by_cases hz : (shapeF typ).2 = 0
      · rw [if_pos hz] at h8 ⊢; rw [Bool.and_eq_true, decide_eq_true_eq]; exact h8
      · rw [if_neg hz] at h8 ⊢; rw [decide_eq_true_eq]; exact h8
    · by_cases hk : (shapeF typ).1 = 17
      · rw [if_pos hk, Bool.and_eq_true, Bool.and_eq_true, decide_eq_true_eq, decide_eq_true_eq, and_assoc]; exact h9 hk
      · rw [if_neg hk]
theorem kids_iff {d : List UInt8} {typ w at_ n : Int} : ∀ {l : List Tr} {i : Nat}, kidsF d typ w at_ n i l = true ↔ ∀ j x, l[j]? = some x → (elemOf d typ w at_ n (i + j)).2.2 = 0 ∧ saysF d (elemOf d typ w at_ n (i + j)).1 (at_ + ((i + j : Nat) : Int) * w) w (elemOf d typ w at_ n (i + j)).2.1 (firstF typ w at_) x = true
  | [], i => by simp [kidsF]
  | x :: r, i => by
    simp only [kidsF, Bool.and_eq_true, decide_eq_true_eq]
    rw [kids_iff (l := r) (i := i + 1)]
    constructor
    · rintro ⟨h, hr⟩ j y hy
      cases j with
      | zero => simp only [List.getElem?_cons_zero, Option.some.injEq] at hy; subst hy; exact h
      | succ j =>
        simp only [List.getElem?_cons_succ] at hy
        have := hr j y hy
        rw [show i + (j + 1) = i + 1 + j by omega]; exact this
    · intro h
      refine ⟨h 0 x rfl, fun j y hy => ?_⟩
      have := h (j + 1) y (by simpa using hy)
      rw [show i + (j + 1) = i + 1 + j by omega] at this; exact this
/-- What is said, by the type. -/
theorem says_cases {d : List UInt8} {typ pos par wid lim : Int} {t : Tr} (h : saysF d typ pos par wid lim t = true) :
    (isW par = true ∧ isW wid = true ∧ Ft.legalB typ = true) ∧ ((nearT typ = true ∧ lookF d typ pos par wid 0 t = true) ∨
      (nearT typ = false ∧ farB d typ pos par wid lim = true ∧ farT typ = true ∧ lookF d typ pos par wid (pos - (numF d pos par).1) t = true) ∨
      (nearT typ = false ∧ farB d typ pos par wid lim = true ∧ farT typ = false ∧ listF d typ wid (pos - (numF d pos par).1) t = true)) := by
  rw [says_eq] at h
  rw [inline_near] at h
  cases hg : (isW par && isW wid && Ft.legalB typ) with
  | false => rw [if_pos hg] at h; cases h
  | true =>
    rw [if_neg (by rw [hg]; decide)] at h
    simp only [Bool.and_eq_true] at hg
    refine ⟨⟨hg.1.1, hg.1.2, hg.2⟩, ?_⟩
    cases hn : nearT typ with
    | true => rw [if_pos hn] at h; exact .inl ⟨rfl, h⟩
    | false =>
      rw [if_neg (by rw [hn]; decide)] at h
      cases hf : farB d typ pos par wid lim with
      | false => rw [if_pos hf] at h; cases h
      | true =>
        rw [if_neg (by rw [hf]; decide)] at h
        cases ht : farT typ with
        | true => rw [if_pos ht] at h; exact .inr (.inl ⟨rfl, rfl, rfl, h⟩)
        | false => rw [if_neg (by rw [ht]; decide)] at h; exact .inr (.inr ⟨rfl, rfl, rfl, h⟩)
theorem names_iff {d : List UInt8} {w at_ : Int} : ∀ {l : List ByteArray} {i : Nat}, nameKids d w at_ i l = true ↔ ∀ j x, l[j]? = some x → keySays d (at_ + ((i + j : Nat) : Int) * w) w (at_ - w) x = true
  | [], i => by simp [nameKids]
  | x :: r, i => by
    simp only [nameKids, Bool.and_eq_true]
    rw [names_iff (l := r) (i := i + 1)]
    constructor
    · rintro ⟨h, hr⟩ j y hy
      cases j with
      | zero => simp only [List.getElem?_cons_zero, Option.some.injEq] at hy; subst hy; exact h
      | succ j =>
        simp only [List.getElem?_cons_succ] at hy
        have := hr j y hy
        rw [show i + (j + 1) = i + 1 + j by omega]; exact this
    · intro h
      refine ⟨h 0 x rfl, fun j y hy => ?_⟩
      have := h (j + 1) y (by simpa using hy)
      rw [show i + (j + 1) = i + 1 + j by omega] at this; exact this
theorem keys_iff {d : List UInt8} {first w : Int} {l : List ByteArray} (h : keysF d first w l = true) : incB l = true ∧ namesF d (numF d (first + w) w).1 (first - (numF d first w).1) l = true := by
  unfold keysF at h
  simp only [Bool.and_eq_true] at h
  exact ⟨h.1.2, h.2⟩
theorem namesF_iff {d : List UInt8} {w at_ : Int} {l : List ByteArray} (h : namesF d w at_ l = true) : (numF d (at_ - w) w).1 = l.length ∧ nameKids d w at_ 0 l = true := by
  unfold namesF at h
  simp only [Bool.and_eq_true, decide_eq_true_eq] at h
  exact ⟨h.1.2.2, h.2⟩
theorem keySays_iff {d : List UInt8} {pos w lim : Int} {k : ByteArray} (h : keySays d pos w lim k = true) : keyE k = 0 ∧ hasF d (pos - (numF d pos w).1) (ends k) = true := by
  unfold keySays at h
  simp only [Bool.and_eq_true, decide_eq_true_eq] at h
  exact ⟨h.1.2, h.2⟩
theorem list_same {α : Type} {a b : List α} (hl : a.length = b.length) (h : ∀ (i : Nat) (x y : α), a[i]? = some x → b[i]? = some y → x = y) : a = b := by
  refine List.ext_getElem? fun i => ?_
  rcases Nat.lt_or_ge i a.length with hi | hi
  · rw [List.getElem?_eq_getElem hi, List.getElem?_eq_getElem (hl ▸ hi)]
    exact congrArg some (h i _ _ (List.getElem?_eq_getElem hi) (List.getElem?_eq_getElem (hl ▸ hi)))
  · rw [List.getElem?_eq_none hi, List.getElem?_eq_none (hl ▸ hi)]
theorem keys_uniq {d : List UInt8} {first w : Int} {a b : List ByteArray} (ha : keysF d first w a = true) (hb : keysF d first w b = true) : a = b := by
  obtain ⟨_, ha⟩ := keys_iff ha
  obtain ⟨_, hb⟩ := keys_iff hb
  obtain ⟨la, ha⟩ := namesF_iff ha
  obtain ⟨lb, hb⟩ := namesF_iff hb
  refine list_same (by omega) fun i x y hx hy => ?_
  obtain ⟨k1, h1⟩ := keySays_iff (names_iff.1 ha i x hx)
  obtain ⟨k2, h2⟩ := keySays_iff (names_iff.1 hb i y hy)
  exact ends_inj k1 k2 h1 h2
theorem says_uniq (d : List UInt8) : ∀ (m : Nat) (t u : Tr) (typ pos par wid lim : Int), t.size ≤ m → saysF d typ pos par wid lim t = true → saysF d typ pos par wid lim u = true → t = u := by
  intro m
  induction m with
  | zero => intro t u typ pos par wid lim h; have := t.size_pos; omega
  | succ m ih =>
    intro t u typ pos par wid lim h hs gs
    obtain ⟨_, hc⟩ := says_cases hs
    obtain ⟨_, gc⟩ := says_cases gs
    rcases hc with ⟨hn, hl⟩ | ⟨hn, hf, ht, hl⟩ | ⟨hn, hf, ht, hl⟩ <;> rcases gc with ⟨gn, gl⟩ | ⟨gn, gf, gt, gl⟩ | ⟨gn, gf, gt, gl⟩ <;> first | (rw [hn] at gn; cases gn; done) | (rw [ht] at gt; cases gt; done) | skip
    · exact look_uniq (.inl hn) hl gl
    · exact look_uniq (.inr ht) hl gl
    · obtain ⟨k, n, q, s, keys, l⟩ := t
      obtain ⟨k', n', q', s', keys', l'⟩ := u
      simp only [listF, Tr.kids, Bool.and_eq_true] at hl gl
      obtain ⟨hp, hk⟩ := hl
      obtain ⟨gp, gk⟩ := gl
      have hp := front_iff.1 hp
      have gp := front_iff.1 gp
      have hlen : l.length = l'.length := by
        have h1 := hp.many
        have h2 := gp.many
        split at h1
        · rename_i hz
          rw [if_pos hz] at h2; have := h1.2; have := h2.2; omega
        · rename_i hz
          rw [if_neg hz] at h2; omega
      have hkeys : keys = keys' := by
        by_cases h17 : (shapeF typ).1 = 17
        · exact keys_uniq (hp.table h17).2.2 (gp.table h17).2.2
        · rw [hp.nokeys h17, gp.nokeys h17]
      have hkids : l = l' := by
        refine list_same hlen fun i x y hx hy => ?_
        have h1 := (kids_iff.1 hk i x hx).2
        have h2 := (kids_iff.1 gk i y hy).2
        rw [← hlen] at h2
        refine ih x y _ _ _ _ _ ?_ h1 h2
        have := size_mem (List.mem_of_getElem? hx)
        simp only [Tr.size] at h
        omega
      rw [hp.kind, gp.kind, hp.zn, gp.zn, hp.zu, gp.zu, hp.zs, gp.zs, hkeys, hkids]
end Go.Proofs.Ytlhliolknaopjaa

/-
  Denote, plain: a represented tree is valid but for its size and depth, and sorted. No program.
-/
namespace Go.Proofs.Ytlhliolknaopjaa
open Go Go.ChangeShapes Go.WideShapes Go.ChangeAt Go.RowKit Go.Joins Go.Deep
set_option linter.unusedVariables false
set_option linter.unusedSimpArgs false

/-- A property of all nodes. -/
def allN (Q : Tr → Prop) (t : Tr) : Prop := ∀ p ∈ preT 0 t, Q p.2
theorem allN_any {Q : Tr → Prop} {t : Tr} (b : Nat) : allN Q t ↔ ∀ p ∈ preT b t, Q p.2 := by
  constructor
  · intro h p hp
    have : p.2 ∈ (preT 0 t).map Prod.snd := by rw [pre_snd 0 b]; exact List.mem_map.2 ⟨p, hp, rfl⟩
    obtain ⟨q, hq, e⟩ := List.mem_map.1 this
    rw [← e]; exact h q hq
  · intro h p hp
    have : p.2 ∈ (preT b t).map Prod.snd := by rw [pre_snd b 0]; exact List.mem_map.2 ⟨p, hp, rfl⟩
    obtain ⟨q, hq, e⟩ := List.mem_map.1 this
    rw [← e]; exact h q hq
theorem allN_mk {Q : Tr → Prop} {k n u : Int} {s : ByteArray} {keys : List ByteArray} {l : List Tr} (h : Q (.mk k n u s keys l)) (hl : ∀ x ∈ l, allN Q x) : allN Q (.mk k n u s keys l) := by
  intro p hp
  simp only [preT, List.mem_cons] at hp
  rcases hp with rfl | hp
  · exact h
  · obtain ⟨x, hx, hpx⟩ := mem_preL'.1 hp
    exact (allN_any 1).1 (hl x hx) p hpx
/-- A node as it should be, its keys in order. -/
def goodN (x : Tr) : Prop := suchB x = true ∧ keyedE x = 0 ∧ x.keys.Pairwise fun a b => ltS a b = true
theorem check_good : ∀ (l : List (Nat × Tr)) (c : Nat), c + l.length ≤ 4096 → (∀ p ∈ l, suchB p.2 = true ∧ keyedE p.2 = 0) → checkL c l = 0 ∨ checkL c l = 61
  | [], _, _, _ => .inl rfl
  | (b, x) :: r, c, hc, h => by
    simp only [List.length_cons] at hc
    have hx := h (b, x) (by simp)
    simp only [checkL]
    rw [if_neg (by omega)]
    by_cases hb : 64 ≤ b
    · rw [if_pos hb]; exact .inr rfl
    · rw [if_neg hb, if_neg (by rw [hx.1]; decide), if_neg (by rw [hx.2]; decide)]
      exact check_good r (c + 1) (by omega) fun p hp => h p (by simp [hp])
theorem inc_pair : ∀ {l : List ByteArray}, incB l = true → l.Pairwise fun a b => ltS a b = true
  | [], _ => List.Pairwise.nil
  | [_], _ => List.pairwise_singleton _ _
  | a :: b :: r, h => by
    simp only [incB, Bool.and_eq_true] at h
    have hr := inc_pair (l := b :: r) h.2
    refine List.Pairwise.cons (fun x hx => ?_) hr
    rcases List.mem_cons.1 hx with rfl | hx
    · exact h.1
    · exact ltS_trans h.1 (List.rel_of_pairwise_cons hr hx)
theorem pair_nodup {l : List ByteArray} (h : l.Pairwise fun a b => ltS a b = true) : l.Nodup :=
  h.imp fun hab e => by subst e; rw [ltS_irrefl] at hab; cases hab
theorem shape_facts : ∀ k : Fin 37, Ft.legalB ((k : Nat) : Int) = true → nearT ((k : Nat) : Int) = false → farT ((k : Nat) : Int) = false →
    (10 ≤ (shapeF ((k : Nat) : Int)).1 ∧ (shapeF ((k : Nat) : Int)).1 ≤ 17) ∧ ((shapeF ((k : Nat) : Int)).1 = 15 ∨ (shapeF ((k : Nat) : Int)).1 = 16 → 2 ≤ (shapeF ((k : Nat) : Int)).2 ∧ (shapeF ((k : Nat) : Int)).2 ≤ 4) ∧
      (taggedB (shapeF ((k : Nat) : Int)).1 = true ∨ kindT (Ft.elemF ((k : Nat) : Int)).1 = partF (shapeF ((k : Nat) : Int)).1) ∧ (taggedB (shapeF ((k : Nat) : Int)).1 = true → partF (shapeF ((k : Nat) : Int)).1 = 0) := by decide +kernel
theorem legal_range' (t : Int) (h : Ft.legalB t = true) : 0 ≤ t ∧ t ≤ 36 := Ft.legal_range (t := t) h
theorem shape_of {t : Int} (h : Ft.legalB t = true) (hn : nearT t = false) (hf : farT t = false) :
    (10 ≤ (shapeF t).1 ∧ (shapeF t).1 ≤ 17) ∧ ((shapeF t).1 = 15 ∨ (shapeF t).1 = 16 → 2 ≤ (shapeF t).2 ∧ (shapeF t).2 ≤ 4) ∧ (taggedB (shapeF t).1 = true ∨ kindT (Ft.elemF t).1 = partF (shapeF t).1) ∧ (taggedB (shapeF t).1 = true → partF (shapeF t).1 = 0) := by
  obtain ⟨h0, h1⟩ := legal_range' t h
  obtain ⟨k, rfl⟩ := Int.eq_ofNat_of_zero_le h0
  exact shape_facts ⟨k, by omega⟩ h hn hf
theorem kind_list {t : Int} (hn : nearT t = false) (hf : farT t = false) : kindT t = (shapeF t).1 := by
  unfold nearT at hn
  unfold farT at hf
  simp only [Bool.or_eq_false_iff, decide_eq_false_iff_not] at hn hf
  unfold kindT
  rw [if_neg hn.1.1.1, if_neg hn.1.1.2, if_neg hn.1.2, if_neg hn.2, if_neg hf.1.1.1.1, if_neg hf.1.1.1.2, if_neg hf.1.1.2, if_neg hf.1.2, if_neg hf.2]
theorem says_kind {d : List UInt8} {typ pos par wid lim : Int} {t : Tr} (h : saysF d typ pos par wid lim t = true) : t.kind = kindT typ := by
  obtain ⟨_, hc⟩ := says_cases h
  rcases hc with ⟨hn, hl⟩ | ⟨hn, hf, ht, hl⟩ | ⟨hn, hf, ht, hl⟩
  · exact look_kind (.inl hn) hl
  · exact look_kind (.inr ht) hl
  · obtain ⟨k, n, u, s, keys, l⟩ := t
    simp only [listF, Bool.and_eq_true] at hl
    rw [kind_list hn ht]
    exact (front_iff.1 hl.1).kind
theorem em_list : EMB.toList = [] := by decide +kernel
theorem leaf_good {d : List UInt8} {typ pos par wid at_ : Int} {t : Tr} (hn : nearT typ = true ∨ farT typ = true) (h : lookF d typ pos par wid at_ t = true) : allN goodN t := by
  have key5 : ∀ {s : ByteArray}, keyE s = 0 → ¬ ((5 : Int) = 5 ∧ zeroB s = true) := fun h hz => by
    have := key_zero h
    have h2 := hz.2
    unfold zeroB at h2
    rw [decide_eq_true_eq] at h2
    exact this h2
  have kz : keysE [] [] = 0 := by simp [keysE]
  have none : ∀ {p : Int} (x : Tr), x ∈ ([] : List Tr) → otherB p x = false := fun x hx => by cases hx
  have nokid : ∀ x ∈ ([] : List Tr), allN goodN x := fun x hx => by cases hx
  rcases look_cases hn h with ⟨e, ht⟩ | ⟨e, ht⟩ | ⟨e, ht⟩ | ⟨e, ht⟩ | ⟨e, a, ht, h1, h2⟩ | ⟨e, a, ht, h1, h2⟩ | ⟨e, a, ht, h1, h2⟩ | ⟨e, ht⟩ | ⟨e, ht⟩ <;> rw [ht] <;> refine allN_mk ⟨such_iff.2 ⟨by omega, ?_, ?_, ?_, .inr rfl, ?_, by omega, by omega, fun x hx => none x hx⟩, keyed_iff.2 ⟨?_, kz⟩, List.Pairwise.nil⟩ nokid
  all_goals first
    | exact .inr rfl
    | exact .inl (by decide)
    | exact .inr em_list
    | exact key5 h1
    | omega
    | (intro _; split <;> omega)
    | (rintro ⟨e, _⟩; omega)
theorem says_good (d : List UInt8) : ∀ (m : Nat) (t : Tr) (typ pos par wid lim : Int), t.size ≤ m → saysF d typ pos par wid lim t = true → allN goodN t := by
  intro m
  induction m with
  | zero => intro t typ pos par wid lim h; have := t.size_pos; omega
  | succ m ih =>
    intro t typ pos par wid lim h hs
    obtain ⟨⟨_, _, hleg⟩, hc⟩ := says_cases hs
    rcases hc with ⟨hn, hl⟩ | ⟨hn, hf, ht, hl⟩ | ⟨hn, hf, ht, hl⟩
    · exact leaf_good (.inl hn) hl
    · exact leaf_good (.inr ht) hl
    · obtain ⟨k, n, u, s, keys, l⟩ := t
      simp only [listF, Tr.kids, Bool.and_eq_true] at hl
      obtain ⟨hp, hk⟩ := hl
      have hp := front_iff.1 hp
      obtain ⟨f1, f2, f3, f4⟩ := shape_of hleg hn ht
      obtain ⟨p1, p2, p3, p4, p5, _, _, p8, p9⟩ := hp
      subst p2 p3 p4
      rw [← p1] at f1 f2 f3 f4 p5 p9
      have hkids : ∀ x ∈ l, allN goodN x ∧ (taggedB k = true ∨ x.kind = partF k) := by
        intro x hx
        have hsz := size_mem hx
        obtain ⟨i, hi⟩ := List.getElem?_of_mem hx
        have h1 := (kids_iff.1 hk i x hi).2
        simp only [Tr.size] at h
        refine ⟨ih x _ _ _ _ _ (by omega) h1, ?_⟩
        cases htg : taggedB k with
        | true => exact .inl rfl
        | false =>
          rw [htg] at f3
          refine .inr ?_
          have h2 := says_kind h1
          unfold elemOf at h2
          rw [← p1, htg, if_neg (by decide)] at h2
          rw [h2]
          exact f3.resolve_left (by decide)
      have hkeys : keys.Pairwise (fun a b => ltS a b = true) ∧ (∀ x ∈ keys, zeroB x = false) := by
        by_cases h17 : k = 17
        · obtain ⟨_, _, hkf⟩ := p9 h17
          obtain ⟨hi, hnm⟩ := keys_iff hkf
          obtain ⟨_, hnk⟩ := namesF_iff hnm
          refine ⟨inc_pair hi, fun x hx => ?_⟩
          obtain ⟨i, hi⟩ := List.getElem?_of_mem hx
          have := key_zero (keySays_iff (names_iff.1 hnk i x hi)).1
          unfold zeroB
          exact decide_eq_false this
        · rw [p5 h17]; exact ⟨List.Pairwise.nil, fun x hx => by cases hx⟩
      refine allN_mk ⟨such_iff.2 ⟨by omega, .inr rfl, .inr rfl, .inr em_list, ?_, by omega, fun h17 => (p9 h17).2.1, fun h15 => ?_, fun x hx => ?_⟩, keyed_iff.2 ⟨by rintro ⟨e, _⟩; omega, (keysE_iff _ _).2 ⟨fun x hx => ⟨hkeys.2 x hx, by simp⟩, pair_nodup hkeys.1⟩⟩, hkeys.1⟩ fun x hx => (hkids x hx).1
      · by_cases h17 : k = 17
        · subst h17; exact .inl (by decide)
        · exact .inr (by rw [p5 h17]; rfl)
      · have := f2 h15
        rw [if_neg (by omega)] at p8
        omega
      · unfold otherB
        rcases (hkids x hx).2 with h1 | h1
        · rw [f4 h1]; rfl
        · rw [h1]; simp
/-- What a represented tree is. -/
theorem sorted_good {t : Tr} (hz : t.size ≤ 4096) (h : allN goodN t) : (checkE t = 0 ∨ checkE t = 61) ∧ (checkE t = 0 → sortT t = t) := by
  refine ⟨check_good _ _ (by rw [preT_length]; omega) fun p hp => ⟨(h p hp).1, (h p hp).2.1⟩, fun h0 => ?_⟩
  have hv := check_val.1 h0
  exact sort_srt t.size t 0 (Nat.le_refl _) hv.2 fun p hp => (h p hp).2.2
end Go.Proofs.Ytlhliolknaopjaa

/-
  Trees: the program's Same (slices.Equal, slices.EqualFunc). Conditions: both nodes lie in memory.
-/
namespace Go.Proofs.Ytlhliolknaopjaa
open Go Go.ChangeShapes Go.WideShapes Go.ChangeAt Go.RowKit Go.Joins Go.Deep
set_option linter.unusedVariables false
set_option linter.unusedSimpArgs false

set_option maxRecDepth 100000 in
set_option maxHeartbeats 4000000 in
theorem sequal_any (a b : List ByteArray) (v u : Value) (w : World) (ha : StrsAt w v a) (hb : StrsAt w u b) :
    Calls Try.prog 35 #[v, u] w fun r w' => r = .returned (.bool (decide (a = b))) ∧ Grew w w' := by
  have HA := Lib.hid ha
  have HB := Lib.hid hb
  obtain ⟨aa, ac, rfl, hla, hac, hz1, hz2⟩ := ha
  obtain ⟨ba, bc, rfl, hlb, hbc, hz3, hz4⟩ := hb
  unfold lenok at hac hbc
  have hal : a.length ≤ 9223372036854775807 := by omega
  have hbl : b.length ≤ 9223372036854775807 := by omega
  clear hz1 hz2 hz3 hz4 hac hbc hla hlb
  by_cases hl : a.length = b.length
  · have HL := Lib.hid hl
    rw [← hl] at HB ⊢
    clear hl hbl
    go_enter Try.func35, Try.ntmps35
    go_wp2_with fail
    go_loopw [13] (fun i wr => ∃ k : Nat, k ≤ a.length ∧ i = .int .i64 k ∧ Hid (a.take k = b.take k ∧ Grew w wr)) (fun i _ => a.length - (intOf i).toNat)
    case atStart => exact ⟨0, Nat.zero_le _, rfl, by show _ ∧ _; exact ⟨by simp, Grew.refl _⟩⟩
    case round =>
      obtain ⟨k, hk, rfl, HW⟩ := hrel
      by_cases hlt : k < a.length
      · obtain ⟨x, hx⟩ : ∃ x, a[k]? = some x := ⟨_, List.getElem?_eq_getElem hlt⟩
        have hltb : k < b.length := by have := HL.out; omega
        obtain ⟨y, hy⟩ : ∃ y, b[k]? = some y := ⟨_, List.getElem?_eq_getElem hltb⟩
        obtain ⟨ax, ab, aoff, rfl, hca⟩ : lenok x.size ∧ ∃ b off, aa = some ⟨b, off, none⟩ ∧ w.cell? ⟨b, off + k, none⟩ = some (.string x) := by
          obtain ⟨a', c', e, _, _, _, h⟩ := HA.out
          injection e with e1 e2 e3
          subst e1
          exact h k x hx
        obtain ⟨bx, bb, boff, rfl, hcb⟩ : lenok y.size ∧ ∃ b off, ba = some ⟨b, off, none⟩ ∧ w.cell? ⟨b, off + k, none⟩ = some (.string y) := by
          obtain ⟨a', c', e, _, _, _, h⟩ := HB.out
          injection e with e1 e2 e3
          subst e1
          exact h k y hy
        have c0 := HW.out.2.cell hca
        have c1 := HW.out.2.cell hcb
        have HXY := Lib.hid (And.intro hx hy)
        clear hx hy hca hcb ax bx
        have hlti : (k : Int) < a.length := by omega
        by_cases hxy : x = y
        · subst hxy
          go_wp2_with fail
          go_quiet (fail)
          go_wp2
          go_roundw
          case rel => exact ⟨k + 1, by omega, by go_num, by
            show _ ∧ _
            obtain ⟨h1, h2⟩ := HXY.out
            exact ⟨by rw [List.take_add_one, List.take_add_one, HW.out.1, h1, h2], HW.out.2.drewN _⟩⟩
          case measure => simp [intOf]; omega
        · have hne : Hid (¬ a = b) := fun e => hxy (by
            obtain ⟨h1, h2⟩ := HXY.out
            rw [e, h2] at h1
            injection h1 with h1
            exact h1.symm)
          have hbne : (x.toList == y.toList) = false := by rw [str_eq]; exact decide_eq_false hxy
          clear hxy
          go_wp2_with fail
          go_quiet (fail)
          go_wp2
          go_ret
          exact ⟨by rw [decide_eq_false hne.out]; rfl, HW.out.2.drewN _⟩
      · have ek : k = a.length := by omega
        subst ek
        have heq : Hid (a = b) := by
          show _ = _
          have h := HW.out.1
          rw [List.take_length, HL.out, List.take_length] at h
          exact h
        go_wp2
        go_ret
        exact ⟨by rw [decide_eq_true heq.out]; rfl, HW.out.2⟩
  · have hne : Hid (¬ a = b) := fun e => hl (by rw [e])
    have hb1 : ((a.length : Int) != b.length) = true := by simp; omega
    go_enter Try.func35, Try.ntmps35
    go_wp2
    go_ret
    exact ⟨by rw [decide_eq_false hne.out]; rfl, Grew.refl _⟩

/-- Same on a tree's children. -/
def SameOn (l : List Tr) : Prop := ∀ x ∈ l, ∀ (y : Tr) (v u : Value) (w : World), NodeAt w x v → NodeAt w y u → Calls Try.prog 18 #[v, u] w fun r w' => ∃ b, r = .returned (.bool b) ∧ (b = true ↔ x = y) ∧ Grew w w'
set_option maxRecDepth 100000 in
set_option maxHeartbeats 4000000 in
theorem equalfunc_any (l l2 : List Tr) (lv lv2 : Value) (vs vs2 : List Value) (w : World) (hr : RowsAt w lv vs) (hk : KidsAt w l vs) (hr2 : RowsAt w lv2 vs2) (hk2 : KidsAt w l2 vs2) (hs : SameOn l) :
    Calls Try.prog 36 #[lv, lv2, .func (.func 18) #[] #[]] w fun r w' => ∃ b, r = .returned (.bool b) ∧ (b = true ↔ l = l2) ∧ Grew w w' := by
  have HR := Lib.hid hr
  have HK := Lib.hid hk
  have HR2 := Lib.hid hr2
  have HK2 := Lib.hid hk2
  have HS := Lib.hid hs
  have hkl := hk.length
  have hkl2 := hk2.length
  obtain ⟨a, c, rfl, hlc, hc, hz1, hz2⟩ := hr
  obtain ⟨a2, c2, rfl, hlc2, hc2, hz3, hz4⟩ := hr2
  unfold lenok at hc hc2
  rw [hkl] at HR hlc ⊢
  rw [hkl2] at HR2 hlc2 ⊢
  have hlen : l.length ≤ 9223372036854775807 := by omega
  have hlen2 : l2.length ≤ 9223372036854775807 := by omega
  clear hz1 hz2 hz3 hz4 hk hk2 hkl hkl2 hlc hc hlc2 hc2 hs
  by_cases hl : l.length = l2.length
  · have HL := Lib.hid hl
    rw [← hl] at HR2 ⊢
    clear hl hlen2
    go_enter Try.func36, Try.ntmps36
    go_wp2_with fail
    go_loopw [17] (fun i wr => ∃ k : Nat, k ≤ l.length ∧ i = .int .i64 k ∧ Hid (l.take k = l2.take k ∧ Grew w wr)) (fun i _ => l.length - (intOf i).toNat)
    case atStart => exact ⟨0, Nat.zero_le _, rfl, by show _ ∧ _; exact ⟨by simp, Grew.refl _⟩⟩
    case round =>
      obtain ⟨k, hk, rfl, HW⟩ := hrel
      by_cases hlt : k < l.length
      · obtain ⟨x, hx⟩ : ∃ x, l[k]? = some x := ⟨_, List.getElem?_eq_getElem hlt⟩
        have hltb : k < l2.length := by have := HL.out; omega
        obtain ⟨y, hy⟩ : ∃ y, l2[k]? = some y := ⟨_, List.getElem?_eq_getElem hltb⟩
        obtain ⟨xv, hxv, hnx⟩ := HK.out.get hx
        obtain ⟨yv, hyv, hny⟩ := HK2.out.get hy
        obtain ⟨b, off, rfl, hc6⟩ : ∃ b off, a = some ⟨b, off, none⟩ ∧ Cells6 wr b (off + k * 6) xv := by
          obtain ⟨a, c, e, _, _, _, h⟩ := HR.out
          injection e with e1 e2 e3
          subst e1
          obtain ⟨b, off, e, h6⟩ := h k xv hxv
          exact ⟨b, off, e, h6.grew HW.out.2⟩
        obtain ⟨b', off', rfl, hd6⟩ : ∃ b off, a2 = some ⟨b, off, none⟩ ∧ Cells6 wr b (off + k * 6) yv := by
          obtain ⟨a, c, e, _, _, _, h⟩ := HR2.out
          injection e with e1 e2 e3
          subst e1
          obtain ⟨b, off, e, h6⟩ := h k yv hyv
          exact ⟨b, off, e, h6.grew HW.out.2⟩
        obtain ⟨xk, xn, xu, xs, xa4, xn4, xc4, xa5, xn5, xc5, rfl⟩ := hnx.node6
        obtain ⟨yk, yn, yu, ys, ya4, yn4, yc4, ya5, yn5, yc5, rfl⟩ := hny.node6
        obtain ⟨e0, e1, e2, e3, e4, e5⟩ := hc6.get
        obtain ⟨f0, f1, f2, f3, f4, f5⟩ := hd6.get
        have g0 := fun o => ((Grew.refl wr).alloc o).cell f0
        have g1 := fun o => ((Grew.refl wr).alloc o).cell f1
        have g2 := fun o => ((Grew.refl wr).alloc o).cell f2
        have g3 := fun o => ((Grew.refl wr).alloc o).cell f3
        have g4 := fun o => ((Grew.refl wr).alloc o).cell f4
        have g5 := fun o => ((Grew.refl wr).alloc o).cell f5
        have HNX := Lib.hid (And.intro hnx hny)
        have HX := Lib.hid (And.intro hx hy)
        have HXM := Lib.hid (List.mem_of_getElem? hx)
        clear hc6 hd6 hx hxv hnx hy hyv hny f0 f1 f2 f3 f4 f5
        have hlti : (k : Int) < l.length := by omega
        go_wp2_with fail
        refine (HS.out x HXM.out y _ _ _ (HNX.out.1.grew (HW.out.2.trans (((Grew.refl wr).alloc _).alloc _))) (HNX.out.2.grew (HW.out.2.trans (((Grew.refl wr).alloc _).alloc _)))).mono ?_
        rintro r w3 ⟨bb, rfl, hbb, hg⟩
        have HG := Lib.hid (HW.out.2.trans (Grew.trans (((Grew.refl wr).alloc _).alloc _) hg))
        clear hg
        cases bb
        · have HBB : Hid (¬ x = y) := fun e => absurd (hbb.2 e) (by decide)
          clear hbb
          go_wp2_with fail
          go_ret
          refine ⟨false, rfl, ⟨fun h => absurd h (by decide), fun h => ?_⟩, HG.out⟩
          obtain ⟨h1, h2⟩ := HX.out
          rw [h, h2] at h1
          injection h1 with h1
          exact absurd h1.symm HBB.out
        · have HBB : Hid (x = y) := hbb.1 rfl
          clear hbb
          go_wp2_with fail
          go_roundw
          case rel => exact ⟨k + 1, by omega, by go_num, by
            show _ ∧ _
            obtain ⟨h1, h2⟩ := HX.out
            exact ⟨by rw [List.take_add_one, List.take_add_one, HW.out.1, h1, h2, HBB.out], HG.out⟩⟩
          case measure => simp [intOf]; omega
      · have ek : k = l.length := by omega
        subst ek
        have heq : Hid (l = l2) := by
          show _ = _
          have h := HW.out.1
          rw [List.take_length, HL.out, List.take_length] at h
          exact h
        go_wp2
        go_ret
        exact ⟨true, rfl, ⟨fun _ => heq.out, fun _ => rfl⟩, HW.out.2⟩
  · have hne : Hid (¬ l = l2) := fun e => hl (by rw [e])
    have hb1 : ((l.length : Int) != l2.length) = true := by simp; omega
    go_enter Try.func36, Try.ntmps36
    go_wp2
    go_ret
    exact ⟨false, rfl, ⟨fun h => absurd h (by decide), fun h => absurd h hne.out⟩, Grew.refl _⟩
-- SAME
set_option maxRecDepth 100000 in
set_option maxHeartbeats 4000000 in
theorem same_any : ∀ (m : Nat) (t : Tr), t.size ≤ m → ∀ (t2 : Tr) (v v2 : Value) (w : World), NodeAt w t v → NodeAt w t2 v2 →
    Calls Try.prog 18 #[v, v2] w fun r w' => ∃ b, r = .returned (.bool b) ∧ (b = true ↔ t = t2) ∧ Grew w w' := by
  intro m
  induction m with
  | zero => intro t ht; have := t.size_pos; omega
  | succ m ih =>
  intro t ht t2 v v2 w hn hn2
  obtain ⟨k, n, u, s, keys, l⟩ := t
  obtain ⟨k2, n2, u2, s2, keys2, l2⟩ := t2
  simp only [NodeAt] at hn hn2
  obtain ⟨hb, kv, lv, vs, rfl, hks, hrows, hkids⟩ := hn
  obtain ⟨hb2, kv2, lv2, vs2, rfl, hks2, hrows2, hkids2⟩ := hn2
  have HKS := Lib.hid hks
  have HKS2 := Lib.hid hks2
  have HR := Lib.hid (And.intro hrows hkids)
  have HR2 := Lib.hid (And.intro hrows2 hkids2)
  obtain ⟨a4, c4, rfl, hx1, hx2, hx3, hx4⟩ := hks
  obtain ⟨b4, d4, rfl, hy1, hy2, hy3, hy4⟩ := hks2
  clear hx1 hx2 hx3 hx4 hy1 hy2 hy3 hy4
  obtain ⟨a5, c5, rfl, hll, hc5, hx3, hx4⟩ := hrows
  obtain ⟨b5, d5, rfl, hll2, hd5, hy3, hy4⟩ := hrows2
  have hS : Hid (SameOn l) := fun x hx y v u w h1 h2 => ih x (by have := size_mem hx; simp only [Tr.size] at ht; omega) y v u w h1 h2
  clear hx3 hx4 hll hy3 hy4 hll2 hc5 hd5 hb hb2 hkids hkids2 ih ht
  by_cases h0 : k = k2
  rotate_left
  · have hne : Hid (¬ (Tr.mk k n u s keys l = Tr.mk k2 n2 u2 s2 keys2 l2)) := fun e => h0 (by injection e)
    have hB : (k == k2) = false := by simp [h0]
    clear h0
    go_enter Try.func18, Try.ntmps18
    go_wp2_with fail
    go_ret
    exact ⟨false, rfl, ⟨fun h => absurd h (by decide), fun h => absurd h hne.out⟩, ((Grew.refl w).alloc _).alloc _⟩
  subst h0
  by_cases h1 : n = n2
  rotate_left
  · have hne : Hid (¬ (Tr.mk k n u s keys l = Tr.mk k n2 u2 s2 keys2 l2)) := fun e => h1 (by injection e)
    have hB : (n == n2) = false := by simp [h1]
    clear h1
    go_enter Try.func18, Try.ntmps18
    go_wp2_with fail
    go_ret
    exact ⟨false, rfl, ⟨fun h => absurd h (by decide), fun h => absurd h hne.out⟩, ((Grew.refl w).alloc _).alloc _⟩
  subst h1
  by_cases h2 : u = u2
  rotate_left
  · have hne : Hid (¬ (Tr.mk k n u s keys l = Tr.mk k n u2 s2 keys2 l2)) := fun e => h2 (by injection e)
    have hB : (u == u2) = false := by simp [h2]
    clear h2
    go_enter Try.func18, Try.ntmps18
    go_wp2_with fail
    go_ret
    exact ⟨false, rfl, ⟨fun h => absurd h (by decide), fun h => absurd h hne.out⟩, ((Grew.refl w).alloc _).alloc _⟩
  subst h2
  by_cases h3 : s = s2
  rotate_left
  · have hne : Hid (¬ (Tr.mk k n u s keys l = Tr.mk k n u s2 keys2 l2)) := fun e => h3 (by injection e)
    have hB : (s.toList == s2.toList) = false := by rw [str_eq]; exact decide_eq_false h3
    clear h3
    go_enter Try.func18, Try.ntmps18
    go_wp2_with fail
    go_ret
    exact ⟨false, rfl, ⟨fun h => absurd h (by decide), fun h => absurd h hne.out⟩, ((Grew.refl w).alloc _).alloc _⟩
  subst h3
  by_cases h4 : keys = keys2
  rotate_left
  · have hne : Hid (¬ (Tr.mk k n u s keys l = Tr.mk k n u s keys2 l2)) := fun e => h4 (by injection e)
    have hB : decide (keys = keys2) = false := decide_eq_false h4
    have HBD := Lib.hid hB
    clear h4 hB
    go_enter Try.func18, Try.ntmps18
    go_wp2_with fail
    have hh := sequal_any keys keys2 _ _ _ (HKS.out.grew (((Grew.refl w).alloc (.cells #[.int .i64 k, .int .i64 n, .int .u64 u, .string s, .slice a4 keys.length c4, .slice a5 vs.length c5] 27)).alloc (.cells #[.int .i64 k, .int .i64 n, .int .u64 u, .string s, .slice b4 keys2.length d4, .slice b5 vs2.length d5] 27))) (HKS2.out.grew (((Grew.refl w).alloc (.cells #[.int .i64 k, .int .i64 n, .int .u64 u, .string s, .slice a4 keys.length c4, .slice a5 vs.length c5] 27)).alloc (.cells #[.int .i64 k, .int .i64 n, .int .u64 u, .string s, .slice b4 keys2.length d4, .slice b5 vs2.length d5] 27)))
    rw [HBD.out] at hh
    refine hh.mono ?_
    clear hh
    rintro r w3 ⟨rfl, hg⟩
    have HG := Lib.hid (Grew.trans (((Grew.refl w).alloc (.cells #[.int .i64 k, .int .i64 n, .int .u64 u, .string s, .slice a4 keys.length c4, .slice a5 vs.length c5] 27)).alloc (.cells #[.int .i64 k, .int .i64 n, .int .u64 u, .string s, .slice b4 keys2.length d4, .slice b5 vs2.length d5] 27)) hg)
    clear hg
    go_wp2_with fail
    go_ret
    exact ⟨false, rfl, ⟨fun h => absurd h (by decide), fun h => absurd h hne.out⟩, HG.out⟩
  subst h4
  go_enter Try.func18, Try.ntmps18
  go_wp2_with fail
  have hA1 := heap_alloc_new w (.cells #[.int .i64 k, .int .i64 n, .int .u64 u, .string s, .slice a4 keys.length c4, .slice a5 vs.length c5] 27)
  have hG1 := (Grew.refl w).alloc (.cells #[.int .i64 k, .int .i64 n, .int .u64 u, .string s, .slice a4 keys.length c4, .slice a5 vs.length c5] 27)
  have hS1 : (w.alloc (.cells #[.int .i64 k, .int .i64 n, .int .u64 u, .string s, .slice a4 keys.length c4, .slice a5 vs.length c5] 27)).heap.size = w.heap.size + 1 := World.size_alloc _ _
  generalize w.alloc (.cells #[.int .i64 k, .int .i64 n, .int .u64 u, .string s, .slice a4 keys.length c4, .slice a5 vs.length c5] 27) = w1 at *
  have hA2 := heap_alloc_new w1 (.cells #[.int .i64 k, .int .i64 n, .int .u64 u, .string s, .slice b4 keys.length d4, .slice b5 vs2.length d5] 27)
  have hG2 := (Grew.refl w1).alloc (.cells #[.int .i64 k, .int .i64 n, .int .u64 u, .string s, .slice b4 keys.length d4, .slice b5 vs2.length d5] 27)
  rw [hS1] at hA2
  generalize w1.alloc (.cells #[.int .i64 k, .int .i64 n, .int .u64 u, .string s, .slice b4 keys.length d4, .slice b5 vs2.length d5] 27) = w2 at *
  replace hA1 := hG2.heap hA1
  have HG := Lib.hid (hG1.trans hG2)
  clear hG1 hG2 hS1
  have hh := sequal_any keys keys _ _ _ (HKS.out.grew HG.out) (HKS2.out.grew HG.out)
  rw [decide_eq_true rfl] at hh
  refine hh.mono ?_
  clear hh
  rintro r w3 ⟨rfl, hg⟩
  replace hA1 := hg.heap hA1
  replace hA2 := hg.heap hA2
  replace HG := Lib.hid (HG.out.trans hg)
  have a0 := row_cellT hA1 5 _ rfl
  have b0 := row_cellT hA2 5 _ rfl
  clear hA1 hA2 hg
  go_wp2_with fail
  refine (equalfunc_any l l2 _ _ vs vs2 w3 (HR.out.1.grew HG.out) (HR.out.2.grew HG.out) (HR2.out.1.grew HG.out) (HR2.out.2.grew HG.out) hS.out).mono ?_
  rintro r w4 ⟨bb, rfl, hbb, hg⟩
  have HX := Lib.hid (And.intro hbb (HG.out.trans hg))
  clear hbb hg
  go_wp2_with fail
  go_ret
  refine ⟨bb, rfl, ⟨fun h => ?_, fun h => HX.out.1.2 (by injection h)⟩, HX.out.2⟩
  rw [HX.out.1.1 h]
end Go.Proofs.Ytlhliolknaopjaa

/-
  Denote: what the laws share. Conditions: none.
-/
namespace Go.Proofs.Ytlhliolknaopjaa
open Go Go.ChangeShapes Go.WideShapes Go.ChangeAt Go.RowKit Go.Joins Go.Deep
set_option linter.unusedVariables false
set_option linter.unusedSimpArgs false

theorem cutB_len (d : List UInt8) : (cutB d).length ≤ 1048576 := by unfold cutB; rw [List.length_take]; omega
theorem holds_says {d : List UInt8} {t : Tr} (h : holdsF d t = true) : saysF d (Ft.unpackF ((d[d.length - 2]?).getD 0).toNat).1 ((d.length : Int) - 2 - lastB d 1) (lastB d 1) (Ft.unpackF ((d[d.length - 2]?).getD 0).toNat).2.1 ((d.length : Int) - 2 - lastB d 1) t = true := by
  unfold holdsF at h
  simp only [Bool.and_eq_true] at h
  exact h.2.2
theorem holds_uniq {d : List UInt8} {t u : Tr} (h : holdsF d t = true) (g : holdsF d u = true) : t = u := says_uniq d _ t u _ _ _ _ _ (Nat.le_refl _) (holds_says h) (holds_says g)
theorem holds_good {d : List UInt8} {t : Tr} (h : holdsF d t = true) : allN goodN t := says_good d _ t _ _ _ _ _ (Nat.le_refl _) (holds_says h)
theorem bool_of27 {b : Bool} {p : Prop} (h : b = true ↔ p) (hp : p) : b = true := h.2 hp
theorem sorted_sum27 {w w' : World} {t : Tr} {r : Ending} (h : SortedOut w t r w') : Grew w w' ∧ ∃ (e k n u : Int) (s : ByteArray) (a4 : Option Addr) (n4 c4 : Nat) (a5 : Option Addr) (n5 c5 : Nat), r = .returned (.tuple #[.agg #[.int .i64 k, .int .i64 n, .int .u64 u, .string s, .slice a4 n4 c4, .slice a5 n5 c5], .int .i64 e]) ∧ e = checkE t ∧ (e = 0 → NodeAt w' (sortT t) (.agg #[.int .i64 k, .int .i64 n, .int .u64 u, .string s, .slice a4 n4 c4, .slice a5 n5 c5])) := by
  obtain ⟨hg, ⟨h0, rfl⟩ | ⟨h0, v, S, rfl, ho, hf⟩⟩ := h
  · exact ⟨hg, checkE t, 0, 0, 0, ⟨#[]⟩, none, 0, 0, none, 0, 0, rfl, rfl, fun h => absurd h h0⟩
  · obtain ⟨k, n, u, s, a4, n4, c4, a5, n5, c5, rfl⟩ := ho.node6
    exact ⟨hg, 0, k, n, u, s, a4, n4, c4, a5, n5, c5, rfl, h0.symm, fun _ => ho.node⟩
/-- Bytes of one's own. -/
def OwnD (B : Nat) (d : List UInt8) (v : Value) (S : Nat → Prop) (w : World) : Prop := w.ownsRow B 5 1 v d.length (Lib.byteCells d) ∧ ∀ g, v.ownBlock = some g → S g
theorem OwnD.st (B : Nat) (d : List UInt8) : ∀ v S w w', Grew w w' → OwnD B d v S w → OwnD B d v S w' := fun _ _ _ _ hg h => ⟨Moved.owns (Moved.of_grew (S := fun _ => False) hg) h.1 (fun _ _ h => h), h.2⟩
theorem OwnD.made {w w' : World} {B : Nat} {d : List UInt8} {v : Value} (hB : B ≤ w.heap.size) (h : w'.ownsRow w.heap.size 5 1 v d.length (Lib.byteCells d)) : sepOK (some (OwnD B d)) v w w' := ⟨fun g => v.ownBlock = some g, ⟨rows_base h hB, fun _ h => h⟩, fun g hg => World.ownsRow.lt h g hg⟩
/-- An operation that takes a value over. -/
theorem wpList_over {P : Program} {ops : Array Oper} {rest : List Oper} {o : Oper} {a : Act} {w : World} {Q : Exit → Act → World → Prop} (hgd : o.guard = none) (x : Operand) (ho : o.op = .assign x) (h : wpList P ops Q rest (a.put o.dst (a.eval x)) w) : wpList P ops Q (o :: rest) a w :=
  wpList_plain hgd fun _ hK => by
    unfold Oper.wp execOp
    simp only [ho, Sem.run_pure]
    exact hK _ _ h
end Go.Proofs.Ytlhliolknaopjaa

/-
  Plain lemma, no program: as RegionT, but a fact need only stay under the operations that may still come.
-/
namespace Go.Proofs.Ytlhliolknaopjaa
set_option linter.unusedSimpArgs false
set_option linter.unusedVariables false
open Go Go.RowKit
section
variable {P : Program} {ops : Array Oper}
theorem wpAny_of_factsD {m : Nat} {I : World → Prop} {T : Nat → World → World → Prop} {R : World → World → Prop} {D : Array (List Nat)} {Φ : Nat → (Nat → Value) → Value → World → Prop} {a0 : Act} {w0 : World} {Q : Exit → Act → World → Prop}
    (hRt : ∀ {a b c : World}, R a b → R b c → R a c) (hTR : ∀ i w w', T i w w' → R w w') (hTr : ∀ i w, T i w w) (hTI : ∀ i, i ≠ m → ∀ w w', T i w w' → I w → I w') (hcg : ∀ j y y' v w, (∀ k ∈ D.getD j [], y k = y' k) → Φ j y v w → Φ j y' v w) (hchk : factsOK ops D = true) (hst : ∀ i j, i ≠ j → i ∉ D.getD j [] → ∀ y v w w', T i w w' → Φ j y v w → Φ j y v w') (hrr : ∀ w, R w w)
    (hop : ∀ i o, ops[i]? = some o → opWordT P ops m I T R D Φ a0 w0 i o)
    (hfin : ∀ y w, R w0 w → (∀ j, j < ops.size → Φ j y (y j) w) → Q .normal (fillL y (pairsOf ops) a0) w) :
    ∀ (fuel : Nat) (listed : Array Bool) (a : Act) (w : World) (y : Nat → Value), ((List.range ops.size).filter fun j => !listed.getD j true).length ≤ fuel →
      InvFT ops m I R D Φ a0 w0 listed a w y → wpAny P .any ops Q fuel listed a w := by
  simp only [factsOK, Bool.and_eq_true, List.all_eq_true, List.mem_range] at hchk
  obtain ⟨hkeys, hrows⟩ := hchk
  -- nothing ready: all has been listed
  have hall : ∀ (listed : Array Bool), listed.size = ops.size → Region.ready .any ops listed = [] → ∀ j, j < ops.size → listed.getD j false = true := by
    intro listed hs hnil j
    induction j using Nat.strongRecOn with
    | ind j ih =>
      intro hj
      cases hl : listed.getD j false with
      | true => rfl
      | false =>
        exfalso
        have hmem : j ∈ Region.ready .any ops listed := by
          rw [mem_ready]
          refine ⟨by rw [listed_cases (by omega)]; exact hl, ops[j], Array.getElem?_eq_getElem hj, fun e he hb => ?_⟩
          have hrow := hrows j hj
          rw [Array.getElem?_eq_getElem hj] at hrow
          simp only [Bool.and_eq_true, List.all_eq_true, decide_eq_true_eq] at hrow
          have hlt := hrow.1 e.on (List.mem_map.2 ⟨e, List.mem_filter.2 ⟨by simpa using he, hb⟩, rfl⟩)
          exact ih e.on hlt (by omega)
        rw [hnil] at hmem
        cases hmem
  have hdone : ∀ (listed : Array Bool) (a : Act) (w : World) (y : Nat → Value), InvFT ops m I R D Φ a0 w0 listed a w y → Region.ready .any ops listed = [] → Q .normal a w := by
    intro listed a w y hI hnil
    rw [hI.act]
    exact hfin y w hI.grown (fun j hj => hI.facts j (hall listed hI.size hnil j hj))
  intro fuel
  induction fuel with
  | zero =>
    intro listed a w y hlen hI
    have hnil : Region.ready .any ops listed = [] := by
      have h0 : ((List.range ops.size).filter fun j => !listed.getD j true) = [] := List.length_eq_zero_iff.1 (by omega)
      refine List.eq_nil_iff_forall_not_mem.2 fun j hj => ?_
      have hj' := mem_ready.1 hj
      have : j ∈ ((List.range ops.size).filter fun j => !listed.getD j true) := by
        obtain ⟨hl, o, ho, _⟩ := hj'
        exact List.mem_filter.2 ⟨List.mem_range.2 (Array.getElem?_eq_some_iff.1 ho).1, by simp [hl]⟩
      rw [h0] at this
      cases this
    exact ⟨hnil, hdone listed a w y hI hnil⟩
  | succ fuel ih =>
    intro listed a w y hlen hI
    refine ⟨hdone listed a w y hI, fun i hi => ?_⟩
    obtain ⟨hun, o, ho, hedges⟩ := mem_ready.1 hi
    have hilt : i < ops.size := (Array.getElem?_eq_some_iff.1 ho).1
    have hunf : listed.getD i false = false := by rw [← listed_cases (by rw [hI.size]; exact hilt)]; exact hun
    have hrow := hrows i hilt
    rw [ho] at hrow
    simp only [Bool.and_eq_true, List.all_eq_true, decide_eq_true_eq, List.any_eq_true, Bool.or_eq_true, beq_iff_eq, List.contains_iff_mem] at hrow
    -- what i waits for has been listed
    have hD : ∀ k ∈ D.getD i [], listed.getD k false = true := by
      intro k hk
      obtain ⟨e, he, hek⟩ := hrow.2 k hk
      obtain ⟨ed, hed, rfl⟩ := List.mem_map.1 he
      obtain ⟨hed1, hed2⟩ := List.mem_filter.1 hed
      have hl := hedges ed (by simpa using hed1) hed2
      rcases hek with rfl | hek
      · exact hl
      · exact hI.closed _ hl k hek
    have hcan : fillL y (canonL ops D i) a0 = a := by
      rw [hI.act]
      refine fillL_filter y _ _ a0 hkeys ?_
      rintro ⟨d, j⟩ hq hp
      simp only [Bool.not_eq_false', Bool.or_eq_true, beq_iff_eq] at hp
      have hdst := mem_pairsOf.1 hq
      refine hI.open_ j d ?_ hdst
      rcases hp with rfl | hw
      · exact hun
      · have hjlt : j < listed.size := by
          rw [hI.size]
          rcases Nat.lt_or_ge j ops.size with h' | h'
          · exact h'
          · rw [Array.getElem?_eq_none h'] at hdst; cases hdst
        rw [listed_cases hjlt]
        cases hl : listed.getD j false with
        | false => rfl
        | true =>
          have := hI.closed j hl i (by simpa [waits] using hw)
          rw [hunf] at this
          cases this
    have hw := hop i o ho y w hI.grown (fun e => hI.pre (by rw [← e]; exact hunf)) (fun j hj => hI.facts j (hD j hj)) (fun a' w' => ∃ v, a' = a.put o.dst v ∧ T i w w' ∧ Φ i y v w')
    rw [hcan] at hw
    have hlen' : ((List.range ops.size).filter fun j => !(listed.setIfInBounds i true).getD j true).length ≤ fuel := by
      have : ((List.range ops.size).filter fun j => !(listed.setIfInBounds i true).getD j true).length < ((List.range ops.size).filter fun j => !listed.getD j true).length := by
        refine filter_lt _ i (fun j hj => ?_) (List.mem_range.2 hilt) (by rw [hun]; rfl) ?_
        · by_cases hij : i = j
          · subst hij
            have h2 : i < listed.size := by rw [hI.size]; exact hilt
            simp [h2] at hj
          · rw [getD_set_ne true hij] at hj; exact hj
        · have h2 : i < listed.size := by rw [hI.size]; exact hilt
          simp [h2]
      omega
    have hnext : ∀ v w', T i w w' → Φ i y v w' → wpAny P .any ops Q fuel (listed.setIfInBounds i true) (a.put o.dst v) w' := by
      intro v w' hr0 hφ
      have hr : R w w' := hTR _ _ _ hr0
      have hag : ∀ j, listed.getD j false = true ∨ j = i → ∀ k ∈ D.getD j [], y k = (if k = i then v else y k) := by
        intro j hj k hk
        have hkl : listed.getD k false = true := by
          rcases hj with hj | hj
          · exact hI.closed j hj k hk
          · rw [hj] at hk; exact hD k hk
        have hki : k ≠ i := fun e => by rw [e, hunf] at hkl; cases hkl
        rw [if_neg hki]
      have h2 : i < listed.size := by rw [hI.size]; exact hilt
      refine ih _ _ _ (fun k => if k = i then v else y k) hlen' ⟨by simp [hI.size], ?_, hRt hI.grown hr, fun hm => ?_, ?_, ?_, ?_⟩
      · cases hd : o.dst with
        | none =>
          rw [hI.act]
          show fillL y (pairsOf ops) a0 = _
          refine fillL_congr _ _ _ _ fun p hp => ?_
          have := mem_pairsOf.1 (show (p.1, p.2) ∈ pairsOf ops from hp)
          have hne : p.2 ≠ i := fun he => by rw [he, ho] at this; simp [hd] at this
          simp [hne]
        | some d =>
          rw [hI.act, fillL_set y i v _ a0 d hkeys (mem_pairsOf.2 (by simp [ho, hd]))]
      · by_cases him : i = m
        · subst him; simp [h2] at hm
        · rw [getD_set_ne false him] at hm
          exact hTI i him _ _ hr0 (hI.pre hm)
      · intro j hj
        by_cases hji : j = i
        · subst hji
          rw [if_pos rfl]
          exact hcg j y _ v w' (hag j (.inr rfl)) hφ
        · rw [if_neg hji]
          rw [getD_set_ne false (Ne.symm hji)] at hj
          exact hcg j y _ (y j) w' (hag j (.inl hj)) (hst i j (Ne.symm hji) (fun hm => by have := hI.closed j hj i hm; rw [hunf] at this; cases this) y _ _ _ hr0 (hI.facts j hj))
      · intro j d hj hdst
        have hji : j ≠ i := fun he => by subst he; simp [h2] at hj
        simp only [hji, if_false]
        rw [getD_set_ne true (Ne.symm hji)] at hj
        exact hI.open_ j d hj hdst
      · intro j hj k hk
        by_cases hji : j = i
        · subst hji; exact getD_set_true (hD k hk)
        · rw [getD_set_ne false (Ne.symm hji)] at hj
          exact getD_set_true (hI.closed j hj k hk)
    unfold wpOp
    simp only [ho]
    have hw2 := hw (fun v w' hr hφ => ⟨v, rfl, hr, hφ⟩)
    split at hw2
    · rename_i hwa
      rw [if_pos hwa]
      refine .inl ?_
      have h3 : o.wp P a w (wpAny P .any ops Q fuel (listed.setIfInBounds i true)) (fun _ _ _ => False) :=
        Oper.wp_mono (fun a' w' ⟨v, he, hr, hφ⟩ => by subst he; exact hnext v w' hr hφ) hw2
      exact wp_exit h3
    · rename_i hwa
      rw [if_neg hwa]
      obtain ⟨v, he, hr, hφ⟩ := hw2
      rw [he]
      exact hnext v w hr hφ
where
  wp_exit {o : Oper} {a : Act} {w : World} {K : Act → World → Prop} {Q : Exit → Act → World → Prop} (h : o.wp P a w K (fun _ _ _ => False)) : o.wp P a w K Q := by
    unfold Oper.wp at *
    generalize (execOp a.eval o).run P w = r at *
    cases r with
    | ok n w' =>
      cases n <;> simp only [Oper.upon] at h ⊢
      case enter f args =>
        refine Calls.mono h fun e w'' he => ?_
        cases e with
        | returned v => exact he
        | panicked c => exact he.elim
        | outgrown => obtain ⟨_, _, hq⟩ := he; exact hq.elim
      all_goals exact h
    | halt x w' => cases x <;> simp only [Oper.upon] at h

/-- **A region that draws its order, by facts.** -/
theorem wp_region_factsD {id : Nat} {a0 : Act} {w0 : World} {Q : Exit → Act → World → Prop} (R : World → World → Prop) (m : Nat) (I : World → Prop) (T : Nat → World → World → Prop) (D : Array (List Nat)) (Φ : Nat → (Nat → Value) → Value → World → Prop) (hm : P.follows .mixedOrders = true)
    (hRt : ∀ {a b c : World}, R a b → R b c → R a c) (hrr : ∀ w, R w w) (hTR : ∀ i w w', T i w w' → R w w') (hTr : ∀ i w, T i w w) (hTI : ∀ i, i ≠ m → ∀ w w', T i w w' → I w → I w') (hcg : ∀ j y y' v w, (∀ k ∈ D.getD j [], y k = y' k) → Φ j y v w → Φ j y' v w) (hI0 : I w0.drew) (hd : R w0 w0.drew) (hchk : factsOK ops D = true) (hst : ∀ i j, i ≠ j → i ∉ D.getD j [] → ∀ y v w w', T i w w' → Φ j y v w → Φ j y v w')
    (hop : allWords (opWordT P ops m I T R D Φ a0 w0) 0 ops.toList)
    (hfin : ∀ y w, R w0 w → (∀ j, j < ops.size → Φ j y (y j) w) → Q .normal (fillL y (pairsOf ops) a0) w) : (Code.region id ops true).wp P Q a0 w0 := by
  refine wp_region_any hm ?_
  refine wpAny_of_factsD (m := m) (I := I) (T := T) (R := R) (D := D) (Φ := Φ) (a0 := a0) (w0 := w0) hRt hTR hTr hTI hcg hchk hst hrr (fun i o ho => ?_) hfin ops.size _ a0 _ (fun j => match (ops[j]?).bind (·.dst) with | some d => a0.tmps.getD d undef | none => undef) ?_ ⟨by simp, ?_, hd, fun _ => hI0, ?_, ?_, ?_⟩
  · have := allWords_get _ 0 i o hop (by simpa using ho)
    simpa using this
  · exact Nat.le_trans (List.length_filter_le _ _) (by simp)
  · symm
    have : ∀ (L : List (Nat × Nat)), (∀ p ∈ L, (ops[p.2]?).bind (·.dst) = some p.1) → fillL (fun j => match (ops[j]?).bind (·.dst) with | some d => a0.tmps.getD d undef | none => undef) L a0 = a0 := by
      intro L
      induction L with
      | nil => intro _; rfl
      | cons p L ih =>
        intro h
        obtain ⟨d, j⟩ := p
        have hd := h (d, j) (by simp)
        simp only at hd
        show fillL _ L (a0.put (some d) _) = a0
        simp only [hd]
        rw [put_self]
        exact ih (fun p hp => h p (by simp [hp]))
    exact this _ (fun p hp => mem_pairsOf.1 hp)
  · intro j hj
    have h : (Array.replicate ops.size false).getD j false = false := by
      simp [Array.getD]
    rw [h] at hj; cases hj
  · intro j d _ hdst
    simp only [hdst]
    exact put_self a0 d
  · intro j hj
    have h : (Array.replicate ops.size false).getD j false = false := by
      simp [Array.getD]
    rw [h] at hj; cases hj


def stLD (D : List (List Nat)) (T : Nat → World → World → Prop) : Nat → List ((Nat → Value) → Value → World → Prop) → Prop
  | _, [] => True
  | j, φ :: r => (∀ i, i ≠ j → (D.getD j []).contains i = false → ∀ y v w w', T i w w' → φ y v w → φ y v w') ∧ stLD D T (j + 1) r
theorem stLD_get {D : List (List Nat)} {T : Nat → World → World → Prop} : ∀ (Φ : List ((Nat → Value) → Value → World → Prop)) (j : Nat), stLD D T j Φ → ∀ k φ, Φ[k]? = some φ → ∀ i, i ≠ j + k → (D.getD (j + k) []).contains i = false → ∀ y v w w', T i w w' → φ y v w → φ y v w'
  | φ :: r, j, h, 0, ψ, hk => by
    simp at hk
    subst hk
    exact h.1
  | φ :: r, j, h, k + 1, ψ, hk => by
    intro i hi hd y v w w' hr
    exact stLD_get r (j + 1) h.2 k ψ (by simpa using hk) i (by omega) (by rw [show j + 1 + k = j + (k + 1) by omega]; exact hd) y v w w' hr
/-- **A region that draws its order, by facts, the tables written out.** -/
theorem wp_region_tablesD {id : Nat} {a0 : Act} {w0 : World} {Q : Exit → Act → World → Prop} (R : World → World → Prop) (m : Nat) (I : World → Prop) (T : Nat → World → World → Prop) (D : List (List Nat)) (C : List (List (Nat × Nat))) (F : List (Nat × Nat)) (Φ : List ((Nat → Value) → Value → World → Prop)) (hm : P.follows .mixedOrders = true)
    (hRt : ∀ {a b c : World}, R a b → R b c → R a c) (hrr : ∀ w, R w w) (hTR : ∀ i w w', T i w w' → R w w') (hTr : ∀ i w, T i w w) (hTI : ∀ i, i ≠ m → ∀ w w', T i w w' → I w → I w') (hI0 : I w0.drew) (hd : R w0 w0.drew) (hchk : tablesOK ops D C F = true) (hst : stLD D T 0 Φ) (hcg : cgLT D 0 Φ)
    (hop : allWT P ops m I T R Φ a0 w0 0 ops.toList D C)
    (hlen : Φ.length = ops.size)
    (hfin : ∀ y w, R w0 w → factsT y w 0 Φ → Q .normal (fillL y F a0) w) : (Code.region id ops true).wp P Q a0 w0 := by
  simp only [tablesOK, Bool.and_eq_true, decide_eq_true_eq, List.all_eq_true, List.mem_range] at hchk
  obtain ⟨⟨h1, h2⟩, h3⟩ := hchk
  subst h2
  refine wp_region_factsD R m I T D.toArray (fun j => Φ.getD j (fun _ _ _ => True)) hm hRt hrr hTR hTr hTI ?_ hI0 hd h1 ?_ (allW_wordsT D C h3 ops.toList 0 D C (by simp) (by simp) (by simp) hop) (fun y w hr hj => hfin y w hr (factsT_of Φ 0 (by simp) (fun j h => hj j (by rw [← hlen]; simpa using h))))
  · intro j y y' v w hk hφ
    rcases Nat.lt_or_ge j Φ.length with hj | hj
    · have e : Φ.getD j (fun _ _ _ => True) = Φ[j] := by simp [List.getD_eq_getElem?_getD, hj]
      rw [e] at hφ ⊢
      refine cgLT_get Φ 0 hcg j _ (List.getElem?_eq_getElem hj) y y' v w ?_ hφ
      intro q hq
      refine hk q ?_
      rw [Nat.zero_add] at hq
      simpa [Array.getD_eq_getD_getElem?, List.getD_eq_getElem?_getD] using hq
    · have e : Φ.getD j (fun _ _ _ => True) = fun _ _ _ => True := by simp [List.getD_eq_getElem?_getD, hj]
      rw [e]; trivial
  · intro i j hij hnd y v w w' hr hφ
    rcases Nat.lt_or_ge j Φ.length with hj | hj
    · have e : Φ.getD j (fun _ _ _ => True) = Φ[j] := by simp [List.getD_eq_getElem?_getD, hj]
      rw [e] at hφ ⊢
      refine stLD_get Φ 0 hst j _ (List.getElem?_eq_getElem hj) i (by rw [Nat.zero_add]; exact hij) ?_ y v w w' hr hφ
      rw [Nat.zero_add]
      cases hc : (D.getD j []).contains i with
      | false => rfl
      | true =>
        refine absurd ?_ hnd
        have : i ∈ D.getD j [] := by simpa using hc
        simpa [Array.getD_eq_getD_getElem?, List.getD_eq_getElem?_getD] using this
    · have e : Φ.getD j (fun _ _ _ => True) = fun _ _ _ => True := by simp [List.getD_eq_getElem?_getD, hj]
      rw [e]; trivial

end
end Go.Proofs.Ytlhliolknaopjaa

/-
  Denote: an append of bytes to a row of one's own keeps what lies ahead of it. Conditions: the row is one's own.
-/
namespace Go.Proofs.Ytlhliolknaopjaa
open Go Go.ChangeShapes Go.WideShapes Go.ChangeAt Go.RowKit Go.Joins Go.Deep
set_option linter.unusedVariables false
set_option linter.unusedSimpArgs false

def OwnU (w : World) (B : Nat) (v : Value) (L : List UInt8) : Prop := w.ownsRow B 5 1 v L.length (Lib.byteCells L)
theorem cells_app (a b : List UInt8) : Lib.byteCells (a ++ b) = Lib.byteCells a ++ Lib.byteCells b := by simp [Lib.byteCells]
theorem cells_len (a : List UInt8) : (Lib.byteCells a).length = a.length := by simp [Lib.byteCells]
theorem OwnU.grew {w w' : World} {B : Nat} {v : Value} {L : List UInt8} (h : OwnU w B v L) (hg : Grew w w') : OwnU w' B v L := Moved.owns (Moved.of_grew (S := fun _ => False) hg) h (fun _ _ h => h)
/-- Blocks below B stay; of every row of bytes the first n cells stay. -/
def KeepU (B n : Nat) (w w' : World) : Prop :=
  Below B w w' ∧ ∀ (g : Nat) (cur : Array Value), w.heap[g]? = some (Obj.cells cur 5 (0, 0)) → ∃ cur' : Array Value, w'.heap[g]? = some (Obj.cells cur' 5 (0, 0)) ∧ cur'.size = cur.size ∧ cur'.toList.take n = cur.toList.take n
theorem KeepU.of_grew {B n : Nat} {w w' : World} (h : Grew w w') (hB : B ≤ w.heap.size) : KeepU B n w w' := ⟨Below.mono h hB, fun g cur hg => ⟨cur, h.heap hg, rfl, rfl⟩⟩
theorem OwnU.keep {B n : Nat} {w w' : World} {v : Value} {L : List UInt8} (h : OwnU w B v L) (hk : KeepU B n w w') (hn : L.length ≤ n) : OwnU w' B v L := by
  refine ⟨h.1, ?_⟩
  rcases h.2 with h2 | ⟨g, cap, cur, h1, hB, h2, h3, h4, h5, h6⟩
  · exact .inl h2
  · obtain ⟨cur', q1, q2, q3⟩ := hk.2 g cur h2
    refine .inr ⟨g, cap, cur', h1, hB, q1, h3, h4, by rw [q2]; exact h5, ?_⟩
    have e : cur'.toList.take (L.length * 1) = (cur'.toList.take n).take (L.length * 1) := by rw [List.take_take]; congr 1; omega
    have e2 : cur.toList.take (L.length * 1) = (cur.toList.take n).take (L.length * 1) := by rw [List.take_take]; congr 1; omega
    rw [e, q3, ← e2]; exact h6
set_option maxRecDepth 100000 in
theorem run_append_keepU (w : World) (ty : TypeId) (B : Nat) (v : Value) (L : List UInt8) (hown : OwnU w B v L) (sv : Value) (L2 : List UInt8) (hsv : BytesAt w sv L2) (hlen : L.length + L2.length ≤ 1099511627776) (hB : B ≤ w.heap.size) :
    ∃ v' w', (Builtin.append_ #[22, 22] ty #[v, sv]).run Try.prog w = .ok v' w' ∧ OwnU w' B v' (L ++ L2) ∧ KeepU B L.length w w' := by
  obtain ⟨i0, hi, hz0, hz1, hz2⟩ := byte_parts
  obtain ⟨sa, c, rfl, hlc, hnil, hcell⟩ := hsv
  have ho0 := hown
  unfold OwnU at hown
  cases sa with
  | none =>
    have h0 : L2 = [] := by
      cases L2 with
      | nil => rfl
      | cons y r => obtain ⟨b, off, e, _⟩ := hcell 0 y rfl; cases e
    subst h0
    have hc := hnil rfl
    subst hc
    have hrun := run_append_owned_none (P := Try.prog) (w := w) B 22 ty 5 i0 1 Try.underlying22 hi v L.length _ hown
    exact ⟨v, w, hrun, by rw [List.append_nil]; exact ho0, KeepU.of_grew (Grew.refl w) hB⟩
  | some ad =>
    have hnews : ∀ j u, (Lib.byteCells L2)[j]? = some u → w.cell? (ad.add j) = some u := by
      intro j u hj
      simp only [Lib.byteCells, List.getElem?_map, Option.map_eq_some_iff] at hj
      obtain ⟨b, hb, rfl⟩ := hj
      obtain ⟨bl, off, e, hc⟩ := hcell j b hb
      cases e
      have : (⟨bl, off, none⟩ : Addr).add j = ⟨bl, off + j, none⟩ := by
        unfold Addr.add
        split
        · rename_i h; subst h; rfl
        · rfl
      rw [this]; exact hc
    have h1 : ∀ u ∈ Lib.byteCells L2, u.oneCell' = true := by
      intro u hu
      simp only [Lib.byteCells, List.mem_map] at hu
      obtain ⟨x, _, rfl⟩ := hu
      rfl
    have hl : (Lib.byteCells L2).length = L2.length * 1 := by simp [Lib.byteCells]
    obtain ⟨v', w', hr, ho, hgr, hvn⟩ := run_append_own_wide (P := Try.prog) w B 22 ty 5 i0 (.int .u8 0) 1 1 Try.underlying22 hi hz0 hz1 hz2 rfl (by omega) v L.length _ hown ad L2.length c (Lib.byteCells L2) hl hnews h1 (by unfold maxLen; omega) (by omega) hB
    have hown' : OwnU w' B v' (L ++ L2) := by
      unfold OwnU
      rw [List.length_append, cells_app]; exact ho
    refine ⟨v', w', hr, hown', ?_⟩
    rcases hown.2 with ⟨rfl, _⟩ | ⟨g, cap, cur, rfl, hbg, hg, hnc, hcm', hcs, htake⟩
    · exact KeepU.of_grew ⟨hgr.os, hgr.tape, hgr.output, hgr.size, fun k hk => hgr.block k hk (by simp [Value.ownBlock])⟩ hB
    · by_cases hroom : L.length + L2.length ≤ cap
      · obtain ⟨w2, hr2, ho2, hg2⟩ := run_append_own_spare (P := Try.prog) w B 22 ty 5 i0 1 Try.underlying22 hi hz1 g L.length cap _ hown ad L2.length c _ hl hnews h1 hroom
        rw [hr] at hr2
        cases hr2
        refine ⟨Below.grown (Below.refl _ _) hg2 hB (fun k e => by cases e; exact hbg), fun q cq hq => ?_⟩
        by_cases e : q = g
        · subst e
          rw [hg] at hq
          cases hq
          rcases ho2.2 with ⟨e, _⟩ | ⟨g', cap', cur', e, _, hgg, _, _, hcs', ht'⟩
          · cases e
          · cases e
            refine ⟨cur', hgg, by rw [hcs, hcs'], ?_⟩
            have e1 : cur'.toList.take L.length = (cur'.toList.take ((L.length + L2.length) * 1)).take L.length := by rw [List.take_take]; congr 1; omega
            rw [e1, ht', List.take_left' (cells_len _)]
            rw [← htake]; congr 1; omega
        · exact ⟨cq, (hg2.block q (Array.getElem?_eq_some_iff.1 hq).1 (by intro e'; injection e' with e'; exact e e')).trans hq, rfl, rfl⟩
      · have holds : ∀ j u, (Lib.byteCells L)[j]? = some u → w.cell? ((⟨g, 0, none⟩ : Addr).add j) = some u := World.ownsRow.cells hown (g := g) rfl
        have hr2 := run_append_grow (P := Try.prog) w 22 ty 5 i0 (.int .u8 0) Try.underlying22 hi hz0 ⟨g, 0, none⟩ L.length cap _ (by rw [hz1]; simp [Lib.byteCells]) holds ad L2.length c _ (by rw [hz1]; exact hl) hnews (by omega) (by omega) (by rw [hz2]; exact growslice_fits_wide (by omega) (by omega))
        rw [hr] at hr2
        cases hr2
        exact KeepU.of_grew (((Grew.refl w).drew).alloc _) hB
theorem wp_append_keepU {o : Oper} {a : Act} {w : World} {K : Act → World → Prop} {Q : Exit → Act → World → Prop} (s x : Operand) (ho : o.op = .call { callee := .builtin .append, args := #[s, x], argTypes := #[22, 22] })
    (B : Nat) (v : Value) (L : List UInt8) (hs : a.eval s = v) (hown : OwnU w B v L) (sv : Value) (L2 : List UInt8) (hx : a.eval x = sv) (hsv : BytesAt w sv L2) (hlen : L.length + L2.length ≤ 1099511627776) (hB : B ≤ w.heap.size)
    (h : ∀ v' w', OwnU w' B v' (L ++ L2) → KeepU B L.length w w' → K (a.put o.dst v') w') : o.wp Try.prog a w K Q := by
  obtain ⟨v', w', hr, h2, h3⟩ := run_append_keepU w o.type B v L hown sv L2 hsv hlen hB
  unfold Oper.wp execOp
  simp only [ho, resolve, invoke, builtin, Sem.run_bind, Sem.run_pure, Result.andThen_ok, List.map_toArray, List.map_cons, List.map_nil, hs, hx, hr]
  exact h v' w' h2 h3
/-- The steps of a statement one of whose operations (m) appends to a row of n bytes. -/
def stepU (B n m : Nat) (i : Nat) (w w' : World) : Prop := Below B w w' ∧ ((i = m ∧ KeepU B n w w') ∨ Grew w w')
theorem stepU.below {B n m : Nat} (i : Nat) (w w' : World) (h : stepU B n m i w w') : Below B w w' := h.1
theorem stepU.refl {B n m : Nat} (i : Nat) (w : World) : stepU B n m i w w := ⟨Below.refl _ _, .inr (Grew.refl w)⟩
theorem stepU.grew {B n m i : Nat} {w w' : World} (hB : B ≤ w.heap.size) (h : Grew w w') : stepU B n m i w w' := ⟨Below.mono h hB, .inr h⟩
theorem KeepU.mono {B n m : Nat} {w w' : World} (h : KeepU B m w w') (hn : n ≤ m) : KeepU B n w w' := ⟨h.1, fun g cur hg => by
  obtain ⟨cur', h1, h2, h3⟩ := h.2 g cur hg
  refine ⟨cur', h1, h2, ?_⟩
  have := congrArg (List.take n) h3
  rwa [List.take_take, List.take_take, Nat.min_eq_left hn] at this⟩
theorem OwnU.step {B n m i : Nat} {w w' : World} {v : Value} {L : List UInt8} (h : OwnU w B v L) (ht : stepU B n m i w w') (hn : i = m → L.length ≤ n) : OwnU w' B v L := by
  rcases ht.2 with ⟨e, hk⟩ | hg
  · exact h.keep hk (hn e)
  · exact h.grew hg
end Go.Proofs.Ytlhliolknaopjaa

/-
  Denote, plain: bytes ahead, a multiple of 8. No program.
-/
namespace Go.Proofs.Ytlhliolknaopjaa
open Go Go.ChangeShapes Go.WideShapes Go.ChangeAt Go.RowKit Go.Joins Go.Deep
set_option linter.unusedVariables false
set_option linter.unusedSimpArgs false

theorem drop_moved (a d : List UInt8) {at_ : Int} (h : 0 ≤ at_) : (a ++ d).drop (at_ + a.length).toNat = d.drop at_.toNat := by
  rw [show (at_ + a.length).toNat = a.length + at_.toNat by omega, List.drop_append]
  simp [List.drop_eq_nil_of_le]
theorem get_moved (a d : List UInt8) {i : Int} (h : 0 ≤ i) : (a ++ d)[(i + a.length).toNat]? = d[i.toNat]? := by
  rw [show (i + a.length).toNat = a.length + i.toNat by omega, List.getElem?_append_right (by omega)]
  congr 1; omega
theorem load_moved (a : List UInt8) {d : List UInt8} {at_ w : Int} (h : (loadF d at_ w).2 = 0) : loadF (a ++ d) (at_ + a.length) w = loadF d at_ w := by
  unfold loadF at h ⊢
  by_cases hw : isW w = true
  · rw [if_pos hw] at h ⊢
    rw [if_pos hw]
    by_cases hr : at_ < 0 ∨ at_ > d.length - w
    · rw [if_pos hr] at h; cases h
    · have h0 : 0 ≤ at_ := by omega
      rw [if_neg hr, if_neg (by simp only [List.length_append]; omega), drop_moved a d h0]
  · rw [if_neg hw] at h; cases h
theorem loadInt_moved (a : List UInt8) {d : List UInt8} {at_ w : Int} (h : (loadF d at_ w).2 = 0) : loadIntF (a ++ d) (at_ + a.length) w = loadIntF d at_ w := by
  unfold loadIntF; rw [load_moved a h]
theorem num_zero {d : List UInt8} {at_ w : Int} (h : (numF d at_ w).2 = true) : (loadF d at_ w).2 = 0 := by
  unfold numF at h
  simp only [Bool.and_eq_true, decide_eq_true_eq] at h
  exact h.1
theorem num_moved (a : List UInt8) {d : List UInt8} {at_ w : Int} (h : (numF d at_ w).2 = true) : numF (a ++ d) (at_ + a.length) w = numF d at_ w := by
  unfold numF; rw [load_moved a (num_zero h)]
theorem has_moved (a : List UInt8) {d : List UInt8} {at_ : Int} {s : ByteArray} (h : hasF d at_ s = true) : hasF (a ++ d) (at_ + a.length) s = true := by
  rw [has_iff] at h ⊢
  obtain ⟨h0, h1, h2⟩ := h
  refine ⟨by omega, by simp only [List.length_append]; omega, by rw [drop_moved a d h0]; exact h2⟩
theorem mod_moved {at_ w : Int} {L : Nat} (hL : L % 8 = 0) (hw : isW w = true) : (at_ + L) % w = at_ % w := by
  rcases isW_cases hw with rfl | rfl | rfl | rfl <;> omega
theorem number_moved (a : List UInt8) {d : List UInt8} {at_ w sg un : Int} {t : Tr} (h : numberF d at_ w sg un t = true) : numberF (a ++ d) (at_ + a.length) w sg un t = true := by
  have h0 : (loadF d at_ w).2 = 0 := by
    unfold numberF at h
    by_cases hz : (loadF d at_ w).2 = 0
    · exact hz
    · rw [if_pos hz] at h; cases h
  unfold numberF at h ⊢
  rw [load_moved a h0, loadInt_moved a h0]
  exact h
theorem look_moved (a : List UInt8) (hL : a.length % 8 = 0) {d : List UInt8} {typ pos par wid at_ at2 : Int} {t : Tr} (hw : isW wid = true) (hn : nearT typ = true ∨ farT typ = true) (h2 : farT typ = true → at2 = at_ + a.length) (h : lookF d typ pos par wid at_ t = true) :
    lookF (a ++ d) typ (pos + a.length) par wid at2 t = true := by
  rcases near_or typ hn with rfl | rfl | rfl | rfl | rfl | rfl | rfl | rfl | rfl
  · rw [show lookF d 0 pos par wid at_ t = nullF d pos par t from rfl] at h
    rw [show lookF (a ++ d) 0 (pos + a.length) par wid at2 t = nullF (a ++ d) (pos + a.length) par t from rfl]
    unfold nullF at h ⊢
    rw [Bool.and_eq_true, decide_eq_true_eq] at h ⊢
    rw [load_moved a h.1]; exact h
  · rw [show lookF d 1 pos par wid at_ t = intF d pos par t from rfl] at h
    rw [show lookF (a ++ d) 1 (pos + a.length) par wid at2 t = intF (a ++ d) (pos + a.length) par t from rfl]
    unfold intF at h ⊢
    rw [Bool.and_eq_true] at h ⊢
    exact ⟨h.1, number_moved a h.2⟩
  · rw [show lookF d 2 pos par wid at_ t = uintF d pos par t from rfl] at h
    rw [show lookF (a ++ d) 2 (pos + a.length) par wid at2 t = uintF (a ++ d) (pos + a.length) par t from rfl]
    unfold uintF at h ⊢
    rw [Bool.and_eq_true] at h ⊢
    exact ⟨h.1, number_moved a h.2⟩
  · rw [show lookF d 26 pos par wid at_ t = boolF d pos par t from rfl] at h
    rw [show lookF (a ++ d) 26 (pos + a.length) par wid at2 t = boolF (a ++ d) (pos + a.length) par t from rfl]
    unfold boolF at h ⊢
    rw [Bool.and_eq_true, decide_eq_true_eq] at h ⊢
    rw [load_moved a h.1]; exact h
  · obtain rfl := h2 rfl
    rw [show lookF d 4 pos par wid at_ t = keyF d at_ t from rfl] at h
    rw [show lookF (a ++ d) 4 (pos + a.length) par wid (at_ + a.length) t = keyF (a ++ d) (at_ + a.length) t from rfl]
    unfold keyF at h ⊢
    rw [Bool.and_eq_true] at h ⊢
    exact ⟨h.1, has_moved a h.2⟩
  · obtain rfl := h2 rfl
    rw [show lookF d 5 pos par wid at_ t = textF d 5 wid at_ t from rfl] at h
    rw [show lookF (a ++ d) 5 (pos + a.length) par wid (at_ + a.length) t = textF (a ++ d) 5 wid (at_ + a.length) t from rfl]
    unfold textF at h ⊢
    simp only [Bool.and_eq_true, decide_eq_true_eq] at h ⊢
    obtain ⟨⟨⟨⟨h1, h2⟩, h3⟩, h4⟩, h5⟩ := h
    rw [show at_ + (a.length : Int) - wid = at_ - wid + a.length by omega, num_moved a h2]
    exact ⟨⟨⟨⟨h1, h2⟩, by rw [mod_moved hL hw]; exact h3⟩, h4⟩, has_moved a h5⟩
  · obtain rfl := h2 rfl
    rw [show lookF d 25 pos par wid at_ t = textF d 25 wid at_ t from rfl] at h
    rw [show lookF (a ++ d) 25 (pos + a.length) par wid (at_ + a.length) t = textF (a ++ d) 25 wid (at_ + a.length) t from rfl]
    unfold textF at h ⊢
    simp only [Bool.and_eq_true, decide_eq_true_eq] at h ⊢
    obtain ⟨⟨⟨⟨h1, h2⟩, h3⟩, h4⟩, h5⟩ := h
    rw [show at_ + (a.length : Int) - wid = at_ - wid + a.length by omega, num_moved a h2]
    exact ⟨⟨⟨⟨h1, h2⟩, by rw [mod_moved hL hw]; exact h3⟩, h4⟩, has_moved a h5⟩
  · obtain rfl := h2 rfl
    rw [show lookF d 6 pos par wid at_ t = apartF d 6 wid at_ t from rfl] at h
    rw [show lookF (a ++ d) 6 (pos + a.length) par wid (at_ + a.length) t = apartF (a ++ d) 6 wid (at_ + a.length) t from rfl]
    unfold apartF at h ⊢
    simp only [Bool.and_eq_true, decide_eq_true_eq] at h ⊢
    exact ⟨⟨h.1.1, by rw [mod_moved hL hw]; exact h.1.2⟩, number_moved a h.2⟩
  · obtain rfl := h2 rfl
    rw [show lookF d 7 pos par wid at_ t = apartF d 7 wid at_ t from rfl] at h
    rw [show lookF (a ++ d) 7 (pos + a.length) par wid (at_ + a.length) t = apartF (a ++ d) 7 wid (at_ + a.length) t from rfl]
    unfold apartF at h ⊢
    simp only [Bool.and_eq_true, decide_eq_true_eq] at h ⊢
    exact ⟨⟨h.1.1, by rw [mod_moved hL hw]; exact h.1.2⟩, number_moved a h.2⟩
theorem far_moved (a : List UInt8) {d : List UInt8} {typ pos par wid lim : Int} (h : farB d typ pos par wid lim = true) : farB (a ++ d) typ (pos + a.length) par wid (lim + a.length) = true ∧ numF (a ++ d) (pos + a.length) par = numF d pos par ∧ 0 ≤ pos - (numF d pos par).1 := by
  unfold farB at h ⊢
  simp only [Bool.and_eq_true, decide_eq_true_eq] at h ⊢
  rw [num_moved a h.1.1]
  refine ⟨⟨⟨h.1.1, by omega⟩, by omega⟩, rfl, by omega⟩
theorem keySays_moved (a : List UInt8) {d : List UInt8} {pos w lim : Int} {k : ByteArray} (h : keySays d pos w lim k = true) : keySays (a ++ d) (pos + a.length) w (lim + a.length) k = true := by
  unfold keySays at h ⊢
  simp only [Bool.and_eq_true] at h ⊢
  obtain ⟨f1, f2, _⟩ := far_moved a h.1.1
  rw [f2, show pos + (a.length : Int) - (numF d pos w).1 = pos - (numF d pos w).1 + a.length by omega]
  exact ⟨⟨f1, h.1.2⟩, has_moved a h.2⟩
theorem names_moved (a : List UInt8) (hL : a.length % 8 = 0) {d : List UInt8} {w at_ : Int} {l : List ByteArray} (hw : isW w = true) (h : namesF d w at_ l = true) : namesF (a ++ d) w (at_ + a.length) l = true := by
  unfold namesF at h ⊢
  simp only [Bool.and_eq_true, decide_eq_true_eq] at h ⊢
  obtain ⟨⟨⟨h1, h2⟩, h3, h4⟩, h5⟩ := h
  rw [show at_ + (a.length : Int) - w = at_ - w + a.length by omega, num_moved a h3]
  refine ⟨⟨⟨by rw [mod_moved hL hw]; exact h1, by simp only [List.length_append]; omega⟩, h3, h4⟩, names_iff.2 fun j x hx => ?_⟩
  have := keySays_moved a (names_iff.1 h5 j x hx)
  rw [show at_ + (a.length : Int) + ((0 + j : Nat) : Int) * w = at_ + ((0 + j : Nat) : Int) * w + a.length by omega, show at_ + (a.length : Int) - w = at_ - w + a.length by omega]
  exact this
theorem keysF_moved (a : List UInt8) (hL : a.length % 8 = 0) {d : List UInt8} {first w : Int} {l : List ByteArray} (h : keysF d first w l = true) : keysF (a ++ d) (first + a.length) w l = true := by
  unfold keysF at h ⊢
  simp only [Bool.and_eq_true, decide_eq_true_eq] at h ⊢
  obtain ⟨⟨⟨⟨⟨⟨h1, h2⟩, h3⟩, h4⟩, h5⟩, h6⟩, h7⟩ := h
  rw [num_moved a h1, show first + (a.length : Int) + w = first + w + a.length by omega, num_moved a h2, show first + (a.length : Int) - (numF d first w).1 = first - (numF d first w).1 + a.length by omega]
  exact ⟨⟨⟨⟨⟨⟨h1, h2⟩, h3⟩, by omega⟩, by omega⟩, h6⟩, names_moved a hL h3 h7⟩
theorem elem_moved (a : List UInt8) {d : List UInt8} {typ w at_ n : Int} {i : Nat} (h : 0 ≤ at_ + n * w) : elemOf (a ++ d) typ w (at_ + a.length) n i = elemOf d typ w at_ n i := by
  unfold elemOf
  rw [show at_ + (a.length : Int) + n * w + (i : Int) = at_ + n * w + i + a.length by omega, get_moved a d (by omega)]
theorem first_moved (typ w at_ : Int) (L : Nat) : firstF typ w (at_ + L) = firstF typ w at_ + L := by
  unfold firstF
  repeat' split
  all_goals omega
theorem says_moved (a : List UInt8) (hL : a.length % 8 = 0) (d : List UInt8) : ∀ (m : Nat) (t : Tr) (typ pos par wid lim : Int), t.size ≤ m → saysF d typ pos par wid lim t = true → saysF (a ++ d) typ (pos + a.length) par wid (lim + a.length) t = true := by
  intro m
  induction m with
  | zero => intro t typ pos par wid lim h; have := t.size_pos; omega
  | succ m ih =>
    intro t typ pos par wid lim h hs
    obtain ⟨⟨hpar, hw, hleg⟩, hc⟩ := says_cases hs
    rw [says_eq, inline_near, if_neg (by rw [hpar, hw, hleg]; decide)]
    rcases hc with ⟨hn, hl⟩ | ⟨hn, hf, ht, hl⟩ | ⟨hn, hf, ht, hl⟩
    · rw [if_pos hn]
      refine look_moved a hL hw (.inl hn) (fun hh => ?_) hl
      exfalso
      unfold nearT at hn
      unfold farT at hh
      simp only [Bool.or_eq_true, decide_eq_true_eq] at hn hh
      omega
    · obtain ⟨f1, f2, f3⟩ := far_moved a hf
      rw [if_neg (by rw [hn]; decide), if_neg (by rw [f1]; decide), if_pos ht, f2]
      exact look_moved a hL hw (.inr ht) (fun _ => by omega) hl
    · obtain ⟨f1, f2, f3⟩ := far_moved a hf
      rw [if_neg (by rw [hn]; decide), if_neg (by rw [f1]; decide), if_neg (by rw [ht]; decide), f2]
      obtain ⟨at_, hat⟩ : ∃ q, pos - (numF d pos par).1 = q := ⟨_, rfl⟩
      rw [hat] at hl f3
      rw [show pos + (a.length : Int) - (numF d pos par).1 = at_ + a.length by omega]
      obtain ⟨k, n, u, s, keys, l⟩ := t
      simp only [listF, Tr.kids, Bool.and_eq_true] at hl ⊢
      obtain ⟨hp, hk⟩ := hl
      have hw1 : 1 ≤ wid := by rcases isW_cases hw with rfl | rfl | rfl | rfl <;> omega
      have hnw : 0 ≤ (l.length : Int) * wid := Int.mul_nonneg (by omega) (by omega)
      obtain ⟨p1, p2, p3, p4, p5, p6, p7, p8, p9⟩ := front_iff.1 hp
      refine ⟨front_iff.2 ⟨p1, p2, p3, p4, p5, by rw [mod_moved hL hw]; exact p6, ?_, ?_, fun h17 => ?_⟩, kids_iff.2 fun j x hx => ?_⟩
      · simp only [List.length_append]
        split at p7
        · rename_i hz; rw [if_pos hz]; omega
        · rename_i hz; rw [if_neg hz]; omega
      · split at p8
        · rename_i hz
          rw [if_pos hz, show at_ + (a.length : Int) - wid = at_ - wid + a.length by omega, num_moved a p8.1]; exact p8
        · rename_i hz
          rw [if_neg hz]; exact p8
      · obtain ⟨q1, q2, q3⟩ := p9 h17
        rw [show at_ + (a.length : Int) - 3 * wid = at_ - 3 * wid + a.length by omega]
        exact ⟨by omega, q2, keysF_moved a hL q3⟩
      · have h1 := kids_iff.1 hk j x hx
        rw [elem_moved a (by omega), first_moved]
        refine ⟨h1.1, ?_⟩
        have hsz := size_mem (List.mem_of_getElem? hx)
        simp only [Tr.size] at h
        have := ih x _ _ _ _ _ (by omega) h1.2
        rw [show at_ + (a.length : Int) + ((0 + j : Nat) : Int) * wid = at_ + ((0 + j : Nat) : Int) * wid + a.length by omega]
        exact this
theorem last_moved (a d : List UInt8) (k : Nat) (h1 : 1 ≤ k) (hk : k ≤ d.length) : (a ++ d)[(a ++ d).length - k]? = d[d.length - k]? := by
  rw [List.length_append, show a.length + d.length - k = a.length + (d.length - k) by omega, List.getElem?_append_right (by omega)]
  congr 1; omega
theorem holds_moved (a : List UInt8) (hL : a.length % 8 = 0) {d : List UInt8} {t : Tr} (h : holdsF d t = true) : holdsF (a ++ d) t = true := by
  unfold holdsF at h ⊢
  simp only [Bool.and_eq_true, decide_eq_true_eq] at h ⊢
  obtain ⟨h3, ⟨⟨⟨h4, h5⟩, h6⟩, h7⟩, h8⟩ := h
  have hb : lastB (a ++ d) 1 = lastB d 1 := by unfold lastB; rw [last_moved a d 1 (by omega) (by omega)]
  rw [last_moved a d 2 (by omega) (by omega), hb, show (((a ++ d).length : Nat) : Int) - 2 - lastB d 1 = (d.length : Int) - 2 - lastB d 1 + a.length by rw [List.length_append]; omega]
  refine ⟨by rw [List.length_append]; omega, ⟨⟨⟨h4, h5⟩, by omega⟩, by rw [mod_moved hL h5]; exact h7⟩, says_moved a hL d t.size t _ _ _ _ _ (Nat.le_refl _) h8⟩
end Go.Proofs.Ytlhliolknaopjaa
