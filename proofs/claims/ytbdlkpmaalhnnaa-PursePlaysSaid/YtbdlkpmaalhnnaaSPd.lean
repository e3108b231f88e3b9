/- Plain: the document's purse: a row of holders in the order of their names, and the entries of the program's map. -/
import Derived.Test.YtbdlkpmaalhnnaaSPb
import Derived.Sort.KeysCollected
import Derived.Laws.Strings
namespace Go.Proofs.Ytbdlkpmaalhnnaa.SP
open Go Go.Maps Go.RowKit Go.Proofs.Ytbdlkpmaalhnnaa.X

/-- A holder of the document's. -/
structure HD where
  nm : ByteArray
  mo : Int
  nw : Int
instance : Inhabited HD := ⟨⟨⟨#[]⟩, 0, 0⟩⟩
def ent1 (h : HD) : Lit × DataW Unit := (.string h.nm.data.toList, hd h.mo h.nw)
abbrev EH (L : List HD) : List (Lit × DataW Unit) := L.map ent1
theorem bLess' : ∀ (x y : List UInt8), Op.bytesLess x y = decide (x < y)
  | [], [] => by simp [Op.bytesLess]
  | _ :: _, [] => by simp [Op.bytesLess]
  | [], _ :: _ => by simp [Op.bytesLess]
  | a :: x, b :: y => by
    rw [Op.bytesLess, bLess' x y]
    simp only [List.cons_lt_cons_iff]
    by_cases h1 : a < b <;> by_cases h2 : a = b <;> by_cases h3 : x < y <;> simp [h1, h2, h3]
theorem less_before : ∀ a b : List UInt8, Op.bytesLess a b = bytesBefore a b
  | [], [] => rfl
  | [], _ :: _ => rfl
  | _ :: _, [] => rfl
  | a :: r, b :: s => by rw [Op.bytesLess, bytesBefore, less_before r s]
theorem less_nm (a b : ByteArray) : Op.bytesLess a.toList b.toList = bytesBefore a.data.toList b.data.toList := by
  rw [ByteArray.toList_eq, ByteArray.toList_eq, less_before]
theorem EH_has {L : List HD} {s : ByteArray} : Maps.has (.map (EH L)) (.string s.data.toList) = true ↔ ∃ h ∈ L, h.nm = s := by
  rw [Maps.has_eq, List.any_eq_true]
  constructor
  · rintro ⟨p, hp, hs⟩
    obtain ⟨h, hh, rfl⟩ := List.mem_map.1 hp
    exact ⟨h, hh, ba_ext (same_iff.1 hs)⟩
  · rintro ⟨h, hh, rfl⟩
    exact ⟨_, List.mem_map.2 ⟨h, hh, rfl⟩, same_iff.2 rfl⟩
theorem EH_size (L : List HD) : Maps.size (.map (EH L)) = L.length := by rw [Maps.size_eq, List.length_map]
theorem EH_filter {L : List HD} {s : ByteArray} (h : ∀ x ∈ L, x.nm ≠ s) : (EH L).filter (fun p => !p.1.sameKey (.string s.data.toList)) = EH L := List.filter_eq_self.2 fun p hp => by
  obtain ⟨x, hx, rfl⟩ := List.mem_map.1 hp
  have : ¬ (Lit.string x.nm.data.toList).sameKey (.string s.data.toList) = true := fun e => h x hx (ba_ext (same_iff.1 e))
  simpa [ent1] using this
/-- An entry goes in where the document lays it. -/
theorem insert_at (s : ByteArray) (a b : Int) : ∀ (L : List HD) (k : Nat), (∀ j, j < k → bytesBefore (L.getD j default).nm.data.toList s.data.toList = true) → k ≤ L.length → (k < L.length → bytesBefore (L.getD k default).nm.data.toList s.data.toList = false ∧ (L.getD k default).nm ≠ s) →
    DataW.insert (.string s.data.toList, hd a b) (EH L) = EH (L.take k ++ [⟨s, a, b⟩] ++ L.drop k)
  | [], k, _, hk, _ => by
    have : k = 0 := by simpa using hk
    subst this; rfl
  | x :: L, 0, _, _, h => by
    obtain ⟨h1, h2⟩ := h (by simp)
    show DataW.insert _ ((Lit.string x.nm.data.toList, hd x.mo x.nw) :: EH L) = _
    have h3 : s.data.toList ≠ x.nm.data.toList := fun e => h2 (ba_ext e.symm)
    have h1 : bytesBefore x.nm.data.toList s.data.toList = false := h1
    have h4 : bytesBefore s.data.toList x.nm.data.toList = true := (bb_tri h3).resolve_right (by rw [h1]; decide)
    rw [ins_c, if_pos h4]; rfl
  | x :: L, k + 1, h0, hk, h => by
    have h1 : bytesBefore x.nm.data.toList s.data.toList = true := h0 0 (by omega)
    show DataW.insert _ ((Lit.string x.nm.data.toList, hd x.mo x.nw) :: EH L) = _
    rw [ins_c, if_neg (by rw [bb_asym h1]; decide), insert_at s a b L k (fun j hj => h0 (j + 1) (by omega)) (by simpa using hk) (fun hk' => h (by simpa using hk'))]
    rfl
/-- What the document's Open makes. -/
theorem open_at {L : List HD} {s : ByteArray} {m : Int} {k : Nat} (c1 : ¬ m < 0) (c2 : ¬ m > 1099511627776) (c3 : L.length < 1024) (hn : ∀ x ∈ L, x.nm ≠ s) (h0 : ∀ j, j < k → bytesBefore (L.getD j default).nm.data.toList s.data.toList = true) (hk : k ≤ L.length) (h1 : k < L.length → bytesBefore (L.getD k default).nm.data.toList s.data.toList = false) :
    openF (.map (EH L)) s m = (0, .map (EH (L.take k ++ [⟨s, m, 0⟩] ++ L.drop k))) := by
  unfold openF
  rw [if_neg c1, if_neg c2, EH_size, if_neg (by omega), if_neg (fun e => by obtain ⟨x, hx, e⟩ := EH_has.1 e; exact hn x hx e)]
  show (0, DataW.map (DataW.insert (.string s.data.toList, hd m 0) ((EH L).filter (fun p => !p.1.sameKey (.string s.data.toList))))) = _
  rw [EH_filter hn, insert_at s m 0 L k h0 hk (fun hk' => ⟨h1 hk', hn _ (by
    rw [show L.getD k default = L[k] by simp [List.getD, hk']]
    exact List.getElem_mem hk')⟩)]
theorem rise_at {L : List HD} (hr : Rise (EH L)) {j k : Nat} (hjk : j < k) (hk : k < L.length) : bytesBefore (L.getD j default).nm.data.toList (L.getD k default).nm.data.toList = true := by
  have hj : j < L.length := by omega
  have := List.pairwise_iff_getElem.1 hr j k (by simpa using hj) (by simpa using hk) hjk
  simp only [List.getElem_map] at this
  simp only [List.getD, List.getElem?_eq_getElem hj, List.getElem?_eq_getElem hk, Option.getD_some]
  exact this
theorem at_first {L : List HD} (hr : Rise (EH L)) {k : Nat} (hk : k < L.length) (zd : DataW Unit) : (DataW.map (EH L)).atKey (.string (L.getD k default).nm.data.toList) zd = hd (L.getD k default).mo (L.getD k default).nw := by
  have e : (EH L).find? (fun p => p.1.sameKey (.string (L.getD k default).nm.data.toList)) = some (ent1 (L.getD k default)) := by
    rw [List.find?_eq_some_iff_getElem]
    refine ⟨same_iff.2 rfl, k, by simpa using hk, ?_, fun j hj => ?_⟩
    · simp [List.getD, hk]
    · have hj' : j < L.length := by omega
      have h1 := rise_at hr hj hk
      have e1 : (EH L)[j]'(by simpa using hj') = ent1 (L.getD j default) := by simp [List.getD, hj']
      rw [e1]
      have : ¬ (Lit.string (L.getD j default).nm.data.toList).sameKey (.string (L.getD k default).nm.data.toList) = true := fun e => by
        rw [same_iff.1 e, bb_irr] at h1
        cases h1
      simpa [ent1] using this
  unfold DataW.atKey
  dsimp only
  rw [e]
  rfl
theorem filter_out : ∀ {L : List HD} {k : Nat}, Rise (EH L) → k < L.length → (EH L).filter (fun p => !p.1.sameKey (.string (L.getD k default).nm.data.toList)) = EH (L.take k ++ L.drop (k + 1))
  | [], k, _, hk => absurd hk (by simp)
  | x :: L, 0, hr, _ => by
    obtain ⟨h1, h2⟩ := List.pairwise_cons.1 hr
    have hn : ∀ y ∈ L, y.nm ≠ x.nm := fun y hy e => by
      have := h1 _ (List.mem_map.2 ⟨y, hy, rfl⟩)
      have : bytesBefore x.nm.data.toList y.nm.data.toList = true := this
      rw [e, bb_irr] at this
      cases this
    show (ent1 x :: EH L).filter _ = EH L
    rw [List.filter_cons_of_neg (by simp [ent1, same_iff.2 rfl])]
    exact EH_filter hn
  | x :: L, k + 1, hr, hk => by
    obtain ⟨h1, h2⟩ := List.pairwise_cons.1 hr
    have hk' : k < L.length := by simpa using hk
    have hb := rise_at hr (show 0 < k + 1 by omega) hk
    have hb : bytesBefore x.nm.data.toList (L.getD k default).nm.data.toList = true := hb
    have e1 : (x :: L).getD (k + 1) default = L.getD k default := rfl
    rw [e1]
    show (ent1 x :: EH L).filter _ = ent1 x :: EH (L.take k ++ L.drop (k + 1))
    rw [List.filter_cons_of_pos, filter_out h2 hk']
    have : ¬ (Lit.string x.nm.data.toList).sameKey (.string (L.getD k default).nm.data.toList) = true := fun e => by
      rw [same_iff.1 e, bb_irr] at hb
      cases hb
    simpa [ent1] using this
/-- What the document's Hold makes of a holder. -/
theorem put_at {L : List HD} (hr : Rise (EH L)) {k : Nat} (hk : k < L.length) (a n : Int) : (DataW.map (EH L)).put (.string (L.getD k default).nm.data.toList) (hd a n) = .map (EH (L.take k ++ [⟨(L.getD k default).nm, a, n⟩] ++ L.drop (k + 1))) := by
  show DataW.map (DataW.insert (.string (L.getD k default).nm.data.toList, hd a n) ((EH L).filter (fun p => !p.1.sameKey (.string (L.getD k default).nm.data.toList)))) = _
  rw [filter_out hr hk]
  have hlt : (L.take k).length = k := by rw [List.length_take]; omega
  have hg : ∀ j, j < k → (L.take k ++ L.drop (k + 1)).getD j default = L.getD j default := fun j hj => by
    simp only [List.getD]
    rw [List.getElem?_append_left (by omega), List.getElem?_take_of_lt hj]
  rw [insert_at (L.getD k default).nm a n (L.take k ++ L.drop (k + 1)) k (fun j hj => by rw [hg j hj]; exact rise_at hr hj hk) (by rw [List.length_append, hlt]; omega) (fun hk' => by
    rw [List.length_append, hlt, List.length_drop] at hk'
    have e : (L.take k ++ L.drop (k + 1)).getD k default = L.getD (k + 1) default := by
      simp only [List.getD]
      rw [List.getElem?_append_right (by omega), hlt, Nat.sub_self, List.getElem?_drop]
    have hb := rise_at hr (show k < k + 1 by omega) (by omega)
    rw [e]
    exact ⟨bb_asym hb, fun e => by rw [e, bb_irr] at hb; cases hb⟩)]
  rw [List.take_append_of_le_length (by omega), List.take_take, Nat.min_self, List.drop_append_of_le_length (by omega), List.drop_take, Nat.sub_self, List.take_zero, List.nil_append]
theorem hold_no {L : List HD} {s : ByteArray} (n pk : Int) (h : ∀ x ∈ L, x.nm ≠ s) : holdC (.map (EH L)) s n pk = (230, .map (EH L), pk) := by
  unfold holdC
  rw [if_neg (fun e => by obtain ⟨x, hx, e⟩ := EH_has.1 e; exact h x hx e)]
theorem has_at {L : List HD} {k : Nat} (hk : k < L.length) : Maps.has (.map (EH L)) (.string (L.getD k default).nm.data.toList) = true :=
  EH_has.2 ⟨L.getD k default, by rw [show L.getD k default = L[k] by simp [List.getD, hk]]; exact List.getElem_mem hk, rfl⟩
theorem hold_bad {L : List HD} (hr : Rise (EH L)) {k : Nat} (hk : k < L.length) {n : Int} (pk : Int) (h : n < 0 ∨ n > (L.getD k default).mo) : holdC (.map (EH L)) (L.getD k default).nm n pk = (1, .map (EH L), pk) := by
  unfold holdC
  rw [if_pos (has_at hk)]
  by_cases c : n < 0
  · rw [if_pos c]
  · have := h.resolve_left c
    rw [if_neg c, at_first hr hk, if_pos (show n > el (fun a _ => a) (hd (L.getD k default).mo (L.getD k default).nw) from this)]
theorem hold_good {L : List HD} (hr : Rise (EH L)) {k : Nat} (hk : k < L.length) {n : Int} (pk : Int) (h0 : ¬ n < 0) (h1 : ¬ n > (L.getD k default).mo) : holdC (.map (EH L)) (L.getD k default).nm n pk = (0, .map (EH (L.take k ++ [⟨(L.getD k default).nm, (L.getD k default).mo, n⟩] ++ L.drop (k + 1))), max pk (wrap64 (sumD (fun _ b => b) (.map (EH (L.take k ++ [⟨(L.getD k default).nm, (L.getD k default).mo, n⟩] ++ L.drop (k + 1))))))) := by
  unfold holdC
  rw [if_pos (has_at hk), if_neg h0, at_first hr hk, if_neg (show ¬ n > el (fun a _ => a) (hd (L.getD k default).mo (L.getD k default).nw) from h1)]
  have e := put_at hr hk (L.getD k default).mo n
  rw [← e]
  rfl
/-- The names in order are what sorting makes of them. -/
theorem names_sorted {L : List HD} (hr : Rise (EH L)) {ss : List (List UInt8)} (h : ss.Perm (strKeys (.map (EH L)))) : ss.mergeSort leB = L.map (fun x => x.nm.data.toList) := by
  have e : strKeys (.map (EH L)) = L.map (fun x => x.nm.data.toList) := by
    show (EH L).map (fun p => strOf p.1) = _
    rw [List.map_map]; rfl
  rw [mergeSort_of_perm h, e]
  refine List.mergeSort_of_pairwise (List.pairwise_map.2 ?_)
  refine (List.pairwise_map.1 hr).imp fun {a b} hab => ?_
  have hab : bytesBefore a.nm.data.toList b.nm.data.toList = true := hab
  simp only [leB, decide_eq_true_eq]
  intro hlt
  have e2 : Op.bytesLess b.nm.data.toList a.nm.data.toList = true := by
    rw [bLess']
    exact decide_eq_true hlt
  rw [less_before, bb_asym hab] at e2
  cases e2
/-- What both purses keep. -/
structure Inv (L : List HD) (pk : Int) : Prop where
  ok : Ok (EH L)
  rise : Rise (EH L)
  lo : held (EH L) ≤ pk
  hi : pk ≤ most (EH L)
theorem Inv.nil : Inv [] 0 := ⟨⟨by simp, List.Pairwise.nil, by simp, by simp⟩, List.Pairwise.nil, by simp [held, sumOf], by simp [most, sumOf]⟩
theorem Inv.few {L : List HD} {pk : Int} (h : Inv L pk) : L.length ≤ 1024 := by have := h.ok.few; rwa [List.length_map] at this
theorem open_ok {L : List HD} {pk : Int} (h : Inv L pk) (s : ByteArray) (m : Int) {L' : List HD} (e : (openF (.map (EH L)) s m).2 = .map (EH L')) : Inv L' pk := by
  have same : EH L' = EH L → Inv L' pk := fun e => ⟨by rw [e]; exact h.ok, by rw [e]; exact h.rise, by rw [e]; exact h.lo, by rw [e]; exact h.hi⟩
  have inj : ∀ {E F : List (Lit × DataW Unit)}, DataW.map E = DataW.map F → E = F := fun e => by injection e
  unfold openF at e
  split at e
  · exact same (inj e).symm
  rename_i c1
  split at e
  · exact same (inj e).symm
  rename_i c2
  split at e
  · exact same (inj e).symm
  rename_i c3
  split at e
  · exact same (inj e).symm
  rename_i c4
  have hno : ∀ x ∈ L, x.nm ≠ s := fun x hx e => c4 (EH_has.2 ⟨x, hx, e⟩)
  have e2 : EH L' = DataW.insert (.string s.data.toList, hd m 0) (EH L) := by
    have e1 : DataW.map (DataW.insert (.string s.data.toList, hd m 0) ((EH L).filter (fun p => !p.1.sameKey (.string s.data.toList)))) = .map (EH L') := e
    rw [EH_filter hno] at e1
    exact (inj e1).symm
  have hp := insert_perm (.string s.data.toList, hd m 0) (EH L)
  have hkey : ∀ p ∈ EH L, p.1 ≠ .string s.data.toList := fun p hp e => by
    obtain ⟨x, hx, rfl⟩ := List.mem_map.1 hp
    injection e with e
    exact hno x hx (ba_ext e)
  have hs := h.few
  rw [EH_size] at c3
  have hOk : Ok ((.string s.data.toList, hd m 0) :: EH L) := by
    refine ⟨fun q hq => ?_, List.pairwise_cons.2 ⟨fun q hq => (hkey q hq).symm, h.ok.one⟩, fun q hq => ?_, by rw [List.length_cons, List.length_map]; omega⟩
    · rcases List.mem_cons.1 hq with rfl | hq
      · exact ⟨_, rfl⟩
      · exact h.ok.key q hq
    · rcases List.mem_cons.1 hq with rfl | hq
      · exact ⟨m, 0, rfl, by omega, by omega, by omega⟩
      · exact h.ok.val q hq
  have s1 : held (EH L') = held (EH L) := by rw [e2]; unfold held; rw [sumOf_perm _ hp, sumOf]; show 0 + _ = _; omega
  have s2 : most (EH L') = m + most (EH L) := by rw [e2]; unfold most; rw [sumOf_perm _ hp, sumOf]; rfl
  exact ⟨by rw [e2]; exact hOk.perm hp, by rw [e2]; exact insert_rise h.ok.key h.rise hkey, by rw [s1]; exact h.lo, by rw [s2]; have := h.hi; omega⟩
theorem hold_inv {L : List HD} {pk : Int} (h : Inv L pk) (s : ByteArray) (n : Int) {L' : List HD} {pk' : Int} (e : (holdC (.map (EH L)) s n pk).2 = (.map (EH L'), pk')) : Inv L' pk' := by
  obtain ⟨E', pk2, z, hz, h1, h2, h3, h4, h5, h6⟩ := hold_ok h.ok s n pk h.lo h.hi
  rw [hz] at e
  injection e with e1 e2
  injection e1 with e1
  subst e1
  subst e2
  exact ⟨h1, h2.2 h.rise, h5, h6⟩
end Go.Proofs.Ytbdlkpmaalhnnaa.SP
