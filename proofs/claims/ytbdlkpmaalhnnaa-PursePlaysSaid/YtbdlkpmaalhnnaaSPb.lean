/- Plain: what opening and holding make of a purse's entries: the order of opening has no part; what is held is at most the peak, and that at most what may be. -/
import Derived.Test.YtbdlkpmaalhnnaaSPa
import Derived.Test.YtbdlkpmaalhnnaaXPb
namespace Go.Proofs.Ytbdlkpmaalhnnaa.SP
open Go Go.Maps Go.RowKit Go.Proofs.Ytbdlkpmaalhnnaa.X

def hd (a b : Int) : DataW Unit := .agg [.lit (.int .i64 a), .lit (.int .i64 b)]
/-- Entries of a purse. -/
structure Ok (E : List (Lit × DataW Unit)) : Prop where
  key : ∀ p ∈ E, ∃ s, p.1 = .string s
  one : E.Pairwise (fun p q => p.1 ≠ q.1)
  val : ∀ p ∈ E, ∃ a b, p.2 = hd a b ∧ 0 ≤ b ∧ b ≤ a ∧ a ≤ 1099511627776
  few : E.length ≤ 1024
def held (E : List (Lit × DataW Unit)) : Int := sumOf (fun _ b => b) E
def most (E : List (Lit × DataW Unit)) : Int := sumOf (fun a _ => a) E
theorem sums : ∀ {E : List (Lit × DataW Unit)}, (∀ p ∈ E, ∃ a b, p.2 = hd a b ∧ 0 ≤ b ∧ b ≤ a ∧ a ≤ 1099511627776) → 0 ≤ held E ∧ held E ≤ most E ∧ most E ≤ (E.length : Int) * 1099511627776
  | [], _ => by simp [held, most, sumOf]
  | p :: E, h => by
    obtain ⟨a, b, e, h1, h2, h3⟩ := h p List.mem_cons_self
    obtain ⟨i1, i2, i3⟩ := sums (E := E) (fun q hq => h q (List.mem_cons_of_mem _ hq))
    have e1 : held (p :: E) = b + held E := by unfold held; rw [sumOf, e]; rfl
    have e2 : most (p :: E) = a + most E := by unfold most; rw [sumOf, e]; rfl
    rw [e1, e2, List.length_cons]
    refine ⟨by omega, by omega, ?_⟩
    have : ((E.length + 1 : Nat) : Int) * 1099511627776 = (E.length : Int) * 1099511627776 + 1099511627776 := by omega
    omega
theorem Ok.sums {E : List (Lit × DataW Unit)} (h : Ok E) : 0 ≤ held E ∧ held E ≤ most E ∧ most E ≤ 1125899906842624 := by
  obtain ⟨h1, h2, h3⟩ := SP.sums h.val
  have := h.few
  omega
theorem w_of {x : Int} (h0 : 0 ≤ x) (h1 : x ≤ 1125899906842624) : wrap64 x = x := by unfold wrap64; omega
theorem insert_perm {H : Type} (x : Lit × DataW H) : ∀ E, (DataW.insert x E).Perm (x :: E)
  | [] => List.Perm.refl _
  | y :: E => by
    unfold DataW.insert
    split
    · exact List.Perm.refl _
    · exact (List.Perm.cons y (insert_perm x E)).trans (List.Perm.swap x y E)
/-- The keys rise. -/
def Rise (E : List (Lit × DataW Unit)) : Prop := E.Pairwise (fun p q => p.1.before q.1 = true)
theorem insert_rise {a : List UInt8} {d : DataW Unit} : ∀ {E : List (Lit × DataW Unit)}, (∀ p ∈ E, ∃ s, p.1 = .string s) → Rise E → (∀ p ∈ E, p.1 ≠ .string a) → Rise (DataW.insert (.string a, d) E)
  | [], _, _, _ => by rw [ins_n]; exact List.pairwise_singleton _ _
  | (k, v) :: E, hk, hr, hn => by
    obtain ⟨c, hc⟩ := hk (k, v) List.mem_cons_self
    have hc : k = .string c := hc
    subst hc
    obtain ⟨r1, r2⟩ := List.pairwise_cons.1 hr
    have hac : a ≠ c := fun e => hn _ List.mem_cons_self (by rw [e])
    rw [ins_c]
    by_cases z : bytesBefore a c = true
    · rw [if_pos z]
      refine List.pairwise_cons.2 ⟨fun q hq => ?_, hr⟩
      rcases List.mem_cons.1 hq with rfl | hq
      · exact z
      · have := r1 q hq
        obtain ⟨s, hs⟩ := hk q (List.mem_cons_of_mem _ hq)
        rw [hs] at this ⊢
        exact bb_trans z this
    · rw [if_neg z]
      have z2 : bytesBefore c a = true := (bb_tri hac).resolve_left z
      refine List.pairwise_cons.2 ⟨fun q hq => ?_, insert_rise (fun p hp => hk p (List.mem_cons_of_mem _ hp)) r2 (fun p hp => hn p (List.mem_cons_of_mem _ hp))⟩
      rcases List.mem_cons.1 ((insert_perm _ _).mem_iff.1 hq) with rfl | hq
      · exact z2
      · exact r1 q hq
theorem sumOf_perm (f : Int → Int → Int) {E E' : List (Lit × DataW Unit)} (h : E.Perm E') : sumOf f E = sumOf f E' := by
  induction h with
  | nil => rfl
  | cons x _ ih => rw [sumOf, sumOf, ih]
  | swap x y l => rw [sumOf, sumOf, sumOf, sumOf]; omega
  | trans _ _ h1 h2 => exact h1.trans h2
theorem Ok.perm {E E' : List (Lit × DataW Unit)} (h : Ok E) (p : E'.Perm E) : Ok E' :=
  ⟨fun q hq => h.key q (p.mem_iff.1 hq), (p.pairwise_iff (fun h => h.symm)).2 h.one, fun q hq => h.val q (p.mem_iff.1 hq), by rw [p.length_eq]; exact h.few⟩
theorem same_iff {s k : List UInt8} : (Lit.string s).sameKey (.string k) = true ↔ s = k := by simp [Lit.sameKey]
/-- An entry by its key. -/
theorem take_out {k : List UInt8} {v : DataW Unit} : ∀ {E : List (Lit × DataW Unit)}, (∀ p ∈ E, ∃ s, p.1 = .string s) → E.Pairwise (fun p q => p.1 ≠ q.1) → (.string k, v) ∈ E →
    E.find? (fun p => p.1.sameKey (.string k)) = some (.string k, v) ∧ E.Perm ((.string k, v) :: E.filter (fun p => !p.1.sameKey (.string k)))
  | [], _, _, h => by cases h
  | y :: E, hk, h1, h => by
    obtain ⟨s, hs⟩ := hk y List.mem_cons_self
    obtain ⟨h2, h3⟩ := List.pairwise_cons.1 h1
    by_cases e : s = k
    · subst e
      have hy : y = (.string s, v) := by
        rcases List.mem_cons.1 h with h | h
        · exact h.symm
        · exact absurd hs (h2 _ h)
      subst hy
      have ht : (Lit.string s).sameKey (.string s) = true := same_iff.2 rfl
      refine ⟨List.find?_cons_of_pos (p := fun p : Lit × DataW Unit => p.1.sameKey (.string s)) ht, ?_⟩
      have hf : E.filter (fun p => !p.1.sameKey (.string s)) = E := List.filter_eq_self.2 fun p hp => by
        have hne := h2 p hp
        obtain ⟨z, hz⟩ := hk p (List.mem_cons_of_mem _ hp)
        have : ¬ p.1.sameKey (.string s) = true := by
          rw [hz, same_iff]; intro e; subst e; exact hne hz.symm
        simpa using this
      rw [List.filter_cons_of_neg (by simp [ht]), hf]
    · have ht : ¬ y.1.sameKey (.string k) = true := by rw [hs, same_iff]; exact e
      have hm : (.string k, v) ∈ E := by
        rcases List.mem_cons.1 h with h | h
        · subst h; injection hs with hs; exact absurd hs.symm e
        · exact h
      obtain ⟨i1, i2⟩ := take_out (fun p hp => hk p (List.mem_cons_of_mem _ hp)) h3 hm
      refine ⟨(List.find?_cons_of_neg (p := fun p : Lit × DataW Unit => p.1.sameKey (.string k)) ht).trans i1, ?_⟩
      rw [List.filter_cons_of_pos (by simp [ht])]
      exact (List.Perm.cons y i2).trans (List.Perm.swap _ _ _)
theorem has_mem {E : List (Lit × DataW Unit)} (hk : ∀ p ∈ E, ∃ s, p.1 = .string s) {k : List UInt8} (h : Maps.has (.map E) (.string k) = true) : ∃ v, (.string k, v) ∈ E := by
  rw [Maps.has_eq, List.any_eq_true] at h
  obtain ⟨p, hp, hs⟩ := h
  obtain ⟨s, e⟩ := hk p hp
  rw [e, same_iff] at hs
  subst hs
  exact ⟨p.2, by rw [← e]; exact hp⟩
/-- What Hold makes of the entries and of the peak. -/
theorem hold_ok {E : List (Lit × DataW Unit)} (h : Ok E) (s : ByteArray) (n pk : Int) (h1 : held E ≤ pk) (h2 : pk ≤ most E) :
    ∃ E' pk' e, holdC (.map E) s n pk = (e, .map E', pk') ∧ Ok E' ∧ (E'.length = E.length ∧ (Rise E → Rise E')) ∧ most E' = most E ∧ ((e ≠ 0 ∧ E' = E ∧ pk' = pk) ∨ (e = 0 ∧ pk' = max pk (held E'))) ∧ held E' ≤ pk' ∧ pk' ≤ most E' := by
  by_cases c1 : Maps.has (.map E) (.string s.data.toList) = true
  case neg => exact ⟨E, pk, 230, by unfold holdC; rw [if_neg c1], h, ⟨rfl, id⟩, rfl, .inl ⟨by decide, rfl, rfl⟩, h1, h2⟩
  by_cases c2 : n < 0
  · exact ⟨E, pk, 1, by unfold holdC; rw [if_pos c1, if_pos c2], h, ⟨rfl, id⟩, rfl, .inl ⟨by decide, rfl, rfl⟩, h1, h2⟩
  obtain ⟨v, hv⟩ := has_mem h.key c1
  obtain ⟨t1, t2⟩ := take_out h.key h.one hv
  obtain ⟨a, b, ev, b1, b2, b3⟩ := h.val _ hv
  have ev : v = hd a b := ev
  subst ev
  have hat : (DataW.map E).atKey (.string s.data.toList) (.agg [.lit (.int .i64 0), .lit (.int .i64 0)]) = hd a b := by
    unfold DataW.atKey
    dsimp only
    rw [t1]
  by_cases c3 : n > a
  · exact ⟨E, pk, 1, by unfold holdC; rw [if_pos c1, if_neg c2, hat, if_pos (show n > el (fun a _ => a) (hd a b) from c3)], h, ⟨rfl, id⟩, rfl, .inl ⟨by decide, rfl, rfl⟩, h1, h2⟩
  have hp : (DataW.insert (.string s.data.toList, hd a n) (E.filter fun p => !p.1.sameKey (.string s.data.toList))).Perm ((.string s.data.toList, hd a n) :: E.filter fun p => !p.1.sameKey (.string s.data.toList)) := insert_perm _ _
  have hE2 : Ok ((.string s.data.toList, hd a n) :: E.filter fun p => !p.1.sameKey (.string s.data.toList)) := by
    have hE1 := h.perm t2.symm
    obtain ⟨o1, o2⟩ := List.pairwise_cons.1 hE1.one
    refine ⟨fun q hq => ?_, List.pairwise_cons.2 ⟨o1, o2⟩, fun q hq => ?_, hE1.few⟩
    · rcases List.mem_cons.1 hq with rfl | hq
      · exact ⟨_, rfl⟩
      · exact hE1.key q (List.mem_cons_of_mem _ hq)
    · rcases List.mem_cons.1 hq with rfl | hq
      · exact ⟨a, n, rfl, by omega, by omega, b3⟩
      · exact hE1.val q (List.mem_cons_of_mem _ hq)
  have hE' := hE2.perm hp
  have m1 : most E = a + most (E.filter fun p => !p.1.sameKey (.string s.data.toList)) := by unfold most; rw [sumOf_perm _ t2, sumOf]; rfl
  have m2 : most (DataW.insert (.string s.data.toList, hd a n) (E.filter fun p => !p.1.sameKey (.string s.data.toList))) = a + most (E.filter fun p => !p.1.sameKey (.string s.data.toList)) := by unfold most; rw [sumOf_perm _ hp, sumOf]; rfl
  obtain ⟨s1, s2, s3⟩ := hE'.sums
  have hw := w_of s1 (by omega)
  refine ⟨_, max pk (held (DataW.insert (.string s.data.toList, hd a n) (E.filter fun p => !p.1.sameKey (.string s.data.toList)))), 0, ?_, hE', ⟨by rw [hp.length_eq, t2.length_eq, List.length_cons, List.length_cons], fun hr => insert_rise (fun p hp => h.key p (List.mem_filter.1 hp).1) (List.Pairwise.filter _ hr) (fun p hp e => by
    have := (List.mem_filter.1 hp).2
    rw [e] at this
    simp [same_iff.2 rfl] at this)⟩, by omega, .inr ⟨rfl, rfl⟩, by omega, by omega⟩
  unfold holdC
  rw [if_pos c1, if_neg c2, hat, if_neg (show ¬ n > el (fun a _ => a) (hd a b) from c3)]
  rw [← hw]; rfl
/-- The entries that so many opens make. -/
def ent (l : List (ByteArray × Int)) : List (List UInt8 × DataW Unit) := l.map fun x => (x.1.data.toList, hd x.2 0)
def EL (l : List (ByteArray × Int)) : List (Lit × DataW Unit) := ins [] (ent l)
structure LOk (l : List (ByteArray × Int)) : Prop where
  one : l.Pairwise (fun x y => x.1 ≠ y.1)
  val : ∀ x ∈ l, 0 ≤ x.2 ∧ x.2 ≤ 1099511627776
  few : l.length ≤ 1024
theorem ba_ext {a b : ByteArray} (h : a.data.toList = b.data.toList) : a = b := by
  cases a; cases b
  congr 1
  exact Array.toList_inj.1 h
theorem EL_key (l : List (ByteArray × Int)) : ∀ p ∈ EL l, ∃ s, p.1 = .string s := ins_keys (ent l) (fun p hp => by cases hp)
theorem EL_snoc (l : List (ByteArray × Int)) (s : ByteArray) (m : Int) : EL (l ++ [(s, m)]) = DataW.insert (.string s.data.toList, hd m 0) (EL l) := by
  unfold EL ent; rw [List.map_append, ins_append]; rfl
theorem ins_perm {H : Type} : ∀ (L : List (List UInt8 × DataW H)) (E : List (Lit × DataW H)), (ins E L).Perm (L.map (fun x => (Lit.string x.1, x.2)) ++ E)
  | [], E => List.Perm.refl _
  | x :: L, E => by
    rw [ins]
    exact (ins_perm L _).trans ((List.Perm.append_left _ (insert_perm _ _)).trans List.perm_middle)
theorem EL_perm (l : List (ByteArray × Int)) : (EL l).Perm (l.map fun x => (Lit.string x.1.data.toList, hd x.2 0)) := by
  have := ins_perm (ent l) []
  rw [List.append_nil] at this
  unfold ent at this
  rw [List.map_map] at this
  exact this
theorem EL_ok {l : List (ByteArray × Int)} (h : LOk l) : Ok (EL l) ∧ held (EL l) = 0 := by
  constructor
  · refine Ok.perm ⟨fun p hp => ?_, ?_, fun p hp => ?_, by rw [List.length_map]; exact h.few⟩ (EL_perm l)
    · obtain ⟨x, _, rfl⟩ := List.mem_map.1 hp
      exact ⟨_, rfl⟩
    · refine List.pairwise_map.2 (h.one.imp fun hxy e => ?_)
      injection e with e
      exact hxy (ba_ext e)
    · obtain ⟨x, hx, rfl⟩ := List.mem_map.1 hp
      obtain ⟨v1, v2⟩ := h.val x hx
      exact ⟨x.2, 0, rfl, by omega, v1, v2⟩
  · unfold held
    rw [sumOf_perm _ (EL_perm l)]
    clear h
    induction l with
    | nil => rfl
    | cons x l ih => rw [List.map_cons, sumOf, ih]; rfl
theorem EL_rise (l : List (ByteArray × Int)) : LOk l → Rise (EL l) := by
  suffices h : ∀ (r l : List (ByteArray × Int)), LOk (l ++ r) → Rise (EL l) → Rise (EL (l ++ r)) from fun hl => h l [] hl List.Pairwise.nil
  intro r
  induction r with
  | nil => intro l _ h; rw [List.append_nil]; exact h
  | cons x r ih =>
    intro l hl h
    rw [show l ++ x :: r = l ++ [x] ++ r by simp] at hl ⊢
    refine ih _ hl ?_
    obtain ⟨s, m⟩ := x
    rw [EL_snoc]
    refine insert_rise (EL_key l) h (fun p hp e => ?_)
    obtain ⟨y, hy, rfl⟩ := List.mem_map.1 ((EL_perm l).mem_iff.1 hp)
    injection e with e
    obtain ⟨o1, _, _⟩ := List.pairwise_append.1 hl.one
    obtain ⟨_, _, o3⟩ := List.pairwise_append.1 o1
    exact o3 y hy (s, m) (by simp) (ba_ext e)
theorem EL_rev {l : List (ByteArray × Int)} (h : LOk l) : EL l.reverse = EL l := by
  unfold EL ent
  rw [List.map_reverse]
  refine ins_reverse _ (fun p hp => by cases hp) (List.pairwise_map.2 (h.one.imp fun hxy e => hxy (ba_ext e)))
theorem EL_has {l : List (ByteArray × Int)} {s : ByteArray} : Maps.has (.map (EL l)) (.string s.data.toList) = true ↔ ∃ x ∈ l, x.1 = s := by
  rw [Maps.has_eq, List.any_eq_true]
  constructor
  · rintro ⟨p, hp, hs⟩
    obtain ⟨x, hx, rfl⟩ := List.mem_map.1 ((EL_perm l).mem_iff.1 hp)
    exact ⟨x, hx, ba_ext (same_iff.1 hs)⟩
  · rintro ⟨x, hx, rfl⟩
    exact ⟨_, (EL_perm l).mem_iff.2 (List.mem_map.2 ⟨x, hx, rfl⟩), same_iff.2 rfl⟩
theorem EL_size (l : List (ByteArray × Int)) : Maps.size (.map (EL l)) = l.length := by
  rw [Maps.size_eq, (EL_perm l).length_eq, List.length_map]
theorem EL_put {l : List (ByteArray × Int)} {s : ByteArray} (m : Int) (h : ¬ ∃ x ∈ l, x.1 = s) : (DataW.map (EL l)).put (.string s.data.toList) (.agg [.lit (.int .i64 m), .lit (.int .i64 0)]) = .map (EL (l ++ [(s, m)])) := by
  have hf : (EL l).filter (fun p => !p.1.sameKey (.string s.data.toList)) = EL l := List.filter_eq_self.2 fun p hp => by
    obtain ⟨x, hx, rfl⟩ := List.mem_map.1 ((EL_perm l).mem_iff.1 hp)
    have : ¬ (Lit.string x.1.data.toList).sameKey (.string s.data.toList) = true := fun e => h ⟨x, hx, ba_ext (same_iff.1 e)⟩
    simpa using this
  show DataW.map (DataW.insert (.string s.data.toList, hd m 0) ((EL l).filter (fun p => !p.1.sameKey (.string s.data.toList)))) = _
  rw [hf, EL_snoc]
/-- An open that goes through. -/
theorem open_goes {l : List (ByteArray × Int)} {s : ByteArray} {m : Int} (h : LOk (l ++ [(s, m)])) : openF (.map (EL l)) s m = (0, .map (EL (l ++ [(s, m)]))) := by
  obtain ⟨o1, _, o3⟩ := List.pairwise_append.1 h.one
  have hv := h.val (s, m) (by simp)
  have hf := h.few
  rw [List.length_append, List.length_singleton] at hf
  have hn : ¬ ∃ x ∈ l, x.1 = s := fun ⟨x, hx, e⟩ => o3 x hx (s, m) (by simp) e
  have hv1 : 0 ≤ m ∧ m ≤ 1099511627776 := hv
  unfold openF
  rw [if_neg (by omega), if_neg (by omega), EL_size, if_neg (by omega), if_neg (fun z => hn (EL_has.1 z)), EL_put m hn]
/-- What an open that goes through tells. -/
theorem open_told {l : List (ByteArray × Int)} (h : LOk l) {s : ByteArray} {m : Int} : ((openF (.map (EL l)) s m).1 = 0 ∧ LOk (l ++ [(s, m)])) ∨ ((openF (.map (EL l)) s m).1 ≠ 0 ∧ (openF (.map (EL l)) s m).2 = .map (EL l)) := by
  by_cases c1 : m < 0
  · exact .inr (by unfold openF; rw [if_pos c1]; exact ⟨by simp, rfl⟩)
  by_cases c2 : m > 1099511627776
  · exact .inr (by unfold openF; rw [if_neg c1, if_pos c2]; exact ⟨by simp, rfl⟩)
  by_cases c3 : l.length ≥ 1024
  · exact .inr (by unfold openF; rw [if_neg c1, if_neg c2, EL_size, if_pos (by omega)]; exact ⟨by simp, rfl⟩)
  by_cases c4 : ∃ x ∈ l, x.1 = s
  · exact .inr (by unfold openF; rw [if_neg c1, if_neg c2, EL_size, if_neg (by omega), if_pos (EL_has.2 c4)]; exact ⟨by simp, rfl⟩)
  have hL : LOk (l ++ [(s, m)]) := by
    refine ⟨List.pairwise_append.2 ⟨h.one, by simp, fun x hx y hy => ?_⟩, fun x hx => ?_, by rw [List.length_append, List.length_singleton]; omega⟩
    · rw [List.mem_singleton.1 hy]; exact fun e => c4 ⟨x, hx, e⟩
    · rcases List.mem_append.1 hx with hx | hx
      · exact h.val x hx
      · rw [List.mem_singleton.1 hx]; exact ⟨by show 0 ≤ m; omega, by show m ≤ _; omega⟩
  exact .inl ⟨by rw [open_goes hL], hL⟩
end Go.Proofs.Ytbdlkpmaalhnnaa.SP
