/- Plain: a map's entries do not know the order in which unlike keys came in. No program is in sight. -/
import GoSem.ClaimMapViews
namespace Go.Proofs.Ytbdlkpmaalhnnaa.SP
open Go
section
variable {H : Type}
theorem bb_irr : ∀ a : List UInt8, bytesBefore a a = false
  | [] => rfl
  | a :: r => by
    simp only [bytesBefore, bb_irr r, Bool.and_false, Bool.or_false, decide_eq_false_iff_not]
    exact UInt8.lt_irrefl a
theorem bb_asym : ∀ {a b : List UInt8}, bytesBefore a b = true → bytesBefore b a = false
  | [], [], h => by simp [bytesBefore] at h
  | [], _ :: _, _ => rfl
  | _ :: _, [], h => by simp [bytesBefore] at h
  | a :: r, b :: s, h => by
    simp only [bytesBefore, Bool.or_eq_true, decide_eq_true_eq, Bool.and_eq_true, beq_iff_eq, Bool.or_eq_false_iff, decide_eq_false_iff_not, Bool.and_eq_false_iff] at h ⊢
    rcases h with h | ⟨h1, h2⟩
    · refine ⟨fun h3 => ?_, .inl ?_⟩
      · exact absurd (UInt8.lt_trans h h3) (UInt8.lt_irrefl a)
      · simp only [beq_eq_false_iff_ne, ne_eq]
        intro e; subst e; exact UInt8.lt_irrefl _ h
    · subst h1
      exact ⟨UInt8.lt_irrefl a, .inr (bb_asym h2)⟩
theorem bb_tri : ∀ {a b : List UInt8}, a ≠ b → bytesBefore a b = true ∨ bytesBefore b a = true
  | [], [], h => absurd rfl h
  | [], _ :: _, _ => .inl rfl
  | _ :: _, [], _ => .inr rfl
  | a :: r, b :: s, h => by
    simp only [bytesBefore, Bool.or_eq_true, decide_eq_true_eq, Bool.and_eq_true, beq_iff_eq]
    by_cases e : a = b
    · subst e
      have hr : r ≠ s := fun e => h (by rw [e])
      rcases bb_tri hr with z | z
      · exact .inl (.inr ⟨rfl, z⟩)
      · exact .inr (.inr ⟨rfl, z⟩)
    · rcases UInt8.lt_or_lt_of_ne e with z | z
      · exact .inl (.inl z)
      · exact .inr (.inl z)
theorem bb_trans : ∀ {a b c : List UInt8}, bytesBefore a b = true → bytesBefore b c = true → bytesBefore a c = true
  | _, [], [], _, h => by simp [bytesBefore] at h
  | _, _ :: _, [], _, h => by simp [bytesBefore] at h
  | [], _, _ :: _, _, _ => rfl
  | _ :: _, [], _ :: _, h, _ => by simp [bytesBefore] at h
  | a :: r, b :: s, c :: t, h, k => by
    simp only [bytesBefore, Bool.or_eq_true, decide_eq_true_eq, Bool.and_eq_true, beq_iff_eq] at h k ⊢
    rcases h with h | ⟨h1, h2⟩
    · rcases k with k | ⟨k1, k2⟩
      · exact .inl (UInt8.lt_trans h k)
      · subst k1; exact .inl h
    · subst h1
      rcases k with k | ⟨k1, k2⟩
      · exact .inl k
      · exact .inr ⟨k1, bb_trans h2 k2⟩
theorem ins_c (a c : List UInt8) (d v : DataW H) (E : List (Lit × DataW H)) : DataW.insert (.string a, d) ((.string c, v) :: E) = if bytesBefore a c = true then (.string a, d) :: (.string c, v) :: E else (.string c, v) :: DataW.insert (.string a, d) E := rfl
theorem ins_n (a : List UInt8) (d : DataW H) : DataW.insert (.string a, d) [] = [(.string a, d)] := rfl
/-- Two unlike keys go in in either order. -/
theorem insert_comm {a b : List UInt8} (d e : DataW H) (h : a ≠ b) : ∀ E : List (Lit × DataW H), (∀ p ∈ E, ∃ s, p.1 = .string s) →
    DataW.insert (.string a, d) (DataW.insert (.string b, e) E) = DataW.insert (.string b, e) (DataW.insert (.string a, d) E)
  | [], _ => by
    rw [ins_n, ins_n, ins_c, ins_c, ins_n, ins_n]
    rcases bb_tri h with z | z
    · rw [if_pos z, if_neg (by rw [bb_asym z]; decide)]
    · rw [if_pos z, if_neg (by rw [bb_asym z]; decide)]
  | (k, v) :: E, hE => by
    obtain ⟨c, hc⟩ := hE (k, v) List.mem_cons_self
    have hc : k = .string c := hc
    subst hc
    have ih := insert_comm d e h E (fun p hp => hE p (List.mem_cons_of_mem _ hp))
    rw [ins_c b, ins_c a c d v E]
    by_cases z1 : bytesBefore a c = true
    · by_cases z2 : bytesBefore b c = true
      · rw [if_pos z1, if_pos z2, ins_c, ins_c, ins_c, ins_c]
        rcases bb_tri h with z | z
        · rw [if_pos z, if_neg (by rw [bb_asym z]; decide), if_pos z2]
        · rw [if_neg (by rw [bb_asym z]; decide), if_pos z, if_pos z1]
      · have z3 : bytesBefore b a = false := by
          cases z : bytesBefore b a with
          | false => rfl
          | true => exact absurd (bb_trans z z1) z2
        rw [if_pos z1, if_neg z2, ins_c, ins_c, ins_c, if_pos z1, if_neg (by rw [z3]; decide), if_neg z2]
    · by_cases z2 : bytesBefore b c = true
      · have z3 : bytesBefore a b = false := by
          cases z : bytesBefore a b with
          | false => rfl
          | true => exact absurd (bb_trans z z2) z1
        rw [if_neg z1, if_pos z2, ins_c, ins_c, ins_c, if_neg (by rw [z3]; decide), if_neg z1, if_pos z2]
      · rw [if_neg z1, if_neg z2, ins_c, ins_c, if_neg z1, if_neg z2, ih]
theorem insert_keys {a : List UInt8} {d : DataW H} : ∀ {E : List (Lit × DataW H)}, (∀ p ∈ E, ∃ s, p.1 = .string s) → ∀ p ∈ DataW.insert (.string a, d) E, ∃ s, p.1 = .string s
  | [], _, p, hp => by
    simp only [DataW.insert, List.mem_singleton] at hp
    exact ⟨a, by rw [hp]⟩
  | y :: E, hE, p, hp => by
    simp only [DataW.insert] at hp
    split at hp
    · rcases List.mem_cons.1 hp with rfl | hp
      · exact ⟨a, rfl⟩
      · exact hE p hp
    · rcases List.mem_cons.1 hp with rfl | hp
      · exact hE _ List.mem_cons_self
      · exact insert_keys (fun q hq => hE q (List.mem_cons_of_mem _ hq)) p hp
/-- Entries put in one behind another. -/
def ins (E : List (Lit × DataW H)) : List (List UInt8 × DataW H) → List (Lit × DataW H)
  | [] => E
  | x :: l => ins (DataW.insert (.string x.1, x.2) E) l
theorem ins_keys : ∀ (l : List (List UInt8 × DataW H)) {E : List (Lit × DataW H)}, (∀ p ∈ E, ∃ s, p.1 = .string s) → ∀ p ∈ ins E l, ∃ s, p.1 = .string s
  | [], _, h => h
  | _ :: l, _, h => ins_keys l (insert_keys h)
theorem ins_insert {a : List UInt8} {d : DataW H} : ∀ (l : List (List UInt8 × DataW H)) {E : List (Lit × DataW H)}, (∀ p ∈ E, ∃ s, p.1 = .string s) → (∀ x ∈ l, x.1 ≠ a) → ins (DataW.insert (.string a, d) E) l = DataW.insert (.string a, d) (ins E l)
  | [], _, _, _ => rfl
  | x :: l, E, h, hl => by
    simp only [ins]
    rw [insert_comm x.2 d (hl x List.mem_cons_self) E h, ins_insert l (insert_keys h) (fun y hy => hl y (List.mem_cons_of_mem _ hy))]
theorem ins_append : ∀ (l l' : List (List UInt8 × DataW H)) (E : List (Lit × DataW H)), ins E (l ++ l') = ins (ins E l) l'
  | [], _, _ => rfl
  | _ :: l, l', _ => by simp only [List.cons_append, ins]; exact ins_append l l' _
/-- In either order. -/
theorem ins_reverse : ∀ (l : List (List UInt8 × DataW H)) {E : List (Lit × DataW H)}, (∀ p ∈ E, ∃ s, p.1 = .string s) → l.Pairwise (fun x y => x.1 ≠ y.1) → ins E l.reverse = ins E l
  | [], _, _, _ => rfl
  | x :: l, E, h, hp => by
    obtain ⟨h1, h2⟩ := List.pairwise_cons.1 hp
    rw [List.reverse_cons, ins_append, ins_reverse l h h2]
    simp only [ins]
    exact (ins_insert l h (fun y hy => (h1 y hy).symm)).symm
end
end Go.Proofs.Ytbdlkpmaalhnnaa.SP
