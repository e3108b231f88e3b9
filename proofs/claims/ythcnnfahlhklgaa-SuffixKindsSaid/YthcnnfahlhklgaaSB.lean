import Derived.Test.YthcnnfahlhklgaaXx2
import Derived.Test.YthcnnfahlhklgaaXx3
import Derived.Test.YthcnnfahlhklgaaXx5
import Derived.Test.YthcnnfahlhklgaaXx6
import Derived.Test.YthcnnfahlhklgaaXx7
import Derived.Test.YthcnnfahlhklgaaXx8
import Derived.Test.YthcnnfahlhklgaaXx9
import Derived.Test.YthcnnfahlhklgaaXx10
section
/- Plain mathematics for the order of suffixes: n numbers c 0 .. c (n-1); suffixes compared from the front; small suffixes and turns; what inducing makes of any order of the turns. No program is in sight. -/
namespace Go.Proofs.Ythcnnfahlhklgaa.SM

/-! ### counting -/
def cn : Nat→(Nat→Bool)→Nat
 | 0,_=>0
 | n + 1,P=>cn n P + (if P n then 1 else 0)

theorem cn_congr {n : Nat} {P Q : Nat→Bool} (h : ∀ j,j < n→P j = Q j) : cn n P = cn n Q:=by
 induction n with
 | zero=>rfl
 | succ n ih=>simp only [cn]; rw [ih (fun j hj=>h j (by omega)),h n (by omega)]

theorem cn_mono {n : Nat} {P Q : Nat→Bool} (h : ∀ j,j < n→P j = true→Q j = true) : cn n P≤cn n Q:=by
 induction n with
 | zero=>exact Nat.le_refl _
 | succ n ih =>
  simp only [cn]
  have h1:=ih (fun j hj=>h j (by omega))
  by_cases hp : P n = true
  ·rw [if_pos hp,if_pos (h n (by omega) hp)]; omega
  ·rw [if_neg hp]; omega

theorem cn_lt {n : Nat} {P Q : Nat→Bool} (h : ∀ j,j < n→P j = true→Q j = true) {i : Nat} (hi : i < n) (hq : Q i = true) (hp : P i = false) : cn n P < cn n Q:=by
 induction n with
 | zero=>omega
 | succ n ih =>
  simp only [cn]
  by_cases e : i = n
  ·subst e
   have h1:=cn_mono (n:=i) (P:=P) (Q:=Q) (fun j hj=>h j (by omega))
   rw [if_pos hq,if_neg (by rw [hp]; simp)]; omega
  ·have h1:=ih (fun j hj=>h j (by omega)) (by omega)
   by_cases hn : P n = true
   ·rw [if_pos hn,if_pos (h n (by omega) hn)]; omega
   ·rw [if_neg hn]; omega

theorem cn_le {n : Nat} (P : Nat→Bool) : cn n P≤n:=by
 induction n with
 | zero=>exact Nat.le_refl _
 | succ n ih=>simp only [cn]; split <;> omega

theorem cn_or {n : Nat} {P Q : Nat→Bool} (h : ∀ j,j < n→¬ (P j = true∧Q j = true)) : cn n (fun j=>P j || Q j) = cn n P + cn n Q:=by
 induction n with
 | zero=>rfl
 | succ n ih =>
  simp only [cn]
  rw [ih (fun j hj=>h j (by omega))]
  have h1:=h n (by omega)
  by_cases hp : P n = true
  ·have hq : Q n = false:=by
    cases hq : Q n with
    | false=>rfl
    | true=>exact absurd ⟨hp,hq⟩ h1
   rw [if_pos (show (P n || Q n) = true by rw [hp]; rfl),if_pos hp,if_neg (show ¬ Q n = true by rw [hq]; simp)]; omega
  ·have hp' : P n = false:=by simpa using hp
   rw [if_neg hp]
   by_cases hq : Q n = true
   ·rw [if_pos (show (P n || Q n) = true by rw [hq]; simp),if_pos hq]; omega
   ·rw [if_neg (show ¬ (P n || Q n) = true by rw [hp']; simpa using hq),if_neg hq]; omega

theorem cn_one {n i : Nat} (hi : i < n) : cn n (fun j=>j == i) = 1:=by
 induction n with
 | zero=>omega
 | succ n ih =>
  simp only [cn]
  by_cases e : i = n
  ·subst e
   have : cn i (fun j=>j == i) = 0:=by
    have h1 : ∀ m,m≤i→cn m (fun j=>j == i) = 0:=by
     intro m
     induction m with
     | zero=>intro _; rfl
     | succ m ih2=>intro hm; simp only [cn]; rw [ih2 (by omega),if_neg (by simp; omega)]
    exact h1 i (Nat.le_refl _)
   rw [this]; simp
  ·rw [ih (by omega),if_neg (by simp; omega)]

theorem cn_false {n : Nat} {P : Nat→Bool} (h : ∀ j,j < n→P j = false) : cn n P = 0:=by
 induction n with
 | zero=>rfl
 | succ n ih=>simp only [cn]; rw [ih (fun j hj=>h j (by omega)),h n (by omega)]; rfl

theorem cn_true {n : Nat} {P : Nat→Bool} (h : ∀ j,j < n→P j = true) : cn n P = n:=by
 induction n with
 | zero=>rfl
 | succ n ih=>simp only [cn]; rw [ih (fun j hj=>h j (by omega)),h n (by omega)]; rfl
theorem cn_succ {n : Nat} {P Q : Nat→Bool} {i : Nat} (hi : i < n) (hp : P i = false) (h : ∀ j,j < n→Q j = (P j || j == i)) : cn n Q = cn n P + 1:=by
 rw [cn_congr h,cn_or (fun j _ hh=>?_),cn_one hi]
 obtain ⟨h1,h2⟩:=hh
 have : j = i:=by simpa using h2
 rw [this,hp] at h1
 exact absurd h1 (by simp)

theorem pigeon : ∀ (n : Nat) (f : Nat→Nat),(∀ i,i < n→f i < n)→(∀ i j,i < n→j < n→f i = f j→i = j)→∀ q,q < n→∃ i,i < n∧f i = q:=by
 intro n
 induction n with
 | zero=>intro f _ _ q hq; omega
 | succ n ih =>
  intro f hf inj q hq
  have hm:=hf n (by omega)
  by_cases e : f n = n
  ·have h:=ih f (fun i hi=>by
    have h1:=hf i (by omega)
    rcases Nat.lt_or_ge (f i) n with h2 | h2
    ·exact h2
    ·have h3 : f i = f n:=by omega
     have:=inj i n (by omega) (by omega) h3
     omega) (fun i j hi hj=>inj i j (by omega) (by omega))
   by_cases e2 : q = n
   ·exact ⟨n,by omega,by omega⟩
   ·obtain ⟨i,hi,he⟩:=h q (by omega)
    exact ⟨i,by omega,he⟩
  ·have hg : ∀ i,i < n→(if f i = n then f n else f i) < n:=by
    intro i hi
    have h1:=hf i (by omega)
    split
    ·omega
    ·omega
   have hinj : ∀ i j,i < n→j < n→(if f i = n then f n else f i) = (if f j = n then f n else f j)→i = j:=by
    intro i j hi hj h
    split at h
    ·split at h
     ·exact inj i j (by omega) (by omega) (by omega)
     ·have:=inj n j (by omega) (by omega) h; omega
    ·split at h
     ·have:=inj i n (by omega) (by omega) h; omega
     ·exact inj i j (by omega) (by omega) h
   have h:=ih (fun i=>if f i = n then f n else f i) hg hinj
   by_cases e1 : q = f n
   ·exact ⟨n,by omega,by omega⟩
   ·by_cases e2 : q = n
    ·obtain ⟨i,hi,he⟩:=h (f n) (by omega)
     split at he
     ·exact ⟨i,by omega,by omega⟩
     ·have:=inj i n (by omega) (by omega) he; omega
    ·obtain ⟨i,hi,he⟩:=h q (by omega)
     split at he
     ·exact absurd he.symm e1
     ·exact ⟨i,by omega,he⟩

/-! ### suffixes -/
def slt (n : Nat) (c : Nat→Int) (i j : Nat) : Bool :=
 if _h : i < n then
  if j < n then decide (c i < c j) || (decide (c i = c j) && slt n c (i + 1) (j + 1)) else false
 else decide (j < n)
termination_by n - i
def sm (n : Nat) (c : Nat→Int) (i : Nat) : Bool :=
 if _h : i + 1 < n then decide (c i < c (i + 1)) || (decide (c i = c (i + 1)) && sm n c (i + 1)) else false
termination_by n - i
def trn (n : Nat) (c : Nat→Int) (i : Nat) : Bool:=decide (0 < i) && (sm n c i && !sm n c (i - 1))

section
variable {n : Nat} {c : Nat→Int}

theorem slt_in {i j : Nat} (hi : i < n) (hj : j < n) : slt n c i j = true↔c i < c j∨(c i = c j∧slt n c (i + 1) (j + 1) = true):=by
 rw [slt,dif_pos hi,if_pos hj]; simp
theorem slt_end {i j : Nat} (hi : n≤i) : slt n c i j = true↔j < n:=by
 rw [slt,dif_neg (by omega)]; simp
theorem slt_to_end {i j : Nat} (hj : n≤j) : slt n c i j = false:=by
 rw [slt]; split
 ·rw [if_neg (by omega)]
 ·simp; omega
theorem slt_irrefl (d : Nat) : ∀ i,n - i = d→slt n c i i = false:=by
 induction d with
 | zero=>intro i h; exact slt_to_end (by omega)
 | succ d ih =>
  intro i h
  have h1:=ih (i + 1) (by omega)
  have h2:=slt_in (c:=c) (i:=i) (j:=i) (n:=n) (by omega) (by omega)
  cases h3 : slt n c i i with
  | false=>rfl
  | true =>
   rcases h2.1 h3 with h4 | h4
   ·omega
   ·rw [h1] at h4; exact absurd h4.2 (by simp)
theorem slt_irr (i : Nat) : slt n c i i = false:=slt_irrefl _ i rfl
theorem slt_trans' (d : Nat) : ∀ i j k,n - i = d→slt n c i j = true→slt n c j k = true→slt n c i k = true:=by
 induction d with
 | zero =>
  intro i j k h h1 h2
  have hj:=(slt_end (by omega)).1 h1
  have hk : k < n:=by
   rcases Nat.lt_or_ge k n with h3 | h3
   ·exact h3
   ·rw [slt_to_end h3] at h2; cases h2
  exact (slt_end (by omega)).2 hk
 | succ d ih =>
  intro i j k h h1 h2
  have hj : j < n:=by
   rcases Nat.lt_or_ge j n with h3 | h3
   ·exact h3
   ·rw [slt_to_end h3] at h1; cases h1
  have hk : k < n:=by
   rcases Nat.lt_or_ge k n with h3 | h3
   ·exact h3
   ·rw [slt_to_end h3] at h2; cases h2
  have hi : i < n:=by omega
  refine (slt_in hi hk).2 ?_
  rcases (slt_in hi hj).1 h1 with a | ⟨a,a'⟩ <;> rcases (slt_in hj hk).1 h2 with b | ⟨b,b'⟩
  ·left; omega
  ·left; omega
  ·left; omega
  ·right; exact ⟨by omega,ih _ _ _ (by omega) a' b'⟩
theorem slt_trans {i j k : Nat} (h1 : slt n c i j = true) (h2 : slt n c j k = true) : slt n c i k = true:=slt_trans' _ i j k rfl h1 h2
theorem slt_asymm {i j : Nat} (h1 : slt n c i j = true) : slt n c j i = false:=by
 cases h : slt n c j i with
 | false=>rfl
 | true=>have:=slt_trans h1 h; rw [slt_irr] at this; cases this
theorem slt_total' (d : Nat) : ∀ i j,n - i = d→i≤n→j≤n→i ≠ j→slt n c i j = true∨slt n c j i = true:=by
 induction d with
 | zero =>
  intro i j h hi hj hne
  left; exact (slt_end (by omega)).2 (by omega)
 | succ d ih =>
  intro i j h hi hj hne
  have hi' : i < n:=by omega
  rcases Nat.lt_or_ge j n with hj' | hj'
  ·rcases Int.lt_trichotomy (c i) (c j) with a | a | a
   ·left; exact (slt_in hi' hj').2 (.inl a)
   ·rcases ih (i + 1) (j + 1) (by omega) (by omega) (by omega) (by omega) with b | b
    ·left; exact (slt_in hi' hj').2 (.inr ⟨a,b⟩)
    ·right; exact (slt_in hj' hi').2 (.inr ⟨a.symm,b⟩)
   ·right; exact (slt_in hj' hi').2 (.inl a)
  ·right; exact (slt_end hj').2 hi'
theorem slt_total {i j : Nat} (hi : i≤n) (hj : j≤n) (hne : i ≠ j) : slt n c i j = true∨slt n c j i = true:=slt_total' _ i j rfl hi hj hne

theorem sm_in {i : Nat} (h : i + 1 < n) : sm n c i = true↔c i < c (i + 1)∨(c i = c (i + 1)∧sm n c (i + 1) = true):=by
 rw [sm,dif_pos h]; simp
theorem sm_out {i : Nat} (h : n≤i + 1) : sm n c i = false:=by
 rw [sm,dif_neg (by omega)]
theorem sm_lt {i : Nat} (h : sm n c i = true) : i + 1 < n:=by
 rcases Nat.lt_or_ge (i + 1) n with h1 | h1
 ·exact h1
 ·rw [sm_out h1] at h; cases h
theorem sm_false {i : Nat} (h : sm n c i = false) (hi : i + 1 < n) : c (i + 1) < c i∨(c i = c (i + 1)∧sm n c (i + 1) = false):=by
 rcases Int.lt_trichotomy (c i) (c (i + 1)) with a | a | a
 ·rw [(sm_in hi).2 (.inl a)] at h; cases h
 ·cases hs : sm n c (i + 1) with
  | false=>exact .inr ⟨a,rfl⟩
  | true=>rw [(sm_in hi).2 (.inr ⟨a,hs⟩)] at h; cases h
 ·exact .inl a
theorem big_lt_small' (d : Nat) : ∀ i j,n - i = d→i < n→j < n→c i = c j→sm n c i = false→sm n c j = true→slt n c i j = true:=by
 induction d with
 | zero=>intro i j h hi; omega
 | succ d ih =>
  intro i j h hi hj e hs ht
  have hj1:=sm_lt ht
  refine (slt_in hi hj).2 (.inr ⟨e,?_⟩)
  rcases Nat.lt_or_ge (i + 1) n with h1 | h1
  ·rcases sm_false hs h1 with a | ⟨a,a'⟩ <;> rcases (sm_in hj1).1 ht with b | ⟨b,b'⟩
   ·exact (slt_in h1 hj1).2 (.inl (by omega))
   ·exact (slt_in h1 hj1).2 (.inl (by omega))
   ·exact (slt_in h1 hj1).2 (.inl (by omega))
   ·exact ih _ _ (by omega) h1 hj1 (by omega) a' b'
  ·exact (slt_end h1).2 hj1
theorem big_lt_small {i j : Nat} (hi : i < n) (hj : j < n) (e : c i = c j) (hs : sm n c i = false) (ht : sm n c j = true) : slt n c i j = true:=big_lt_small' _ i j rfl hi hj e hs ht

theorem trn_iff {i : Nat} : trn n c i = true↔0 < i∧sm n c i = true∧sm n c (i - 1) = false:=by
 unfold trn; simp
theorem next_big {i : Nat} (_hi : i < n) (h : sm n c i = false) : i + 1 = n∨sm n c (i + 1) = false∨trn n c (i + 1) = true:=by
 cases hs : sm n c (i + 1) with
 | false=>exact .inr (.inl rfl)
 | true=>exact .inr (.inr (trn_iff.2 ⟨by omega,hs,by simpa using h⟩))
end
end Go.Proofs.Ythcnnfahlhklgaa.SM
end

section
/- Plain mathematics for inducing: the order that the passes make out of any order r of the turns, its ranks, when it is the suffixes' own order, and the pieces' names. No program is in sight. -/
namespace Go.Proofs.Ythcnnfahlhklgaa.SM
def lt2 (n : Nat) (c : Nat→Int) (r : Nat→Nat) (i j : Nat) : Bool :=
 if _h : i < n then
  if j < n then
   if c i = c j then
    if sm n c i then (if sm n c j then decide (r i < r j) else false)
    else (if sm n c j then true else lt2 n c r (i + 1) (j + 1))
   else decide (c i < c j)
  else false
 else decide (j < n)
termination_by n - i
def lt3 (n : Nat) (c : Nat→Int) (r : Nat→Nat) (i j : Nat) : Bool :=
 if _h : i < n then
  if j < n then
   if c i = c j then
    if sm n c i then (if sm n c j then lt3 n c r (i + 1) (j + 1) else false)
    else (if sm n c j then true else lt2 n c r (i + 1) (j + 1))
   else decide (c i < c j)
  else false
 else decide (j < n)
termination_by n - i
def eq2 (n : Nat) (c : Nat→Int) (i j : Nat) : Bool :=
 if _h : i < n then
  if j < n∧c i = c j then (if sm n c i then sm n c j else (if sm n c j then false else eq2 n c (i + 1) (j + 1))) else false
 else false
termination_by n - i
def eq3 (n : Nat) (c : Nat→Int) (i j : Nat) : Bool :=
 if _h : i < n then
  if j < n∧c i = c j then (if sm n c i then (if sm n c j then eq3 n c (i + 1) (j + 1) else false) else (if sm n c j then false else eq2 n c (i + 1) (j + 1))) else false
 else false
termination_by n - i

section
variable {n : Nat} {c : Nat→Int} {r : Nat→Nat}

theorem lt2_ne {i j : Nat} (hi : i < n) (hj : j < n) (h : c i ≠ c j) : lt2 n c r i j = decide (c i < c j):=by
 rw [lt2,dif_pos hi,if_pos hj,if_neg h]
theorem lt2_bb {i j : Nat} (hi : i < n) (hj : j < n) (h : c i = c j) (hs : sm n c i = false) (ht : sm n c j = false) : lt2 n c r i j = lt2 n c r (i + 1) (j + 1):=by
 rw [lt2,dif_pos hi,if_pos hj,if_pos h,hs,ht]; rfl
theorem lt2_bs {i j : Nat} (hi : i < n) (hj : j < n) (h : c i = c j) (hs : sm n c i = false) (ht : sm n c j = true) : lt2 n c r i j = true:=by
 rw [lt2,dif_pos hi,if_pos hj,if_pos h,hs,ht]; rfl
theorem lt2_sb {i j : Nat} (hi : i < n) (hj : j < n) (h : c i = c j) (hs : sm n c i = true) (ht : sm n c j = false) : lt2 n c r i j = false:=by
 rw [lt2,dif_pos hi,if_pos hj,if_pos h,hs,ht]; rfl
theorem lt2_ss {i j : Nat} (hi : i < n) (hj : j < n) (h : c i = c j) (hs : sm n c i = true) (ht : sm n c j = true) : lt2 n c r i j = decide (r i < r j):=by
 rw [lt2,dif_pos hi,if_pos hj,if_pos h,hs,ht]; rfl
theorem lt2_end {i j : Nat} (hi : n≤i) : lt2 n c r i j = decide (j < n):=by rw [lt2,dif_neg (by omega)]
theorem lt2_to_end {i j : Nat} (hj : n≤j) : lt2 n c r i j = false:=by
 rw [lt2]; split
 ·rw [if_neg (by omega)]
 ·simp; omega
theorem lt3_ne {i j : Nat} (hi : i < n) (hj : j < n) (h : c i ≠ c j) : lt3 n c r i j = decide (c i < c j):=by
 rw [lt3,dif_pos hi,if_pos hj,if_neg h]
theorem lt3_bb {i j : Nat} (hi : i < n) (hj : j < n) (h : c i = c j) (hs : sm n c i = false) (ht : sm n c j = false) : lt3 n c r i j = lt2 n c r (i + 1) (j + 1):=by
 rw [lt3,dif_pos hi,if_pos hj,if_pos h,hs,ht]; rfl
theorem lt3_bs {i j : Nat} (hi : i < n) (hj : j < n) (h : c i = c j) (hs : sm n c i = false) (ht : sm n c j = true) : lt3 n c r i j = true:=by
 rw [lt3,dif_pos hi,if_pos hj,if_pos h,hs,ht]; rfl
theorem lt3_sb {i j : Nat} (hi : i < n) (hj : j < n) (h : c i = c j) (hs : sm n c i = true) (ht : sm n c j = false) : lt3 n c r i j = false:=by
 rw [lt3,dif_pos hi,if_pos hj,if_pos h,hs,ht]; rfl
theorem lt3_ss {i j : Nat} (hi : i < n) (hj : j < n) (h : c i = c j) (hs : sm n c i = true) (ht : sm n c j = true) : lt3 n c r i j = lt3 n c r (i + 1) (j + 1):=by
 rw [lt3,dif_pos hi,if_pos hj,if_pos h,hs,ht]; rfl
theorem lt3_end {i j : Nat} (hi : n≤i) : lt3 n c r i j = decide (j < n):=by rw [lt3,dif_neg (by omega)]
theorem lt3_to_end {i j : Nat} (hj : n≤j) : lt3 n c r i j = false:=by
 rw [lt3]; split
 ·rw [if_neg (by omega)]
 ·simp; omega

theorem lt2_irr' (d : Nat) : ∀ i,n - i = d→lt2 n c r i i = false:=by
 induction d with
 | zero=>intro i h; exact lt2_to_end (by omega)
 | succ d ih =>
  intro i h
  cases hs : sm n c i with
  | true=>rw [lt2_ss (by omega) (by omega) rfl hs hs]; simp
  | false=>rw [lt2_bb (by omega) (by omega) rfl hs hs]; exact ih _ (by omega)
theorem lt2_irr (i : Nat) : lt2 n c r i i = false:=lt2_irr' _ i rfl
theorem lt3_irr' (d : Nat) : ∀ i,n - i = d→lt3 n c r i i = false:=by
 induction d with
 | zero=>intro i h; exact lt3_to_end (by omega)
 | succ d ih =>
  intro i h
  cases hs : sm n c i with
  | true=>rw [lt3_ss (by omega) (by omega) rfl hs hs]; exact ih _ (by omega)
  | false=>rw [lt3_bb (by omega) (by omega) rfl hs hs]; exact lt2_irr _
theorem lt3_irr (i : Nat) : lt3 n c r i i = false:=lt3_irr' _ i rfl

theorem lt2_in {i j : Nat} (h : lt2 n c r i j = true) : j < n:=by
 rcases Nat.lt_or_ge j n with h1 | h1
 ·exact h1
 ·rw [lt2_to_end h1] at h; cases h
theorem lt3_in {i j : Nat} (h : lt3 n c r i j = true) : j < n:=by
 rcases Nat.lt_or_ge j n with h1 | h1
 ·exact h1
 ·rw [lt3_to_end h1] at h; cases h
theorem lt2_le {i j : Nat} (hi : i < n) (h : lt2 n c r i j = true) : c i≤c j:=by
 have hj:=lt2_in h
 by_cases e : c i = c j
 ·omega
 ·rw [lt2_ne hi hj e] at h
  have:=of_decide_eq_true h; omega
theorem lt3_le {i j : Nat} (hi : i < n) (h : lt3 n c r i j = true) : c i≤c j:=by
 have hj:=lt3_in h
 by_cases e : c i = c j
 ·omega
 ·rw [lt3_ne hi hj e] at h
  have:=of_decide_eq_true h; omega

theorem lt2_trans' (d : Nat) : ∀ i j k,n - i = d→lt2 n c r i j = true→lt2 n c r j k = true→lt2 n c r i k = true:=by
 induction d with
 | zero =>
  intro i j k h h1 h2
  rw [lt2_end (by omega)]; exact decide_eq_true (lt2_in h2)
 | succ d ih =>
  intro i j k h h1 h2
  have hi : i < n:=by omega
  have hj:=lt2_in h1
  have hk:=lt2_in h2
  have e1:=lt2_le hi h1
  have e2:=lt2_le hj h2
  by_cases e : c i = c k
  ·have a : c i = c j:=by omega
   have b : c j = c k:=by omega
   cases hs : sm n c i <;> cases ht : sm n c j <;> cases hu : sm n c k
   ·rw [lt2_bb hi hj a hs ht] at h1; rw [lt2_bb hj hk b ht hu] at h2
    rw [lt2_bb hi hk e hs hu]; exact ih _ _ _ (by omega) h1 h2
   ·exact lt2_bs hi hk e hs hu
   ·rw [lt2_sb hj hk b ht hu] at h2; cases h2
   ·exact lt2_bs hi hk e hs hu
   ·rw [lt2_sb hi hj a hs ht] at h1; cases h1
   ·rw [lt2_sb hi hj a hs ht] at h1; cases h1
   ·rw [lt2_sb hj hk b ht hu] at h2; cases h2
   ·rw [lt2_ss hi hj a hs ht] at h1; rw [lt2_ss hj hk b ht hu] at h2
    rw [lt2_ss hi hk e hs hu]
    have:=of_decide_eq_true h1; have:=of_decide_eq_true h2
    exact decide_eq_true (by omega)
  ·rw [lt2_ne hi hk e]; exact decide_eq_true (by omega)
theorem lt2_trans {i j k : Nat} (h1 : lt2 n c r i j = true) (h2 : lt2 n c r j k = true) : lt2 n c r i k = true:=lt2_trans' _ i j k rfl h1 h2
theorem lt3_trans' (d : Nat) : ∀ i j k,n - i = d→lt3 n c r i j = true→lt3 n c r j k = true→lt3 n c r i k = true:=by
 induction d with
 | zero =>
  intro i j k h h1 h2
  rw [lt3_end (by omega)]; exact decide_eq_true (lt3_in h2)
 | succ d ih =>
  intro i j k h h1 h2
  have hi : i < n:=by omega
  have hj:=lt3_in h1
  have hk:=lt3_in h2
  have e1:=lt3_le hi h1
  have e2:=lt3_le hj h2
  by_cases e : c i = c k
  ·have a : c i = c j:=by omega
   have b : c j = c k:=by omega
   cases hs : sm n c i <;> cases ht : sm n c j <;> cases hu : sm n c k
   ·rw [lt3_bb hi hj a hs ht] at h1; rw [lt3_bb hj hk b ht hu] at h2
    rw [lt3_bb hi hk e hs hu]; exact lt2_trans h1 h2
   ·exact lt3_bs hi hk e hs hu
   ·rw [lt3_sb hj hk b ht hu] at h2; cases h2
   ·exact lt3_bs hi hk e hs hu
   ·rw [lt3_sb hi hj a hs ht] at h1; cases h1
   ·rw [lt3_sb hi hj a hs ht] at h1; cases h1
   ·rw [lt3_sb hj hk b ht hu] at h2; cases h2
   ·rw [lt3_ss hi hj a hs ht] at h1; rw [lt3_ss hj hk b ht hu] at h2
    rw [lt3_ss hi hk e hs hu]; exact ih _ _ _ (by omega) h1 h2
  ·rw [lt3_ne hi hk e]; exact decide_eq_true (by omega)
theorem lt3_trans {i j k : Nat} (h1 : lt3 n c r i j = true) (h2 : lt3 n c r j k = true) : lt3 n c r i k = true:=lt3_trans' _ i j k rfl h1 h2
def InA (n : Nat) (c : Nat→Int) (i : Nat) : Prop:=i≤n∧(i < n→sm n c i = true→trn n c i = true)
theorem InA.next {i : Nat} (hi : i < n) (h : sm n c i = false) : InA n c (i + 1):=by
 refine ⟨by omega,fun h1 h2=>?_⟩
 rcases next_big hi h with a | a | a
 ·omega
 ·rw [a] at h2; cases h2
 ·exact a
theorem InA.big {i : Nat} (hi : i < n) (h : sm n c i = false) : InA n c i:=⟨by omega,fun _ h2=>by rw [h] at h2; cases h2⟩
theorem InA.turn {i : Nat} (h : trn n c i = true) : InA n c i:=⟨by have:=sm_lt (trn_iff.1 h).2.1; omega,fun _ _=>h⟩
def Inj (n : Nat) (c : Nat→Int) (r : Nat→Nat) : Prop:=∀ t u,trn n c t = true→trn n c u = true→r t = r u→t = u

theorem lt2_total' (hr : Inj n c r) (d : Nat) : ∀ i j,n - i = d→InA n c i→InA n c j→i ≠ j→lt2 n c r i j = true∨lt2 n c r j i = true:=by
 induction d with
 | zero =>
  intro i j h hi hj hne
  have:=hi.1; have:=hj.1
  left; rw [lt2_end (by omega)]; exact decide_eq_true (by omega)
 | succ d ih =>
  intro i j h hi hj hne
  have hi' : i < n:=by omega
  rcases Nat.lt_or_ge j n with hj' | hj'
  ·by_cases e : c i = c j
   ·cases hs : sm n c i <;> cases ht : sm n c j
    ·rw [lt2_bb hi' hj' e hs ht,lt2_bb hj' hi' e.symm ht hs]
     exact ih _ _ (by omega) (InA.next hi' hs) (InA.next hj' ht) (by omega)
    ·left; exact lt2_bs hi' hj' e hs ht
    ·right; exact lt2_bs hj' hi' e.symm ht hs
    ·rw [lt2_ss hi' hj' e hs ht,lt2_ss hj' hi' e.symm ht hs]
     have:=fun h=>hne (hr i j (hi.2 hi' hs) (hj.2 hj' ht) h)
     rcases Nat.lt_trichotomy (r i) (r j) with a | a | a
     ·left; exact decide_eq_true a
     ·exact absurd a this
     ·right; exact decide_eq_true a
   ·rw [lt2_ne hi' hj' e,lt2_ne hj' hi' (Ne.symm e)]
    rcases Int.lt_or_gt_of_ne e with a | a
    ·left; exact decide_eq_true a
    ·right; exact decide_eq_true a
  ·right; rw [lt2_end hj']; exact decide_eq_true hi'
theorem lt2_total (hr : Inj n c r) {i j : Nat} (hi : InA n c i) (hj : InA n c j) (hne : i ≠ j) : lt2 n c r i j = true∨lt2 n c r j i = true:=lt2_total' hr _ i j rfl hi hj hne
theorem lt3_total' (hr : Inj n c r) (d : Nat) : ∀ i j,n - i = d→i≤n→j≤n→i ≠ j→lt3 n c r i j = true∨lt3 n c r j i = true:=by
 induction d with
 | zero =>
  intro i j h hi hj hne
  left; rw [lt3_end (by omega)]; exact decide_eq_true (by omega)
 | succ d ih =>
  intro i j h hi hj hne
  have hi' : i < n:=by omega
  rcases Nat.lt_or_ge j n with hj' | hj'
  ·by_cases e : c i = c j
   ·cases hs : sm n c i <;> cases ht : sm n c j
    ·rw [lt3_bb hi' hj' e hs ht,lt3_bb hj' hi' e.symm ht hs]
     exact lt2_total hr (InA.next hi' hs) (InA.next hj' ht) (by omega)
    ·left; exact lt3_bs hi' hj' e hs ht
    ·right; exact lt3_bs hj' hi' e.symm ht hs
    ·rw [lt3_ss hi' hj' e hs ht,lt3_ss hj' hi' e.symm ht hs]
     exact ih _ _ (by omega) (by omega) (by omega) (by omega)
   ·rw [lt3_ne hi' hj' e,lt3_ne hj' hi' (Ne.symm e)]
    rcases Int.lt_or_gt_of_ne e with a | a
    ·left; exact decide_eq_true a
    ·right; exact decide_eq_true a
  ·right; rw [lt3_end hj']; exact decide_eq_true hi'
theorem lt3_total (hr : Inj n c r) {i j : Nat} (hi : i≤n) (hj : j≤n) (hne : i ≠ j) : lt3 n c r i j = true∨lt3 n c r j i = true:=lt3_total' hr _ i j rfl hi hj hne
theorem lt2_step' (d : Nat) : ∀ i,n - i = d→i < n→sm n c i = false→lt2 n c r (i + 1) i = true:=by
 induction d with
 | zero=>intro i h hi; omega
 | succ d ih =>
  intro i h hi hs
  rcases Nat.lt_or_ge (i + 1) n with h1 | h1
  ·rcases sm_false hs h1 with a | ⟨a,b⟩
   ·rw [lt2_ne h1 hi (by omega)]; exact decide_eq_true a
   ·rw [lt2_bb h1 hi a.symm b hs]; exact ih _ (by omega) h1 b
  ·rw [lt2_end h1]; exact decide_eq_true hi
theorem lt2_step {i : Nat} (hi : i < n) (h : sm n c i = false) : lt2 n c r (i + 1) i = true:=lt2_step' _ i rfl hi h
theorem lt3_step' (d : Nat) : ∀ i,n - i = d→i < n→sm n c i = true→lt3 n c r i (i + 1) = true:=by
 induction d with
 | zero=>intro i h hi; omega
 | succ d ih =>
  intro i h hi hs
  have h1:=sm_lt hs
  rcases (sm_in h1).1 hs with a | ⟨a,b⟩
  ·rw [lt3_ne hi h1 (by omega)]; exact decide_eq_true a
  ·rw [lt3_ss hi h1 a hs b]; exact ih _ (by omega) h1 b
theorem lt3_step {i : Nat} (hi : i < n) (h : sm n c i = true) : lt3 n c r i (i + 1) = true:=lt3_step' _ i rfl hi h
theorem lt3_big {i j : Nat} (hi : i < n) (hj : j < n) (hs : sm n c i = false) (ht : sm n c j = false) : lt3 n c r i j = lt2 n c r i j:=by
 by_cases e : c i = c j
 ·rw [lt3_bb hi hj e hs ht,lt2_bb hi hj e hs ht]
 ·rw [lt3_ne hi hj e,lt2_ne hi hj e]

/-! ### where all stand -/
def rk3 (n : Nat) (c : Nat→Int) (r : Nat→Nat) (i : Nat) : Nat:=cn n (fun j=>lt3 n c r j i)
def fr (n : Nat) (c : Nat→Int) (v : Int) : Nat:=cn n (fun j=>decide (c j < v))
def tov (n : Nat) (c : Nat→Int) (v : Int) : Nat:=cn n (fun j=>decide (c j≤v))
def nb (n : Nat) (c : Nat→Int) (v : Int) : Nat:=cn n (fun j=>decide (c j = v) && !sm n c j)
def ns (n : Nat) (c : Nat→Int) (v : Int) : Nat:=cn n (fun j=>decide (c j = v) && sm n c j)
def tl (n : Nat) (c : Nat→Int) (r : Nat→Nat) (t : Nat) : Nat:=cn n (fun u=>trn n c u && (decide (c u = c t) && decide (r t≤r u)))
def loc2 (n : Nat) (c : Nat→Int) (r : Nat→Nat) (i : Nat) : Nat:=if sm n c i then tov n c (c i) - tl n c r i else rk3 n c r i

theorem rk3_lt {i : Nat} (hi : i < n) : rk3 n c r i < n:=by
 have h:=cn_lt (n:=n) (P:=fun j=>lt3 n c r j i) (Q:=fun _=>true) (fun _ _ _=>rfl) hi rfl (lt3_irr i)
 rw [cn_true (fun _ _=>rfl)] at h; exact h
theorem rk3_mono {i j : Nat} (hi : i < n) (h : lt3 n c r i j = true) : rk3 n c r i < rk3 n c r j :=
 cn_lt (fun _ _ hk=>lt3_trans hk h) hi h (lt3_irr i)
theorem rk3_inj (hr : Inj n c r) {i j : Nat} (hi : i < n) (hj : j < n) (h : rk3 n c r i = rk3 n c r j) : i = j:=by
 by_cases e : i = j
 ·exact e
 ·rcases lt3_total hr (Nat.le_of_lt hi) (Nat.le_of_lt hj) e with a | a
  ·have:=rk3_mono hi a; omega
  ·have:=rk3_mono hj a; omega
theorem rk3_iff (hr : Inj n c r) {i j : Nat} (hi : i < n) (hj : j < n) : rk3 n c r i < rk3 n c r j↔lt3 n c r i j = true:=by
 refine ⟨fun h=>?_,fun h=>rk3_mono hi h⟩
 by_cases e : i = j
 ·subst e; omega
 ·rcases lt3_total hr (Nat.le_of_lt hi) (Nat.le_of_lt hj) e with a | a
  ·exact a
  ·have:=rk3_mono hj a; omega
theorem to_parts (v : Int) : tov n c v = fr n c v + (nb n c v + ns n c v):=by
 unfold tov fr nb ns
 rw [← cn_or (fun j _ h=>by simp only [Bool.and_eq_true,Bool.not_eq_true',decide_eq_true_eq] at h; rw [h.1.2] at h; exact absurd h.2.2 (by simp)),← cn_or (fun j _ h=>by simp only [Bool.or_eq_true,Bool.and_eq_true,decide_eq_true_eq] at h; omega)]
 refine cn_congr fun j _=>?_
 cases sm n c j <;> simp <;> (rw [Bool.eq_iff_iff]; simp; omega)
theorem fr_mono {u v : Int} (h : u < v) : tov n c u≤fr n c v:=by
 refine cn_mono fun j _ hj=>?_
 have:=of_decide_eq_true hj
 exact decide_eq_true (by omega)
theorem to_le (v : Int) : tov n c v≤n:=cn_le _
theorem rk3_big {i : Nat} (hi : i < n) (hs : sm n c i = false) : rk3 n c r i = fr n c (c i) + cn n (fun j=>(decide (c j = c i) && !sm n c j) && lt2 n c r j i):=by
 unfold rk3 fr
 rw [← cn_or (fun j _ h=>by simp only [Bool.and_eq_true,decide_eq_true_eq] at h; omega)]
 refine cn_congr fun j hj=>?_
 by_cases e : c j = c i
 ·cases ht : sm n c j with
  | false=>rw [lt3_big hj hi ht hs]; simp [e]
  | true=>rw [lt3_sb hj hi e ht hs]; simp [e]
 ·rw [lt3_ne hj hi e]; simp [e]
theorem rk3_big_lt {i : Nat} (hi : i < n) (hs : sm n c i = false) : rk3 n c r i < fr n c (c i) + nb n c (c i):=by
 rw [rk3_big hi hs]
 have:=cn_lt (n:=n) (P:=fun j=>(decide (c j = c i) && !sm n c j) && lt2 n c r j i) (Q:=fun j=>decide (c j = c i) && !sm n c j) (fun j _ h=>by simp only [Bool.and_eq_true] at h; simp only [Bool.and_eq_true]; exact h.1) hi (by simp [hs]) (by simp [lt2_irr])
 unfold nb; omega
theorem rk3_small (hr : Inj n c r) {i : Nat} (hi : i < n) (hs : sm n c i = true) : rk3 n c r i + (cn n (fun j=>(decide (c j = c i) && sm n c j) && lt3 n c r i j) + 1) = tov n c (c i):=by
 unfold rk3 tov
 have h1 : cn n (fun j=>(decide (c j = c i) && sm n c j) && lt3 n c r i j) + 1 = cn n (fun j=>((decide (c j = c i) && sm n c j) && lt3 n c r i j) || j == i) :=
  (cn_succ hi (by simp [lt3_irr]) (fun _ _=>rfl)).symm
 rw [h1,← cn_or (fun j hj h=>by
  simp only [Bool.or_eq_true,Bool.and_eq_true,decide_eq_true_eq,beq_iff_eq] at h
  rcases h with ⟨h2,⟨_,h3⟩ | h3⟩
  ·have:=lt3_trans h2 h3; rw [lt3_irr] at this; cases this
  ·subst h3; rw [lt3_irr] at h2; cases h2)]
 refine cn_congr fun j hj=>?_
 by_cases e : j = i
 ·subst e; simp
 ·rcases lt3_total hr (Nat.le_of_lt hj) (Nat.le_of_lt hi) e with a | a
  ·have:=lt3_le hj a; simp [a,this]
  ·have h2 : lt3 n c r j i = false:=by
    cases h3 : lt3 n c r j i with
    | false=>rfl
    | true=>have:=lt3_trans a h3; rw [lt3_irr] at this; cases this
   have h4:=lt3_le hi a
   rw [h2,a]
   by_cases e2 : c j = c i
   ·have : sm n c j = true:=by
     cases h5 : sm n c j with
     | true=>rfl
     | false=>rw [lt3_sb hi hj e2.symm hs h5] at a; cases a
    simp [e2,this]
   ·have : ¬ c j≤c i:=by omega
    simp [e2,this,e]
theorem rk3_small_ge {i : Nat} (hi : i < n) (hs : sm n c i = true) : fr n c (c i) + nb n c (c i)≤rk3 n c r i:=by
 unfold fr nb rk3
 rw [← cn_or (fun j _ h=>by simp only [Bool.and_eq_true,decide_eq_true_eq] at h; omega)]
 refine cn_mono fun j hj h=>?_
 simp only [Bool.or_eq_true,Bool.and_eq_true,decide_eq_true_eq,Bool.not_eq_true'] at h
 rcases h with h | ⟨h,h'⟩
 ·rw [lt3_ne hj hi (by omega)]; exact decide_eq_true h
 ·exact lt3_bs hj hi h h' hs
theorem rk3_lt_to {i : Nat} (hi : i < n) : rk3 n c r i < tov n c (c i):=by
 refine cn_lt (fun j hj h=>decide_eq_true (lt3_le hj h)) hi (decide_eq_true (Int.le_refl _)) (lt3_irr i)
theorem rk3_ge {i : Nat} (hi : i < n) : fr n c (c i)≤rk3 n c r i:=by
 refine cn_mono fun j hj h=>?_
 have:=of_decide_eq_true h
 rw [lt3_ne hj hi (by omega)]; exact h

theorem tl_le (t : Nat) : tl n c r t≤ns n c (c t):=by
 refine cn_mono fun j _ h=>?_
 simp only [Bool.and_eq_true,decide_eq_true_eq] at h
 simp only [Bool.and_eq_true,decide_eq_true_eq]
 exact ⟨h.2.1,(trn_iff.1 h.1).2.1⟩
theorem tl_pos {t : Nat} (h : trn n c t = true) : 0 < tl n c r t:=by
 have:=cn_lt (n:=n) (P:=fun _=>false) (Q:=fun u=>trn n c u && (decide (c u = c t) && decide (r t≤r u))) (fun _ _ h=>by cases h) (i:=t) (by have:=sm_lt (trn_iff.1 h).2.1; omega) (by simp [h]) rfl
 unfold tl; omega
theorem loc2_turn {t : Nat} (h : trn n c t = true) : loc2 n c r t = tov n c (c t) - tl n c r t:=by
 unfold loc2; rw [if_pos (trn_iff.1 h).2.1]
theorem loc2_big {i : Nat} (hs : sm n c i = false) : loc2 n c r i = rk3 n c r i:=by
 unfold loc2; rw [hs]; rfl
theorem loc2_turn_ge {t : Nat} : fr n c (c t) + nb n c (c t)≤tov n c (c t) - tl n c r t:=by
 have:=tl_le (n:=n) (c:=c) (r:=r) t
 have:=to_parts (n:=n) (c:=c) (c t)
 omega
theorem loc2_bounds {i : Nat} (hi : i < n) (hA : InA n c i) : fr n c (c i)≤loc2 n c r i∧loc2 n c r i < tov n c (c i):=by
 cases hs : sm n c i with
 | false=>rw [loc2_big hs]; exact ⟨rk3_ge hi,rk3_lt_to hi⟩
 | true =>
  have ht:=hA.2 hi hs
  rw [loc2_turn ht]
  have h1:=loc2_turn_ge (n:=n) (c:=c) (r:=r) (t:=i)
  have h2:=tl_pos (r:=r) ht
  have h3:=tl_le (n:=n) (c:=c) (r:=r) i
  have h4:=to_parts (n:=n) (c:=c) (c i)
  omega
theorem loc2_lt {i : Nat} (hi : i < n) (hA : InA n c i) : loc2 n c r i < n:=Nat.lt_of_lt_of_le (loc2_bounds hi hA).2 (to_le _)
theorem loc2_mono {i j : Nat} (hi : i < n) (hA : InA n c i) (hB : InA n c j) (h : lt2 n c r i j = true) : loc2 n c r i < loc2 n c r j:=by
 have hj:=lt2_in h
 have h1:=loc2_bounds (r:=r) hi hA
 have h2:=loc2_bounds (r:=r) hj hB
 by_cases e : c i = c j
 ·cases hs : sm n c i <;> cases ht : sm n c j
  ·rw [loc2_big hs,loc2_big ht]
   exact rk3_mono hi (by rw [lt3_big hi hj hs ht]; exact h)
  ·rw [loc2_big hs,loc2_turn (hB.2 hj ht)]
   have:=rk3_big_lt (r:=r) hi hs
   have:=loc2_turn_ge (n:=n) (c:=c) (r:=r) (t:=j)
   rw [e] at *; omega
  ·rw [lt2_sb hi hj e hs ht] at h; cases h
  ·have hti:=hA.2 hi hs
   have htj:=hB.2 hj ht
   rw [loc2_turn hti,loc2_turn htj]
   rw [lt2_ss hi hj e hs ht] at h
   have hlt:=of_decide_eq_true h
   have h3 : tl n c r j < tl n c r i:=by
    refine cn_lt (fun u _ hu=>?_) hi (by simp [hti]) (by simp; intro _ _; omega)
    simp only [Bool.and_eq_true,decide_eq_true_eq] at hu
    simp only [Bool.and_eq_true,decide_eq_true_eq]
    exact ⟨hu.1,by omega,by omega⟩
   have h4:=tl_le (n:=n) (c:=c) (r:=r) i
   have h5:=to_parts (n:=n) (c:=c) (c i)
   rw [← e]; omega
 ·have h3:=lt2_le hi h
  have:=fr_mono (n:=n) (c:=c) (u:=c i) (v:=c j) (by omega)
  omega
theorem loc2_inj (hr : Inj n c r) {i j : Nat} (hi : i < n) (hj : j < n) (hA : InA n c i) (hB : InA n c j) (h : loc2 n c r i = loc2 n c r j) : i = j:=by
 by_cases e : i = j
 ·exact e
 ·rcases lt2_total hr hA hB e with a | a
  ·have:=loc2_mono hi hA hB a; omega
  ·have:=loc2_mono hj hB hA a; omega
theorem loc2_iff (hr : Inj n c r) {i j : Nat} (hi : i < n) (hj : j < n) (hA : InA n c i) (hB : InA n c j) : loc2 n c r i < loc2 n c r j↔lt2 n c r i j = true:=by
 refine ⟨fun h=>?_,fun h=>loc2_mono hi hA hB h⟩
 by_cases e : i = j
 ·subst e; omega
 ·rcases lt2_total hr hA hB e with a | a
  ·exact a
  ·have:=loc2_mono hj hB hA a; omega
end
end Go.Proofs.Ythcnnfahlhklgaa.SM
end

section
/- Plain mathematics for inducing: an order of the turns that is their suffixes' own induces the suffixes' own order; names of pieces; the shorter list. No program is in sight. -/
namespace Go.Proofs.Ythcnnfahlhklgaa.SM
section
variable {n : Nat} {c : Nat→Int} {r : Nat→Nat}
def Own (n : Nat) (c : Nat→Int) (r : Nat→Nat) : Prop:=∀ t u,trn n c t = true→trn n c u = true→(r t < r u↔slt n c t u = true)

theorem slt_ne {i j : Nat} (hi : i < n) (hj : j < n) (h : c i ≠ c j) : slt n c i j = decide (c i < c j):=by
 rw [Bool.eq_iff_iff,slt_in hi hj]; simp; omega
theorem slt_eq {i j : Nat} (hi : i < n) (hj : j < n) (h : c i = c j) : slt n c i j = slt n c (i + 1) (j + 1):=by
 rw [Bool.eq_iff_iff,slt_in hi hj]
 exact ⟨fun h1=>h1.elim (fun h2=>by omega) (fun h2=>h2.2),fun h1=>.inr ⟨h,h1⟩⟩
theorem slt_endb {i j : Nat} (hi : n≤i) : slt n c i j = decide (j < n):=by
 rw [Bool.eq_iff_iff,slt_end hi]; simp

theorem lt2_own' (ho : Own n c r) (d : Nat) : ∀ i j,n - i = d→InA n c i→InA n c j→lt2 n c r i j = slt n c i j:=by
 induction d with
 | zero =>
  intro i j h hi _
  have:=hi.1
  rw [lt2_end (by omega),slt_endb (by omega)]
 | succ d ih =>
  intro i j h hi hj
  have hi' : i < n:=by omega
  rcases Nat.lt_or_ge j n with hj' | hj'
  ·by_cases e : c i = c j
   ·cases hs : sm n c i <;> cases ht : sm n c j
    ·rw [lt2_bb hi' hj' e hs ht,slt_eq hi' hj' e]
     exact ih _ _ (by omega) (InA.next hi' hs) (InA.next hj' ht)
    ·rw [lt2_bs hi' hj' e hs ht,big_lt_small hi' hj' e hs ht]
    ·rw [lt2_sb hi' hj' e hs ht,slt_asymm (big_lt_small hj' hi' e.symm ht hs)]
    ·rw [lt2_ss hi' hj' e hs ht,Bool.eq_iff_iff,decide_eq_true_eq]
     exact ho i j (hi.2 hi' hs) (hj.2 hj' ht)
   ·rw [lt2_ne hi' hj' e,slt_ne hi' hj' e]
  ·rw [lt2_to_end hj',slt_to_end hj']
theorem lt2_own (ho : Own n c r) {i j : Nat} (hi : InA n c i) (hj : InA n c j) : lt2 n c r i j = slt n c i j:=lt2_own' ho _ i j rfl hi hj
theorem lt3_own' (ho : Own n c r) (d : Nat) : ∀ i j,n - i = d→lt3 n c r i j = slt n c i j:=by
 induction d with
 | zero=>intro i j h; rw [lt3_end (by omega),slt_endb (by omega)]
 | succ d ih =>
  intro i j h
  have hi' : i < n:=by omega
  rcases Nat.lt_or_ge j n with hj' | hj'
  ·by_cases e : c i = c j
   ·cases hs : sm n c i <;> cases ht : sm n c j
    ·rw [lt3_bb hi' hj' e hs ht,slt_eq hi' hj' e]
     exact lt2_own ho (InA.next hi' hs) (InA.next hj' ht)
    ·rw [lt3_bs hi' hj' e hs ht,big_lt_small hi' hj' e hs ht]
    ·rw [lt3_sb hi' hj' e hs ht,slt_asymm (big_lt_small hj' hi' e.symm ht hs)]
    ·rw [lt3_ss hi' hj' e hs ht,slt_eq hi' hj' e]; exact ih _ _ (by omega)
   ·rw [lt3_ne hi' hj' e,slt_ne hi' hj' e]
  ·rw [lt3_to_end hj',slt_to_end hj']
theorem lt3_own (ho : Own n c r) (i j : Nat) : lt3 n c r i j = slt n c i j:=lt3_own' ho _ i j rfl
def rank (n : Nat) (c : Nat→Int) (i : Nat) : Nat:=cn n (fun j=>slt n c j i)
theorem rk3_own (ho : Own n c r) (i : Nat) : rk3 n c r i = rank n c i:=cn_congr fun j _=>lt3_own ho j i
theorem Own.inj (ho : Own n c r) : Inj n c r:=by
 intro t u ht hu h
 by_cases e : t = u
 ·exact e
 ·have h1:=sm_lt (trn_iff.1 ht).2.1
  have h2:=sm_lt (trn_iff.1 hu).2.1
  rcases slt_total (n:=n) (c:=c) (i:=t) (j:=u) (by omega) (by omega) e with a | a
  ·have:=(ho t u ht hu).2 a; omega
  ·have:=(ho u t hu ht).2 a; omega
theorem rank_lt {i : Nat} (hi : i < n) : rank n c i < n:=by
 have h:=cn_lt (n:=n) (P:=fun j=>slt n c j i) (Q:=fun _=>true) (fun _ _ _=>rfl) hi rfl (slt_irr i)
 rw [cn_true (fun _ _=>rfl)] at h; exact h
theorem rank_mono {i j : Nat} (hi : i < n) (h : slt n c i j = true) : rank n c i < rank n c j:=cn_lt (fun _ _ hk=>slt_trans hk h) hi h (slt_irr i)
theorem rank_iff {i j : Nat} (hi : i < n) (hj : j < n) : rank n c i < rank n c j↔slt n c i j = true:=by
 refine ⟨fun h=>?_,fun h=>rank_mono hi h⟩
 by_cases e : i = j
 ·subst e; omega
 ·rcases slt_total (n:=n) (c:=c) (Nat.le_of_lt hi) (Nat.le_of_lt hj) e with a | a
  ·exact a
  ·have:=rank_mono hj a; omega
theorem rank_inj {i j : Nat} (hi : i < n) (hj : j < n) (h : rank n c i = rank n c j) : i = j:=by
 by_cases e : i = j
 ·exact e
 ·rcases slt_total (n:=n) (c:=c) (Nat.le_of_lt hi) (Nat.le_of_lt hj) e with a | a
  ·have:=rank_mono hi a; omega
  ·have:=rank_mono hj a; omega
theorem rank_onto {q : Nat} (hq : q < n) : ∃ i,i < n∧rank n c i = q:=pigeon n (rank n c) (fun _ h=>rank_lt h) (fun _ _ h h' e=>rank_inj h h' e) q hq

/-! ### pieces -/
theorem eq2_in {i j : Nat} (hi : i < n) : eq2 n c i j = true↔j < n∧c i = c j∧sm n c i = sm n c j∧(sm n c i = false→eq2 n c (i + 1) (j + 1) = true):=by
 rw [eq2,dif_pos hi]
 by_cases h : j < n∧c i = c j
 ·rw [if_pos h]; cases sm n c i <;> cases sm n c j <;> simp [h.1,h.2]
 ·rw [if_neg h]; simp; intro h1 h2; exact absurd ⟨h1,h2⟩ h
theorem eq2_out {i j : Nat} (hi : n≤i) : eq2 n c i j = false:=by rw [eq2,dif_neg (by omega)]
theorem eq3_in {i j : Nat} (hi : i < n) : eq3 n c i j = true↔j < n∧c i = c j∧sm n c i = sm n c j∧(sm n c i = true→eq3 n c (i + 1) (j + 1) = true)∧(sm n c i = false→eq2 n c (i + 1) (j + 1) = true):=by
 rw [eq3,dif_pos hi]
 by_cases h : j < n∧c i = c j
 ·rw [if_pos h]; cases sm n c i <;> cases sm n c j <;> simp [h.1,h.2]
 ·rw [if_neg h]; simp; intro h1 h2; exact absurd ⟨h1,h2⟩ h
theorem eq3_out {i j : Nat} (hi : n≤i) : eq3 n c i j = false:=by rw [eq3,dif_neg (by omega)]

theorem eq2_symm' (d : Nat) : ∀ i j,n - i = d→eq2 n c i j = true→eq2 n c j i = true:=by
 induction d with
 | zero=>intro i j h h1; rw [eq2_out (by omega)] at h1; cases h1
 | succ d ih =>
  intro i j h h1
  obtain ⟨a,b,e,f⟩:=(eq2_in (by omega)).1 h1
  exact (eq2_in a).2 ⟨by omega,b.symm,e.symm,fun g=>ih _ _ (by omega) (f (by rw [e]; exact g))⟩
theorem eq2_symm (i j : Nat) : eq2 n c i j = eq2 n c j i:=by
 rw [Bool.eq_iff_iff]; exact ⟨eq2_symm' _ i j rfl,eq2_symm' _ j i rfl⟩
theorem eq3_symm' (d : Nat) : ∀ i j,n - i = d→eq3 n c i j = true→eq3 n c j i = true:=by
 induction d with
 | zero=>intro i j h h1; rw [eq3_out (by omega)] at h1; cases h1
 | succ d ih =>
  intro i j h h1
  obtain ⟨a,b,e,f,g⟩:=(eq3_in (by omega)).1 h1
  exact (eq3_in a).2 ⟨by omega,b.symm,e.symm,fun z=>ih _ _ (by omega) (f (by rw [e]; exact z)),fun z=>by rw [eq2_symm]; exact g (by rw [e]; exact z)⟩
theorem eq3_symm (i j : Nat) : eq3 n c i j = eq3 n c j i:=by
 rw [Bool.eq_iff_iff]; exact ⟨eq3_symm' _ i j rfl,eq3_symm' _ j i rfl⟩
theorem eq2_unlike' (d : Nat) : ∀ i j,n - i = d→eq2 n c i j = false→lt2 n c r i j = slt n c i j:=by
 induction d with
 | zero=>intro i j h _; rw [lt2_end (by omega),slt_endb (by omega)]
 | succ d ih =>
  intro i j h he
  have hi' : i < n:=by omega
  rcases Nat.lt_or_ge j n with hj' | hj'
  ·by_cases e : c i = c j
   ·cases hs : sm n c i <;> cases ht : sm n c j
    ·rw [lt2_bb hi' hj' e hs ht,slt_eq hi' hj' e]
     refine ih _ _ (by omega) ?_
     cases h2 : eq2 n c (i + 1) (j + 1) with
     | false=>rfl
     | true=>rw [(eq2_in hi').2 ⟨hj',e,by rw [hs,ht],fun _=>h2⟩] at he; cases he
    ·rw [lt2_bs hi' hj' e hs ht,big_lt_small hi' hj' e hs ht]
    ·rw [lt2_sb hi' hj' e hs ht,slt_asymm (big_lt_small hj' hi' e.symm ht hs)]
    ·rw [(eq2_in hi').2 ⟨hj',e,by rw [hs,ht],(fun h2=>by rw [hs] at h2; cases h2)⟩] at he; cases he
   ·rw [lt2_ne hi' hj' e,slt_ne hi' hj' e]
  ·rw [lt2_to_end hj',slt_to_end hj']
theorem eq3_unlike' (d : Nat) : ∀ i j,n - i = d→eq3 n c i j = false→lt3 n c r i j = slt n c i j:=by
 induction d with
 | zero=>intro i j h _; rw [lt3_end (by omega),slt_endb (by omega)]
 | succ d ih =>
  intro i j h he
  have hi' : i < n:=by omega
  rcases Nat.lt_or_ge j n with hj' | hj'
  ·by_cases e : c i = c j
   ·cases hs : sm n c i <;> cases ht : sm n c j
    ·rw [lt3_bb hi' hj' e hs ht,slt_eq hi' hj' e]
     refine eq2_unlike' _ _ _ rfl ?_
     cases h2 : eq2 n c (i + 1) (j + 1) with
     | false=>rfl
     | true=>rw [(eq3_in hi').2 ⟨hj',e,by rw [hs,ht],(fun h3=>by rw [hs] at h3; cases h3),fun _=>h2⟩] at he; cases he
    ·rw [lt3_bs hi' hj' e hs ht,big_lt_small hi' hj' e hs ht]
    ·rw [lt3_sb hi' hj' e hs ht,slt_asymm (big_lt_small hj' hi' e.symm ht hs)]
    ·rw [lt3_ss hi' hj' e hs ht,slt_eq hi' hj' e]
     refine ih _ _ (by omega) ?_
     cases h2 : eq3 n c (i + 1) (j + 1) with
     | false=>rfl
     | true=>rw [(eq3_in hi').2 ⟨hj',e,by rw [hs,ht],fun _=>h2,(fun h3=>by rw [hs] at h3; cases h3)⟩] at he; cases he
   ·rw [lt3_ne hi' hj' e,slt_ne hi' hj' e]
  ·rw [lt3_to_end hj',slt_to_end hj']
theorem eq3_unlike {i j : Nat} (h : eq3 n c i j = false) : lt3 n c r i j = slt n c i j:=eq3_unlike' _ i j rfl h
theorem eq2_trade' (d : Nat) : ∀ i k j,n - i = d→eq2 n c i k = true→eq2 n c i j = eq2 n c k j∧(eq2 n c i j = false→slt n c i j = slt n c k j):=by
 induction d with
 | zero=>intro i k j h h1; rw [eq2_out (by omega)] at h1; cases h1
 | succ d ih =>
  intro i k j h h1
  have hi : i < n:=by omega
  obtain ⟨hk,e,s,f⟩:=(eq2_in hi).1 h1
  rcases Nat.lt_or_ge j n with hj | hj
  ·by_cases a : c i = c j
   ·cases hs : sm n c i with
    | false =>
     have hk' : sm n c k = false:=by rw [← s]; exact hs
     have h2:=ih _ _ (j + 1) (by omega) (f hs)
     constructor
     ·rw [Bool.eq_iff_iff,eq2_in hi,eq2_in hk,hs,hk',h2.1,e]
     ·intro h3
      rw [slt_eq hi hj a,slt_eq hk hj (by omega)]
      cases ht : sm n c j with
      | false =>
       refine h2.2 ?_
       cases h4 : eq2 n c (i + 1) (j + 1) with
       | false=>rfl
       | true=>rw [(eq2_in hi).2 ⟨hj,a,by rw [hs,ht],fun _=>h4⟩] at h3; cases h3
      | true =>
       have h5:=big_lt_small hi hj a hs ht
       have h6:=big_lt_small hk hj (by omega) hk' ht
       rw [slt_eq hi hj a] at h5; rw [slt_eq hk hj (by omega)] at h6
       rw [h5,h6]
    | true =>
     have hk' : sm n c k = true:=by rw [← s]; exact hs
     constructor
     ·rw [Bool.eq_iff_iff,eq2_in hi,eq2_in hk,hs,hk',e]; simp
     ·intro h3
      cases ht : sm n c j with
      | false =>
       rw [slt_asymm (big_lt_small hj hi a.symm ht hs),slt_asymm (big_lt_small hj hk (by omega) ht hk')]
      | true=>rw [(eq2_in hi).2 ⟨hj,a,by rw [hs,ht],(fun h4=>by rw [hs] at h4; cases h4)⟩] at h3; cases h3
   ·constructor
    ·rw [Bool.eq_iff_iff,eq2_in hi,eq2_in hk]
     exact ⟨fun h2=>absurd h2.2.1 a,fun h2=>absurd (e.trans h2.2.1) a⟩
    ·intro _; rw [slt_ne hi hj a,slt_ne hk hj (by omega),e]
  ·constructor
   ·rw [Bool.eq_iff_iff,eq2_in hi,eq2_in hk]; omega
   ·intro _; rw [slt_to_end hj,slt_to_end hj]
theorem eq3_trade' (d : Nat) : ∀ i k j,n - i = d→eq3 n c i k = true→eq3 n c i j = eq3 n c k j∧(eq3 n c i j = false→slt n c i j = slt n c k j):=by
 induction d with
 | zero=>intro i k j h h1; rw [eq3_out (by omega)] at h1; cases h1
 | succ d ih =>
  intro i k j h h1
  have hi : i < n:=by omega
  obtain ⟨hk,e,s,f,g⟩:=(eq3_in hi).1 h1
  rcases Nat.lt_or_ge j n with hj | hj
  ·by_cases a : c i = c j
   ·cases hs : sm n c i with
    | false =>
     have hk' : sm n c k = false:=by rw [← s]; exact hs
     have h2:=eq2_trade' _ _ _ (j + 1) rfl (g hs)
     constructor
     ·rw [Bool.eq_iff_iff,eq3_in hi,eq3_in hk,hs,hk',h2.1,e]; simp
     ·intro h3
      rw [slt_eq hi hj a,slt_eq hk hj (by omega)]
      cases ht : sm n c j with
      | false =>
       refine h2.2 ?_
       cases h4 : eq2 n c (i + 1) (j + 1) with
       | false=>rfl
       | true=>rw [(eq3_in hi).2 ⟨hj,a,by rw [hs,ht],(fun h5=>by rw [hs] at h5; cases h5),fun _=>h4⟩] at h3; cases h3
      | true =>
       have h5:=big_lt_small hi hj a hs ht
       have h6:=big_lt_small hk hj (by omega) hk' ht
       rw [slt_eq hi hj a] at h5; rw [slt_eq hk hj (by omega)] at h6
       rw [h5,h6]
    | true =>
     have hk' : sm n c k = true:=by rw [← s]; exact hs
     have h2:=ih _ _ (j + 1) (by omega) (f hs)
     constructor
     ·rw [Bool.eq_iff_iff,eq3_in hi,eq3_in hk,hs,hk',h2.1,e]; simp
     ·intro h3
      cases ht : sm n c j with
      | false =>
       rw [slt_asymm (big_lt_small hj hi a.symm ht hs),slt_asymm (big_lt_small hj hk (by omega) ht hk')]
      | true =>
       rw [slt_eq hi hj a,slt_eq hk hj (by omega)]
       refine h2.2 ?_
       cases h4 : eq3 n c (i + 1) (j + 1) with
       | false=>rfl
       | true=>rw [(eq3_in hi).2 ⟨hj,a,by rw [hs,ht],fun _=>h4,(fun h5=>by rw [hs] at h5; cases h5)⟩] at h3; cases h3
   ·constructor
    ·rw [Bool.eq_iff_iff,eq3_in hi,eq3_in hk]
     exact ⟨fun h2=>absurd h2.2.1 a,fun h2=>absurd (e.trans h2.2.1) a⟩
    ·intro _; rw [slt_ne hi hj a,slt_ne hk hj (by omega),e]
  ·constructor
   ·rw [Bool.eq_iff_iff,eq3_in hi,eq3_in hk]; omega
   ·intro _; rw [slt_to_end hj,slt_to_end hj]
theorem eq3_trade {i k : Nat} (j : Nat) (h : eq3 n c i k = true) : eq3 n c i j = eq3 n c k j∧(eq3 n c i j = false→slt n c i j = slt n c k j):=eq3_trade' _ i k j rfl h
theorem eq2_next' (d : Nat) : ∀ i j,n - i = d→InA n c i→InA n c j→eq2 n c i j = true →
  ∃ e,trn n c (i + e) = true∧trn n c (j + e) = true∧(∀ q,q < e→trn n c (i + q) = false)∧(∀ q,q < e→trn n c (j + q) = false)∧slt n c i j = slt n c (i + e) (j + e):=by
 induction d with
 | zero=>intro i j h _ _ h1; rw [eq2_out (by omega)] at h1; cases h1
 | succ d ih =>
  intro i j h hA hB h1
  have hi : i < n:=by omega
  obtain ⟨hj,a,s,f⟩:=(eq2_in hi).1 h1
  cases hs : sm n c i with
  | true =>
   have ht : sm n c j = true:=by rw [← s]; exact hs
   exact ⟨0,hA.2 hi hs,hB.2 hj ht,fun q hq=>by omega,fun q hq=>by omega,rfl⟩
  | false =>
   have ht : sm n c j = false:=by rw [← s]; exact hs
   obtain ⟨e,h2,h3,h4,h5,h6⟩:=ih _ _ (by omega) (InA.next hi hs) (InA.next hj ht) (f hs)
   refine ⟨e + 1,by rw [show i + (e + 1) = i + 1 + e by omega]; exact h2,by rw [show j + (e + 1) = j + 1 + e by omega]; exact h3,?_,?_,?_⟩
   ·intro q hq
    cases q with
    | zero=>unfold trn; rw [Nat.add_zero,hs]; simp
    | succ q=>rw [show i + (q + 1) = i + 1 + q by omega]; exact h4 q (by omega)
   ·intro q hq
    cases q with
    | zero=>unfold trn; rw [Nat.add_zero,ht]; simp
    | succ q=>rw [show j + (q + 1) = j + 1 + q by omega]; exact h5 q (by omega)
   ·rw [slt_eq hi hj a,h6,show i + (e + 1) = i + 1 + e by omega,show j + (e + 1) = j + 1 + e by omega]
theorem eq3_next' (d : Nat) : ∀ i j,n - i = d→eq3 n c i j = true →
  ∃ e,0 < e∧trn n c (i + e) = true∧trn n c (j + e) = true∧(∀ q,0 < q→q < e→trn n c (i + q) = false)∧(∀ q,0 < q→q < e→trn n c (j + q) = false)∧slt n c i j = slt n c (i + e) (j + e):=by
 induction d with
 | zero=>intro i j h h1; rw [eq3_out (by omega)] at h1; cases h1
 | succ d ih =>
  intro i j h h1
  have hi : i < n:=by omega
  obtain ⟨hj,a,s,f,g⟩:=(eq3_in hi).1 h1
  cases hs : sm n c i with
  | true =>
   have ht : sm n c j = true:=by rw [← s]; exact hs
   obtain ⟨e,h0,h2,h3,h4,h5,h6⟩:=ih _ _ (by omega) (f hs)
   refine ⟨e + 1,by omega,by rw [show i + (e + 1) = i + 1 + e by omega]; exact h2,by rw [show j + (e + 1) = j + 1 + e by omega]; exact h3,?_,?_,?_⟩
   ·intro q h0 hq
    rcases Nat.lt_or_ge q 2 with h7 | h7
    ·obtain rfl : q = 1:=by omega
     unfold trn; rw [show i + 1 - 1 = i by omega,hs]; simp
    ·rw [show i + q = i + 1 + (q - 1) by omega]; exact h4 _ (by omega) (by omega)
   ·intro q h0 hq
    rcases Nat.lt_or_ge q 2 with h7 | h7
    ·obtain rfl : q = 1:=by omega
     unfold trn; rw [show j + 1 - 1 = j by omega,ht]; simp
    ·rw [show j + q = j + 1 + (q - 1) by omega]; exact h5 _ (by omega) (by omega)
   ·rw [slt_eq hi hj a,h6,show i + (e + 1) = i + 1 + e by omega,show j + (e + 1) = j + 1 + e by omega]
  | false =>
   have ht : sm n c j = false:=by rw [← s]; exact hs
   obtain ⟨e,h2,h3,h4,h5,h6⟩:=eq2_next' _ _ _ rfl (InA.next hi hs) (InA.next hj ht) (g hs)
   refine ⟨e + 1,by omega,by rw [show i + (e + 1) = i + 1 + e by omega]; exact h2,by rw [show j + (e + 1) = j + 1 + e by omega]; exact h3,?_,?_,?_⟩
   ·intro q h0 hq
    rw [show i + q = i + 1 + (q - 1) by omega]; exact h4 _ (by omega)
   ·intro q h0 hq
    rw [show j + q = j + 1 + (q - 1) by omega]; exact h5 _ (by omega)
   ·rw [slt_eq hi hj a,h6,show i + (e + 1) = i + 1 + e by omega,show j + (e + 1) = j + 1 + e by omega]

/-! ### names -/
structure Named (n : Nat) (c : Nat→Int) (r : Nat→Nat) (m : Nat) (o : Nat→Nat) (nm : Nat→Int) : Prop where
 turn : ∀ a,a < m→trn n c (o a) = true
 sorted : ∀ a,a + 1 < m→lt3 n c r (o a) (o (a + 1)) = true
 step : ∀ a,a + 1 < m→nm (o (a + 1)) = nm (o a) + (if eq3 n c (o a) (o (a + 1)) then 0 else 1)

theorem Named.lt {m : Nat} {o : Nat→Nat} {nm : Nat→Int} (h : Named n c r m o nm) (d : Nat) : ∀ a,a + d + 1 < m→lt3 n c r (o a) (o (a + d + 1)) = true:=by
 induction d with
 | zero=>intro a ha; exact h.sorted a ha
 | succ d ih=>intro a ha; exact lt3_trans (ih a (by omega)) (h.sorted (a + d + 1) (by omega))
theorem Named.lt' {m : Nat} {o : Nat→Nat} {nm : Nat→Int} (h : Named n c r m o nm) {a b : Nat} (hab : a < b) (hb : b < m) : lt3 n c r (o a) (o b) = true:=by
 have:=h.lt (b - a - 1) a (by omega)
 rw [show a + (b - a - 1) + 1 = b by omega] at this; exact this
theorem Named.pair {m : Nat} {o : Nat→Nat} {nm : Nat→Int} (h : Named n c r m o nm) (d : Nat) : ∀ a,a + d + 1 < m →
  (eq3 n c (o a) (o (a + d + 1)) = true→nm (o a) = nm (o (a + d + 1)))∧(eq3 n c (o a) (o (a + d + 1)) = false→nm (o a) < nm (o (a + d + 1))∧slt n c (o a) (o (a + d + 1)) = true):=by
 induction d with
 | zero =>
  intro a ha
  have h1:=h.step a (by omega)
  have h2:=h.sorted a (by omega)
  constructor
  ·intro he; rw [if_pos he] at h1; rw [Nat.add_zero]; omega
  ·intro he; rw [Nat.add_zero] at *; rw [if_neg (by rw [he]; simp)] at h1
   exact ⟨by omega,by rw [← eq3_unlike (r:=r) he]; exact h2⟩
 | succ d ih =>
  intro a ha
  obtain ⟨g1,g2⟩:=ih a (by omega)
  have h1:=h.step (a + d + 1) (by omega)
  have h2:=h.sorted (a + d + 1) (by omega)
  have h3:=h.lt (d + 1) a (by omega)
  have h4:=h.lt d a (by omega)
  rw [show a + (d + 1) + 1 = a + d + 1 + 1 by omega] at *
  constructor
  ·intro he
   cases hb : eq3 n c (o (a + d + 1)) (o (a + d + 1 + 1)) with
   | true =>
    rw [if_pos hb] at h1
    have t:=(eq3_trade (o a) hb).1
    rw [eq3_symm (o (a + d + 1 + 1)),he,eq3_symm] at t
    have:=g1 t; omega
   | false =>
    exfalso
    have s1 : slt n c (o (a + d + 1)) (o (a + d + 1 + 1)) = true:=by rw [← eq3_unlike (r:=r) hb]; exact h2
    have t:=eq3_trade (o (a + d + 1)) he
    have t1 : eq3 n c (o a) (o (a + d + 1)) = false:=by rw [t.1,eq3_symm]; exact hb
    have t2:=t.2 t1
    rw [slt_asymm s1,← eq3_unlike (r:=r) t1,h4] at t2
    cases t2
  ·intro he
   have hs : slt n c (o a) (o (a + d + 1 + 1)) = true:=by rw [← eq3_unlike (r:=r) he]; exact h3
   refine ⟨?_,hs⟩
   cases hb : eq3 n c (o (a + d + 1)) (o (a + d + 1 + 1)) with
   | true =>
    rw [if_pos hb] at h1
    have t:=(eq3_trade (o a) hb).1
    rw [eq3_symm (o (a + d + 1 + 1)),he,eq3_symm] at t
    have:=(g2 t).1; omega
   | false =>
    rw [if_neg (by rw [hb]; simp)] at h1
    cases ha2 : eq3 n c (o a) (o (a + d + 1)) with
    | true=>have:=g1 ha2; omega
    | false=>have:=(g2 ha2).1; omega
def Names (n : Nat) (c : Nat→Int) (nm : Nat→Int) : Prop:=∀ t u,trn n c t = true→trn n c u = true→t ≠ u →
 (nm t < nm u→slt n c t u = true)∧(nm t = nm u→eq3 n c t u = true)
theorem Named.names {m : Nat} {o : Nat→Nat} {nm : Nat→Int} (h : Named n c r m o nm) (hall : ∀ t,trn n c t = true→∃ a,a < m∧o a = t) : Names n c nm:=by
 intro t u ht hu hne
 obtain ⟨a,ha,rfl⟩:=hall t ht
 obtain ⟨b,hb,rfl⟩:=hall u hu
 rcases Nat.lt_trichotomy a b with hab | hab | hab
 ·obtain ⟨g1,g2⟩:=h.pair (b - a - 1) a (by omega)
  rw [show a + (b - a - 1) + 1 = b by omega] at g1 g2
  cases he : eq3 n c (o a) (o b) with
  | true=>exact ⟨fun h1=>by have:=g1 he; omega,fun _=>rfl⟩
  | false=>exact ⟨fun _=>(g2 he).2,fun h1=>by have:=(g2 he).1; omega⟩
 ·subst hab; exact absurd rfl hne
 ·obtain ⟨g1,g2⟩:=h.pair (a - b - 1) b (by omega)
  rw [show b + (a - b - 1) + 1 = a by omega] at g1 g2
  cases he : eq3 n c (o b) (o a) with
  | true=>exact ⟨fun h1=>by have:=g1 he; omega,fun _=>by rw [eq3_symm]; exact he⟩
  | false=>exact ⟨fun h1=>by have:=(g2 he).1; omega,fun h1=>by have:=(g2 he).1; omega⟩
structure Turns (n : Nat) (c : Nat→Int) (m : Nat) (T : Nat→Nat) : Prop where
 turn : ∀ a,a < m→trn n c (T a) = true
 rise : ∀ a b,a < b→b < m→T a < T b
 all : ∀ t,trn n c t = true→∃ a,a < m∧T a = t

theorem Turns.next {m : Nat} {T : Nat→Nat} (h : Turns n c m T) {a e : Nat} (ha : a < m) (he : 0 < e) (ht : trn n c (T a + e) = true) (hno : ∀ q,0 < q→q < e→trn n c (T a + q) = false) : a + 1 < m∧T (a + 1) = T a + e:=by
 obtain ⟨b,hb,hbe⟩:=h.all _ ht
 have hab : a < b:=by
  rcases Nat.lt_or_ge a b with h1 | h1
  ·exact h1
  ·rcases Nat.lt_or_eq_of_le h1 with h2 | h2
   ·have:=h.rise b a h2 ha; omega
   ·subst h2; omega
 refine ⟨by omega,?_⟩
 have h1:=h.rise a (a + 1) (by omega) (by omega)
 have h2 : T (a + 1)≤T b:=by
  rcases Nat.lt_or_eq_of_le (show a + 1≤b by omega) with h3 | h3
  ·exact Nat.le_of_lt (h.rise _ _ h3 hb)
  ·rw [h3]; exact Nat.le_refl _
 rcases Nat.lt_or_ge (T (a + 1)) (T a + e) with h3 | h3
 ·have h4:=hno (T (a + 1) - T a) (by omega) (by omega)
  rw [show T a + (T (a + 1) - T a) = T (a + 1) by omega,h.turn (a + 1) (by omega)] at h4
  cases h4
 ·omega
theorem reduced' {m : Nat} {T : Nat→Nat} {nm : Nat→Int} (h : Turns n c m T) (hn : Names n c nm) (d : Nat) : ∀ a b,m - a = d→a < m→b < m→slt m (fun a=>nm (T a)) a b = slt n c (T a) (T b):=by
 induction d with
 | zero=>intro a b hd ha; omega
 | succ d ih =>
  intro a b hd ha hb
  by_cases hab : a = b
  ·subst hab; rw [slt_irr,slt_irr]
  ·have hne : T a ≠ T b:=by
    rcases Nat.lt_or_gt_of_ne hab with h1 | h1
    ·have:=h.rise a b h1 hb; omega
    ·have:=h.rise b a h1 ha; omega
   have g:=hn _ _ (h.turn a ha) (h.turn b hb) hne
   have g':=hn _ _ (h.turn b hb) (h.turn a ha) (Ne.symm hne)
   rcases Int.lt_trichotomy (nm (T a)) (nm (T b)) with x | x | x
   ·rw [slt_ne (c:=fun a=>nm (T a)) ha hb (show nm (T a) ≠ nm (T b) by omega),g.1 x]; exact decide_eq_true x
   ·obtain ⟨e,he,h2,h3,h4,h5,h6⟩:=eq3_next' _ _ _ rfl (g.2 x)
    obtain ⟨n1,n2⟩:=h.next ha he h2 h4
    obtain ⟨n3,n4⟩:=h.next hb he h3 h5
    rw [slt_eq (c:=fun a=>nm (T a)) ha hb x,ih (a + 1) (b + 1) (by omega) n1 n3,n2,n4,h6]
   ·rw [slt_ne (c:=fun a=>nm (T a)) ha hb (show nm (T a) ≠ nm (T b) by omega),slt_asymm (g'.1 x)]; simp; omega
theorem reduced {m : Nat} {T : Nat→Nat} {nm : Nat→Int} (h : Turns n c m T) (hn : Names n c nm) {a b : Nat} (ha : a < m) (hb : b < m) : slt m (fun a=>nm (T a)) a b = slt n c (T a) (T b):=reduced' h hn _ a b rfl ha hb
end
end Go.Proofs.Ythcnnfahlhklgaa.SM
end

section
/- The printed functions of package sais against the plain mathematics: types, turns, check, buckets. -/
namespace Go.Proofs.Ythcnnfahlhklgaa.SD
open Go.RowKit Go.Proofs.Ythcnnfahlhklgaa.X Go.Proofs.Ythcnnfahlhklgaa.SM Go.Proofs.YthcnnfahlhklgaaW.PrintWords Go.Proofs.YthcnnfahlhklgaaW.PrintLast
def ch (s : List Int) (q : Nat) : Int:=s.getD q 0
def tyl (s : List Int) : List Bool:=(List.range s.length).map (sm s.length (ch s))
def tul (s : List Int) : List Int:=((List.range s.length).filter (trn s.length (ch s))).map (fun i : Nat=>(i : Int))

theorem rd_nat (s : List Int) (q : Nat) : rd s (q : Int) = ch s q:=by unfold rd ch; rw [Int.toNat_natCast]
theorem rdB_nat (t : List Bool) (q : Nat) : rdOf false t (q : Int) = t.getD q false:=by unfold rdOf; rw [Int.toNat_natCast]
theorem getD_set {α : Type} (t : List α) (q j : Nat) (v d : α) (h : q < t.length) : (t.set q v).getD j d = if q = j then v else t.getD j d:=by
 rw [List.getD_eq_getElem?_getD,List.getD_eq_getElem?_getD,List.getElem?_set]
 by_cases e : q = j
 ·rw [if_pos e,if_pos e,if_pos h]; rfl
 ·rw [if_neg e,if_neg e]
theorem tyl_length (s : List Int) : (tyl s).length = s.length:=by unfold tyl; simp
theorem tyl_get {s : List Int} {q : Nat} (h : q < s.length) : (tyl s).getD q false = sm s.length (ch s) q:=by
 unfold tyl
 rw [List.getD_eq_getElem?_getD,List.getElem?_map,List.getElem?_range h]; rfl
theorem tyl_ext {s : List Int} {t : List Bool} (hl : t.length = s.length) (h : ∀ q,q < s.length→t.getD q false = sm s.length (ch s) q) : t = tyl s:=by
 apply List.ext_getElem?
 intro q
 rcases Nat.lt_or_ge q s.length with hq | hq
 ·have h1:=h q hq
  have h2:=tyl_get hq
  rw [List.getD_eq_getElem?_getD] at h1 h2
  have e1 : t[q]? = some t[q]:=List.getElem?_eq_getElem (by omega)
  have hq2 : q < (tyl s).length:=by rw [tyl_length]; exact hq
  have e2 : (tyl s)[q]? = some (tyl s)[q]:=List.getElem?_eq_getElem hq2
  rw [e1] at h1 ⊢; rw [e2] at h2 ⊢
  simp only [Option.getD_some] at h1 h2
  rw [h1,h2]
 ·rw [List.getElem?_eq_none (by omega),List.getElem?_eq_none (by rw [tyl_length]; exact hq)]

theorem w64 {x : Int} (h1 : -9223372036854775808≤x) (h2 : x≤9223372036854775807) : wrap64 x = x:=by unfold wrap64; omega

theorem types_neg (k : Nat) (s : List Int) (i : Int) (t : List Bool) (h : i < 0) : sais_Types.l0 (k + 1) s i t = some t:=by
 rw [sais_Types.l0]; rw [if_neg (by omega)]
theorem types_loop (s : List Int) (hs : s.length≤140737488351328) (q : Nat) : ∀ (t : List Bool),q + 1 < s.length→t.length = s.length →
  (∀ j,q < j→j < s.length→t.getD j false = sm s.length (ch s) j)→∀ k,sais_Types.l0 (k + q + 2) s (q : Int) t = some (tyl s):=by
 induction q with
 | zero =>
  intro t hq ht hi k
  have w1 : wrap64 ((0 : Nat) + 1 : Int) = ((1 : Nat) : Int):=by rw [w64 (by omega) (by omega)]; rfl
  have w2 : wrap64 (((0 : Nat) : Int) - 1) = -1:=by rw [w64 (by omega) (by omega)]; rfl
  rw [show k + 0 + 2 = (k + 1) + 1 from rfl,sais_Types.l0]
  rw [w1,w2,if_pos (by omega),if_pos (by omega),if_pos (by omega),if_pos (by omega),if_pos (by omega),rd_nat,rd_nat,rdB_nat]
  have hx : sm s.length (ch s) 0 = true↔ch s 0 < ch s 1∨(ch s 0 = ch s 1∧sm s.length (ch s) 1 = true):=sm_in (n:=s.length) (c:=ch s) (i:=0) hq
  have h1:=hi 1 (by omega) (by omega)
  have fin : ∀ v,v = sm s.length (ch s) 0→(t.set (((0 : Nat) : Int)).toNat v) = tyl s:=by
   intro v hv
   refine tyl_ext (by rw [List.length_set]; exact ht) (fun j hj=>?_)
   rw [Int.toNat_natCast,getD_set _ _ _ _ _ (by omega)]
   by_cases e : 0 = j
   ·rw [if_pos e,← e]; exact hv
   ·rw [if_neg e]; exact hi j (by omega) hj
  by_cases a : ch s 0 < ch s 1
  ·rw [if_pos a,if_pos (by omega),types_neg _ _ _ _ (by omega),fin true (hx.2 (.inl a)).symm]
  ·rw [if_neg a]
   by_cases b : ch s 0 = ch s 1
   ·rw [if_pos b,if_pos (by omega),if_pos (by omega),types_neg _ _ _ _ (by omega),fin _ ?_]
    rw [h1,Bool.eq_iff_iff,hx]
    exact ⟨fun h=>.inr ⟨b,h⟩,fun h=>h.elim (fun h2=>absurd h2 a) (fun h2=>h2.2)⟩
   ·rw [if_neg b,if_pos (by omega),types_neg _ _ _ _ (by omega),fin false ?_]
    cases h2 : sm s.length (ch s) 0 with
    | false=>rfl
    | true=>exact absurd (hx.1 h2) (fun h=>h.elim a (fun h3=>b h3.1))
 | succ q ih =>
  intro t hq ht hi k
  have w1 : wrap64 (((q + 1 : Nat) : Int) + 1) = ((q + 2 : Nat) : Int):=by rw [w64 (by omega) (by omega)]; omega
  have w2 : wrap64 (((q + 1 : Nat) : Int) - 1) = (q : Int):=by rw [w64 (by omega) (by omega)]; omega
  rw [show k + (q + 1) + 2 = (k + q + 2) + 1 by omega]
  rw [sais_Types.l0]
  rw [w1,w2,if_pos (by omega),if_pos (by omega),if_pos (by omega),if_pos (by omega),if_pos (by omega),rd_nat,rd_nat,rdB_nat]
  have hx : sm s.length (ch s) (q + 1) = true↔ch s (q + 1) < ch s (q + 2)∨(ch s (q + 1) = ch s (q + 2)∧sm s.length (ch s) (q + 2) = true):=sm_in (n:=s.length) (c:=ch s) (i:=q + 1) hq
  have h1:=hi (q + 2) (by omega) (by omega)
  have fin : ∀ v,v = sm s.length (ch s) (q + 1)→∀ k,sais_Types.l0 (k + q + 2) s (q : Int) (t.set (((q + 1 : Nat) : Int)).toNat v) = some (tyl s):=by
   intro v hv k
   refine ih _ (by omega) (by rw [List.length_set]; exact ht) (fun j hj hj2=>?_) k
   rw [Int.toNat_natCast,getD_set _ _ _ _ _ (by omega)]
   by_cases e : q + 1 = j
   ·rw [if_pos e,← e]; exact hv
   ·rw [if_neg e]; exact hi j (by omega) hj2
  by_cases a : ch s (q + 1) < ch s (q + 2)
  ·rw [if_pos a,if_pos (by omega),fin true (hx.2 (.inl a)).symm]
  ·rw [if_neg a]
   by_cases b : ch s (q + 1) = ch s (q + 2)
   ·rw [if_pos b,if_pos (by omega),if_pos (by omega),fin _ ?_]
    rw [h1,Bool.eq_iff_iff,hx]
    exact ⟨fun h=>.inr ⟨b,h⟩,fun h=>h.elim (fun h2=>absurd h2 a) (fun h2=>h2.2)⟩
   ·rw [if_neg b,if_pos (by omega),fin false ?_]
    cases h2 : sm s.length (ch s) (q + 1) with
    | false=>rfl
    | true=>exact absurd (hx.1 h2) (fun h=>h.elim a (fun h3=>b h3.1))
theorem types_f (s : List Int) (hs : s.length≤140737488351328) (k : Nat) : sais_Types.f (k + s.length + 1) s = some (tyl s):=by
 unfold sais_Types.f
 rw [if_pos (by omega),if_pos (by omega)]
 rw [Int.toNat_natCast]
 have hr : (List.replicate s.length false).length = s.length:=by simp
 have hg : ∀ j,(List.replicate s.length false).getD j false = false:=by
  intro j; rw [List.getD_eq_getElem?_getD,List.getElem?_replicate]; split <;> rfl
 rcases Nat.lt_or_ge 1 s.length with h | h
 ·have w : wrap64 ((s.length : Int) - 2) = ((s.length - 2 : Nat) : Int):=by rw [w64 (by omega) (by omega)]; omega
  rw [w]
  have:=types_loop s hs (s.length - 2) (List.replicate s.length false) (by omega) hr (fun j h1 h2=>by
   rw [hg,sm_out (by omega)]) (k + 1)
  rw [show k + s.length + 1 = k + 1 + (s.length - 2) + 2 by omega]; exact this
 ·have w : wrap64 ((s.length : Int) - 2) = (s.length : Int) - 2:=w64 (by omega) (by omega)
  rw [w,types_neg _ _ _ _ (by omega)]
  rw [tyl_ext hr (fun q hq=>by rw [hg,sm_out (by omega)])]

theorem isTurn_f (s : List Int) (hs : s.length≤140737488351328) (q : Nat) (hq : q < s.length) : sais_isTurn.f (tyl s) (q : Int) = some (trn s.length (ch s) q):=by
 unfold sais_isTurn.f
 by_cases h0 : 0 < q
 ·have w : wrap64 ((q : Int) - 1) = ((q - 1 : Nat) : Int):=by rw [w64 (by omega) (by omega)]; omega
  rw [if_pos (by omega),if_pos (by omega),if_pos (by rw [tyl_length]; omega),w,rdB_nat,rdB_nat,tyl_get hq,tyl_get (q:=q - 1) (by omega)]
  have ht : trn s.length (ch s) q = (sm s.length (ch s) q && !sm s.length (ch s) (q - 1)):=by unfold trn; simp [h0]
  by_cases a : sm s.length (ch s) q = true
  ·rw [if_pos a,if_pos (by omega),if_pos (by rw [tyl_length]; omega),ht,a]; rfl
  ·rw [if_neg a,ht]; simp only [Bool.not_eq_true] at a; rw [a]; rfl
 ·rw [if_neg (by omega)]; unfold trn; simp [h0]

theorem range_succ_filter (P : Nat→Bool) (q : Nat) : (List.range (q + 1)).filter P = (List.range q).filter P ++ (if P q then [q] else []):=by
 rw [List.range_succ,List.filter_append]
 congr 1
 by_cases h : P q = true
 ·simp [h]
 ·simp [h]
theorem lms_loop (s : List Int) (hs : s.length≤17592186044415) (d : Nat) : ∀ q,s.length - q = d→q≤s.length→∀ k,
  sais_Lms.l0 (k + d + 1) (((List.range q).filter (trn s.length (ch s))).map (fun i : Nat=>(i : Int))) (tyl s) (s.length : Int) (q : Int) = some (tul s):=by
 induction d with
 | zero =>
  intro q hd hq k
  rw [sais_Lms.l0]
  rw [if_neg (by omega)]
  obtain rfl : q = s.length:=by omega
  rfl
 | succ d ih =>
  intro q hd hq k
  have w : wrap64 ((q : Int) + 1) = ((q + 1 : Nat) : Int):=by rw [w64 (by omega) (by omega)]; omega
  rw [show k + (d + 1) + 1 = (k + d + 1) + 1 by omega]
  rw [sais_Lms.l0]
  rw [if_pos (by omega),isTurn_f s (by omega) q (by omega),Option.bind_some,w]
  have h:=ih (q + 1) (by omega) (by omega) k
  rw [range_succ_filter] at h
  have hl : (((List.range q).filter (trn s.length (ch s))).map (fun i : Nat=>(i : Int))).length < 17592186044416:=by
   rw [List.length_map]
   have:=List.length_filter_le (trn s.length (ch s)) (List.range q)
   rw [List.length_range] at this
   omega
  by_cases a : trn s.length (ch s) q = true
  ·rw [if_pos a,if_pos hl]
   rw [if_pos a,List.map_append] at h
   exact h
  ·rw [if_neg a]
   rw [if_neg a,List.append_nil] at h
   exact h
theorem lms_f (s : List Int) (hs : s.length≤17592186044415) (k : Nat) : sais_Lms.f (k + s.length + 1) s = some (tul s):=by
 unfold sais_Lms.f
 rw [types_f s (by omega),Option.bind_some,tyl_length]
 have:=lms_loop s hs s.length 0 (by omega) (by omega) k
 simpa using this
def Ok (k0 : Int) (s : List Int) : Prop:=0≤k0∧k0≤33554432∧s.length≤16777216∧∀ q,q < s.length→0≤ch s q∧ch s q < k0

open Classical in
theorem check_loop (k0 : Int) (s : List Int) (hs : s.length≤16777216) (d : Nat) : ∀ q,s.length - q = d→q≤s.length→∀ k,
  sais_check.l0 (k + d + 1) k0 s (s.length : Int) (q : Int) = some (if ∀ j,q≤j→j < s.length→0≤ch s j∧ch s j < k0 then 0 else 121):=by
 induction d with
 | zero =>
  intro q hd hq k
  rw [sais_check.l0]
  rw [if_neg (by omega),if_pos (fun j h1 h2=>by omega)]
 | succ d ih =>
  intro q hd hq k
  have w : wrap64 ((q : Int) + 1) = ((q + 1 : Nat) : Int):=by rw [w64 (by omega) (by omega)]; omega
  rw [show k + (d + 1) + 1 = (k + d + 1) + 1 by omega]
  rw [sais_check.l0]
  rw [if_pos (by omega),if_pos (by omega),if_pos (by omega),rd_nat,w]
  by_cases a : ch s q < 0
  ·rw [if_pos a,if_neg (fun h=>by have:=h q (Nat.le_refl _) (by omega); omega)]
  ·rw [if_neg a]
   by_cases b : ch s q ≥ k0
   ·rw [if_pos b,if_neg (fun h=>by have:=h q (Nat.le_refl _) (by omega); omega)]
   ·rw [if_neg b,ih (q + 1) (by omega) (by omega) k]
    congr 1
    have : (∀ j,q≤j→j < s.length→0≤ch s j∧ch s j < k0)↔(∀ j,q + 1≤j→j < s.length→0≤ch s j∧ch s j < k0):=by
     constructor
     ·intro h j h1 h2; exact h j (by omega) h2
     ·intro h j h1 h2
      rcases Nat.lt_or_ge q j with h3 | h3
      ·exact h j (by omega) h2
      ·obtain rfl : j = q:=by omega
       omega
    simp only [this]
theorem check_ok {k0 : Int} {s : List Int} (h : Ok k0 s) (k : Nat) : sais_check.f (k + s.length + 2) k0 s = some 0:=by
 obtain ⟨h1,h2,h3,h4⟩:=h
 unfold sais_check.f
 rw [if_neg (by omega)]; rw [sais_check.j0]
 rw [if_neg (by simp; omega),if_neg (by omega)]
 rw [show k + s.length + 1 = k + s.length + 1 from rfl]
 rw [show ((0 : Int)) = ((0 : Nat) : Int) from rfl,check_loop k0 s (by omega) s.length 0 (by omega) (by omega) k,if_pos (fun j _ hj=>h4 j hj)]; rfl
end Go.Proofs.Ythcnnfahlhklgaa.SD
end

section
/- The printed functions buckets and induce of package sais against the plain mathematics: what the passes make of any order of the turns. -/
namespace Go.Proofs.Ythcnnfahlhklgaa.SD
open Go.RowKit Go.Proofs.Ythcnnfahlhklgaa Go.Proofs.Ythcnnfahlhklgaa.X Go.Proofs.Ythcnnfahlhklgaa.SM Go.Proofs.YthcnnfahlhklgaaW.PrintWords Go.Proofs.YthcnnfahlhklgaaW.PrintLast

theorem ch_set (l : List Int) (q j : Nat) (v : Int) (h : q < l.length) : ch (l.set q v) j = if q = j then v else ch l j:=getD_set l q j v 0 h
theorem ch_rep (m : Nat) (v : Int) (j : Nat) (h : j < m) : ch (List.replicate m v) j = v:=by
 unfold ch; rw [List.getD_eq_getElem?_getD,List.getElem?_replicate,if_pos h]; rfl
theorem cpy_all {α : Type} (d s : List α) (h : d.length = s.length) : cpy d s = s:=by
 unfold cpy; rw [List.take_of_length_le (by omega),List.drop_eq_nil_of_le (by omega),List.append_nil]
def cv (n : Nat) (c : Nat→Int) (v : Int) : Nat:=cn n (fun j=>decide (c j = v))
theorem cv_succ (q : Nat) (c : Nat→Int) (v : Int) : cv (q + 1) c v = cv q c v + (if decide (c q = v) = true then 1 else 0):=by unfold cv; rw [cn]
theorem to_cv (n : Nat) (c : Nat→Int) (v : Int) : tov n c v = fr n c v + cv n c v:=by
 unfold tov fr cv
 rw [← cn_or (fun j _ h=>by simp only [decide_eq_true_eq] at h; omega)]
 refine cn_congr fun j _=>?_
 rw [Bool.eq_iff_iff]; simp; omega
theorem fr_succ (n : Nat) (c : Nat→Int) (v : Int) : fr n c (v + 1) = tov n c v:=by
 unfold tov fr
 refine cn_congr fun j _=>?_
 rw [Bool.eq_iff_iff]; simp; omega

theorem w64s {z q : Nat} (h : z≤q) (hq : q≤16777216) : wrap64 ((z : Int) + 1) = ((z + 1 : Nat) : Int):=by rw [w64 (by omega) (by omega)]; omega
theorem cv_le (q : Nat) (c : Nat→Int) (v : Int) : cv q c v≤q:=cn_le _
theorem cv_zero (c : Nat→Int) (v : Int) : cv 0 c v = 0:=rfl
theorem fr_zero {n : Nat} {c : Nat→Int} (h : ∀ j,j < n→0≤c j) : fr n c 0 = 0:=by
 unfold fr; exact cn_false fun j hj=>by have:=h j hj; simp; omega

section
variable {k0 : Int} {s : List Int}
attribute [local irreducible] cn cv fr tov rk3 loc2 ch

theorem buckets_l1 (hok : Ok k0 s) (A : Nat) (hA : k0 = A) (d : Nat) : ∀ v (hd en : List Int),A - v = d→v≤A→hd.length = A→en.length = A →
  (∀ u,u < v→ch hd u = (fr s.length (ch s) u : Int))→(∀ u,u < v→ch en u = (tov s.length (ch s) u : Int))→(∀ u,v≤u→u < A→ch en u = (cv s.length (ch s) u : Int)) →
  ∃ hd' en',hd'.length = A∧en'.length = A∧(∀ u,u < A→ch hd' u = (fr s.length (ch s) u : Int))∧(∀ u,u < A→ch en' u = (tov s.length (ch s) u : Int)) ∧
   ∀ k,sais_buckets.l1 (k + d + 1) (fr s.length (ch s) v : Int) hd en (A : Int) (v : Int) = some (hd',en'):=by
 have hn:=hok.2.2.1
 have hA2:=hok.2.1
 induction d with
 | zero =>
  intro v hd en hdv hv h1 h2 h3 h4 h5
  obtain rfl : v = A:=by omega
  refine ⟨hd,en,h1,h2,h3,h4,fun k=>?_⟩
  rw [sais_buckets.l1,if_neg (by omega)]
 | succ d ih =>
  intro v hd en hdv hv h1 h2 h3 h4 h5
  have e1:=h5 v (Nat.le_refl _) (by omega)
  have e2:=to_cv s.length (ch s) v
  have e3:=fr_succ s.length (ch s) v
  have e4:=to_le (n:=s.length) (c:=ch s) v
  have w2 : (-9223372036854775808 : Int)≤(fr s.length (ch s) v : Int) + (cv s.length (ch s) v : Int)∧(fr s.length (ch s) v : Int) + (cv s.length (ch s) v : Int)≤9223372036854775807:=by omega
  have w3 : (fr s.length (ch s) v : Int) + (cv s.length (ch s) v : Int) = (tov s.length (ch s) v : Int):=by omega
  have w4 : (-9223372036854775808 : Int)≤(v : Int) + 1∧(v : Int) + 1≤9223372036854775807:=by omega
  obtain ⟨hd',en',g1,g2,g3,g4,g5⟩:=ih (v + 1) (hd.set v (fr s.length (ch s) v : Int)) (en.set v (tov s.length (ch s) v : Int)) (by omega) (by omega) (by rw [List.length_set]; exact h1) (by rw [List.length_set]; exact h2)
   (fun u hu=>by
    rw [ch_set _ _ _ _ (by omega)]
    by_cases e : v = u
    ·rw [if_pos e,e]
    ·rw [if_neg e]; exact h3 u (by omega))
   (fun u hu=>by
    rw [ch_set _ _ _ _ (by omega)]
    by_cases e : v = u
    ·rw [if_pos e,e]
    ·rw [if_neg e]; exact h4 u (by omega))
   (fun u hu hu2=>by
    rw [ch_set _ _ _ _ (by omega),if_neg (by omega)]; exact h5 u (by omega) hu2)
  refine ⟨hd',en',g1,g2,g3,g4,fun k=>?_⟩
  rw [show k + (d + 1) + 1 = (k + d + 1) + 1 by omega,sais_buckets.l1]
  rw [if_pos (by omega),if_pos (by omega),if_pos (by omega),if_pos (by omega),rd_nat,e1,w64 w2.1 w2.2,w64 w4.1 w4.2,w3,Int.toNat_natCast]
  have:=g5 k
  rw [show ((v + 1 : Nat) : Int) = (v : Int) + 1 by omega,e3] at this
  exact this

theorem buckets_l0 (hok : Ok k0 s) (A : Nat) (hA : k0 = A) (d : Nat) : ∀ q (hd en : List Int),s.length - q = d→q≤s.length→hd.length = A→en.length = A →
  (∀ u : Nat,u < A→ch en u = (cv q (ch s) u : Int)) →
  ∃ hd' en',hd'.length = A∧en'.length = A∧(∀ u,u < A→ch hd' u = (fr s.length (ch s) u : Int))∧(∀ u,u < A→ch en' u = (tov s.length (ch s) u : Int)) ∧
   ∀ k,sais_buckets.l0 (k + d + A + 2) hd en s (s.length : Int) (q : Int) = some (hd',en'):=by
 have hn:=hok.2.2.1
 have hA2:=hok.2.1
 induction d with
 | zero =>
  intro q hd en hdq hq h1 h2 h3
  obtain rfl : q = s.length:=by omega
  have h0 : fr s.length (ch s) 0 = 0:=fr_zero fun j hj=>(hok.2.2.2 j hj).1
  obtain ⟨hd',en',g1,g2,g3,g4,g5⟩:=buckets_l1 hok A hA A 0 hd en (by omega) (by omega) h1 h2 (fun u hu=>by omega) (fun u hu=>by omega) (fun u _ hu=>h3 u hu)
  refine ⟨hd',en',g1,g2,g3,g4,fun k=>?_⟩
  rw [show k + 0 + A + 2 = (k + A + 1) + 1 by omega,sais_buckets.l0,if_neg (by omega),h2]
  have:=g5 k
  rw [show ((0 : Nat) : Int) = (0 : Int) from rfl,h0] at this
  exact this
 | succ d ih =>
  intro q hd en hdq hq h1 h2 h3
  have hc:=hok.2.2.2 q (by omega)
  obtain ⟨v,hv⟩ : ∃ v : Nat,ch s q = v:=⟨(ch s q).toNat,by omega⟩
  obtain ⟨z,hz,hzq⟩ : ∃ z : Nat,cv q (ch s) (v : Int) = z∧z≤q:=⟨_,rfl,cv_le _ _ _⟩
  have hvA : v < A:=by omega
  have e1 : ch en v = (z : Int):=by rw [← hz]; exact h3 v hvA
  have hq2 : q≤16777216:=by omega
  have h4 : ∀ u : Nat,u < A→ch (en.set v ((z + 1 : Nat) : Int)) u = (cv (q + 1) (ch s) u : Int):=by
   intro u hu
   rw [ch_set _ _ _ _ (by rw [h2]; exact hvA)]
   by_cases e : v = u
   ·subst e; rw [if_pos rfl,cv_succ,if_pos (decide_eq_true hv),hz]
   ·rw [if_neg e,cv_succ,if_neg (fun h=>e (by have:=of_decide_eq_true h; omega)),Nat.add_zero]; exact h3 u hu
  obtain ⟨hd',en',g1,g2,g3,g4,g5⟩:=ih (q + 1) hd (en.set v ((z + 1 : Nat) : Int)) (by omega) (by omega) h1 (by rw [List.length_set]; exact h2) h4
  refine ⟨hd',en',g1,g2,g3,g4,fun k=>?_⟩
  clear h4 hz h3
  rw [show k + (d + 1) + A + 2 = (k + d + A + 2) + 1 by omega,sais_buckets.l0]
  rw [if_pos (by omega),if_pos (by omega),if_pos (by omega),rd_nat,hv,if_pos (by omega),if_pos (by omega),rd_nat,e1,w64s hzq hq2,w64s (Nat.le_refl q) hq2,Int.toNat_natCast]
  exact g5 k
theorem buckets_f (hok : Ok k0 s) (A : Nat) (hA : k0 = A) : ∃ hd en,hd.length = A∧en.length = A∧(∀ u,u < A→ch hd u = (fr s.length (ch s) u : Int))∧(∀ u,u < A→ch en u = (tov s.length (ch s) u : Int)) ∧
  ∀ k,sais_buckets.f (k + s.length + A + 2) k0 s = some (hd,en):=by
 have hA2:=hok.2.1
 obtain ⟨hd,en,g1,g2,g3,g4,g5⟩:=buckets_l0 hok A hA s.length 0 (List.replicate A 0) (List.replicate A 0) (by omega) (by omega) (by simp) (by simp) (fun u hu=>by rw [ch_rep _ _ _ hu,cv_zero]; rfl)
 refine ⟨hd,en,g1,g2,g3,g4,fun k=>?_⟩
 unfold sais_buckets.f
 rw [if_pos (by omega),if_pos (by omega),hA,Int.toNat_natCast]
 exact g5 k

/-! ### inducing -/
structure Ord (s : List Int) (o : List Int) (r : Nat→Nat) : Prop where
 turn : ∀ a,a < o.length→∃ t,trn s.length (ch s) t = true∧ch o a = (t : Int)∧r t = a
 all : ∀ t,trn s.length (ch s) t = true→r t < o.length∧ch o (r t) = (t : Int)
theorem Ord.inj {o : List Int} {r : Nat→Nat} (h : Ord s o r) : Inj s.length (ch s) r:=by
 intro t u ht hu e
 have h1:=(h.all t ht).2
 have h2:=(h.all u hu).2
 rw [e] at h1; omega
theorem trn_lt {n : Nat} {c : Nat→Int} {t : Nat} (h : trn n c t = true) : t + 1 < n:=sm_lt (trn_iff.1 h).2.1

variable {o : List Int} {r : Nat→Nat}
structure Row1 (s : List Int) (r : Nat→Nat) (x : Nat) (row : List Int) : Prop where
 len : row.length = s.length
 put : ∀ t,trn s.length (ch s) t = true→x≤r t→ch row (loc2 s.length (ch s) r t) = (t : Int)
 only : ∀ q,q < s.length→ch row q ≠ -1→∃ t,trn s.length (ch s) t = true∧x≤r t∧loc2 s.length (ch s) r t = q∧ch row q = (t : Int)
def At1 (s : List Int) (r : Nat→Nat) (A x : Nat) (at_ : List Int) : Prop:=at_.length = A∧∀ v : Nat,v < A→ch at_ v = ((tov s.length (ch s) v - cn s.length (fun u=>trn s.length (ch s) u && (decide (ch s u = (v : Int)) && decide (x≤r u))) : Nat) : Int)
def pl2 (s : List Int) (r : Nat→Nat) (p i : Nat) : Bool:=decide (i + 1 = s.length) || decide (loc2 s.length (ch s) r (i + 1) < p)
structure Row2 (s : List Int) (r : Nat→Nat) (p : Nat) (row : List Int) : Prop where
 len : row.length = s.length
 put : ∀ i,i < s.length→InA s.length (ch s) i→(sm s.length (ch s) i = false→pl2 s r p i = true)→ch row (loc2 s.length (ch s) r i) = (i : Int)
 only : ∀ q,q < s.length→ch row q ≠ -1→∃ i,i < s.length∧InA s.length (ch s) i∧(sm s.length (ch s) i = false→pl2 s r p i = true)∧loc2 s.length (ch s) r i = q∧ch row q = (i : Int)
def At2 (s : List Int) (r : Nat→Nat) (A p : Nat) (at_ : List Int) : Prop:=at_.length = A∧∀ v : Nat,v < A→ch at_ v = ((fr s.length (ch s) v + cn s.length (fun j=>(decide (ch s j = (v : Int)) && !sm s.length (ch s) j) && pl2 s r p j) : Nat) : Int)
structure Row3 (s : List Int) (r : Nat→Nat) (p : Nat) (row : List Int) : Prop where
 len : row.length = s.length
 put : ∀ i,i < s.length→sm s.length (ch s) i = false→ch row (rk3 s.length (ch s) r i) = (i : Int)
 only : ∀ q,q < s.length→ch row q ≠ -1→∃ i,i < s.length∧InA s.length (ch s) i∧loc2 s.length (ch s) r i = q∧ch row q = (i : Int)∧(q < p→sm s.length (ch s) i = false)
structure Row4 (s : List Int) (r : Nat→Nat) (x : Nat) (row : List Int) : Prop where
 len : row.length = s.length
 put : ∀ i,i < s.length→(sm s.length (ch s) i = true→x≤rk3 s.length (ch s) r (i + 1))→ch row (rk3 s.length (ch s) r i) = (i : Int)
 only : ∀ q,q < s.length→ch row q ≠ -1→∃ i,i < s.length∧(sm s.length (ch s) i = true→x≤rk3 s.length (ch s) r (i + 1))∧rk3 s.length (ch s) r i = q∧ch row q = (i : Int)
def At4 (s : List Int) (r : Nat→Nat) (A x : Nat) (at_ : List Int) : Prop:=at_.length = A∧∀ v : Nat,v < A→ch at_ v = ((tov s.length (ch s) v - cn s.length (fun j=>(decide (ch s j = (v : Int)) && sm s.length (ch s) j) && decide (x≤rk3 s.length (ch s) r (j + 1))) : Nat) : Int)

theorem induce_l4 (hok : Ok k0 s) (A : Nat) (hA : k0 = A) (hr : Inj s.length (ch s) r) (x : Nat) : ∀ (row at_ : List Int),x≤s.length→Row4 s r x row→At4 s r A x at_ →
  ∃ row',Row4 s r 0 row'∧∀ k,sais_induce.l4 (k + x + 1) s (tyl s) ((x : Int) - 1) row at_ = some row':=by
 have hn:=hok.2.2.1
 induction x with
 | zero =>
  intro row at_ hx h1 h2
  refine ⟨row,h1,fun k=>?_⟩
  rw [sais_induce.l4,if_neg (by omega)]
 | succ p ih =>
  intro row at_ hx h1 h2
  have w : wrap64 (((p : Int)) - 1) = ((p : Int) - 1):=w64 (by omega) (by omega)
  -- nothing new is put in where no small one stands behind
  have same : (∀ j,j < s.length→sm s.length (ch s) j = true→rk3 s.length (ch s) r (j + 1) ≠ p)→Row4 s r p row∧At4 s r A p at_:=by
   intro hno
   have hiff : ∀ j,j < s.length→sm s.length (ch s) j = true→(p≤rk3 s.length (ch s) r (j + 1)↔p + 1≤rk3 s.length (ch s) r (j + 1)):=by
    intro j hj hs; have:=hno j hj hs; omega
   refine ⟨⟨h1.len,fun i hi h3=>h1.put i hi (fun hs=>(hiff i hi hs).1 (h3 hs)),fun q hq hne=>?_⟩,h2.1,fun v hv=>?_⟩
   ·obtain ⟨i,hi,h3,h4,h5⟩:=h1.only q hq hne
    exact ⟨i,hi,fun hs=>(hiff i hi hs).2 (h3 hs),h4,h5⟩
   ·rw [h2.2 v hv]
    congr 2
    refine cn_congr fun j hj=>?_
    cases hs : sm s.length (ch s) j with
    | false=>simp
    | true=>rw [Bool.eq_iff_iff]; simp only [Bool.and_eq_true,decide_eq_true_eq]; rw [hiff j hj hs]
  -- what stands at p
  have at_p : ∀ j,j < s.length→sm s.length (ch s) j = true→rk3 s.length (ch s) r (j + 1) = p→ch row p = ((j + 1 : Nat) : Int):=by
   intro j hj hs he
   have hj1:=sm_lt hs
   have:=h1.put (j + 1) hj1 (fun hs2=>by
    have:=rk3_mono (n:=s.length) (c:=ch s) (r:=r) hj1 (lt3_step hj1 hs2)
    omega)
   rw [he] at this; exact this
  have go : ∀ (row' at' : List Int),Row4 s r p row'→At4 s r A p at'→(∀ k,sais_induce.l4 (k + p + 1 + 1) s (tyl s) (p : Int) row at_ = sais_induce.l4 (k + p + 1) s (tyl s) ((p : Int) - 1) row' at') →
    ∃ row'',Row4 s r 0 row''∧∀ k,sais_induce.l4 (k + (p + 1) + 1) s (tyl s) (((p + 1 : Nat) : Int) - 1) row at_ = some row'':=by
   intro row' at' g1 g2 g3
   obtain ⟨row'',g4,g5⟩:=ih row' at' (by omega) g1 g2
   refine ⟨row'',g4,fun k=>?_⟩
   rw [show ((p + 1 : Nat) : Int) - 1 = (p : Int) by omega,show k + (p + 1) + 1 = k + p + 1 + 1 by omega,g3 k]
   exact g5 k
  by_cases a : ch row p≤0
  ·obtain ⟨s1,s2⟩:=same (fun j hj hs he=>by have:=at_p j hj hs he; omega)
   refine go row at_ s1 s2 fun k=>?_
   rw [sais_induce.l4,if_pos (by omega),if_pos (by omega),if_pos (by rw [h1.len]; omega),rd_nat,if_pos a,w]
  ·obtain ⟨i,hi,h3,h4,h5⟩:=h1.only p (by omega) (by omega)
   obtain ⟨g,rfl⟩ : ∃ g,i = g + 1:=⟨i - 1,by omega⟩
   have w2 : wrap64 (ch row p - 1) = (g : Int):=by rw [h5,w64 (by omega) (by omega)]; omega
   have hg : g < s.length:=by omega
   by_cases b : sm s.length (ch s) g = true
   ·obtain ⟨v,hv⟩ : ∃ v : Nat,ch s g = v:=⟨(ch s g).toNat,by have:=(hok.2.2.2 g hg).1; omega⟩
    have hvA : v < A:=by have:=(hok.2.2.2 g hg).2; omega
    have e1:=h2.2 v hvA
    have e2:=rk3_small hr hg b
    rw [hv] at e2
    have e3 : cn s.length (fun j=>(decide (ch s j = (v : Int)) && sm s.length (ch s) j) && decide (p + 1≤rk3 s.length (ch s) r (j + 1))) = cn s.length (fun j=>(decide (ch s j = (v : Int)) && sm s.length (ch s) j) && lt3 s.length (ch s) r g j):=by
     refine cn_congr fun j hj=>?_
     by_cases f : ch s j = (v : Int)∧sm s.length (ch s) j = true
     ·have hj1:=sm_lt f.2
      rw [f.1,f.2,lt3_ss hg hj (by omega) b f.2]
      simp only [decide_true,Bool.true_and]
      rw [Bool.eq_iff_iff,decide_eq_true_eq,← rk3_iff hr hi hj1]; omega
     ·by_cases f1 : ch s j = (v : Int)
      ·have f2 : sm s.length (ch s) j = false:=by
        cases f3 : sm s.length (ch s) j with
        | false=>rfl
        | true=>exact absurd ⟨f1,f3⟩ f
       rw [f2]; simp
      ·simp [f1]
    rw [e3] at e1
    have e4:=rk3_lt (n:=s.length) (c:=ch s) (r:=r) hg
    have w3 : wrap64 (ch at_ v - 1) = (rk3 s.length (ch s) r g : Int):=by rw [w64 (by omega) (by omega)]; omega
    have hlen : (at_.set v (rk3 s.length (ch s) r g : Int)).length = A:=by rw [List.length_set]; exact h2.1
    have hiff : ∀ j,j < s.length→sm s.length (ch s) j = true→(p≤rk3 s.length (ch s) r (j + 1)↔(p + 1≤rk3 s.length (ch s) r (j + 1)∨j = g)):=by
     intro j hj hs
     constructor
     ·intro h
      by_cases e : rk3 s.length (ch s) r (j + 1) = p
      ·right
       have:=rk3_inj hr (sm_lt hs) hi (e.trans h4.symm); omega
      ·left; omega
     ·rintro (h | rfl)
      ·omega
      ·omega
    refine go (row.set (rk3 s.length (ch s) r g) (g : Int)) (at_.set v (rk3 s.length (ch s) r g : Int)) ⟨by rw [List.length_set]; exact h1.len,fun j hj h6=>?_,fun q hq hne=>?_⟩ ⟨hlen,fun u hu=>?_⟩ fun k=>?_
    ·rw [ch_set _ _ _ _ (by rw [h1.len]; exact e4)]
     by_cases e : j = g
     ·subst e; rw [if_pos rfl]
     ·rw [if_neg (fun h=>e (rk3_inj hr hg hj h).symm)]
      exact h1.put j hj (fun hs=>by rcases (hiff j hj hs).1 (h6 hs) with h7 | h7; exact h7; exact absurd h7 e)
    ·rw [ch_set _ _ _ _ (by rw [h1.len]; exact e4)] at hne ⊢
     by_cases e : rk3 s.length (ch s) r g = q
     ·rw [if_pos e]; exact ⟨g,hg,fun _=>by omega,e,rfl⟩
     ·rw [if_neg e] at hne ⊢
      obtain ⟨j,hj,h6,h7,h8⟩:=h1.only q hq hne
      exact ⟨j,hj,fun hs=>(hiff j hj hs).2 (.inl (h6 hs)),h7,h8⟩
    ·rw [ch_set _ _ _ _ (by rw [h2.1]; exact hvA)]
     by_cases e : v = u
     ·subst e
      rw [if_pos rfl]
      have e5 : cn s.length (fun j=>(decide (ch s j = (v : Int)) && sm s.length (ch s) j) && decide (p≤rk3 s.length (ch s) r (j + 1))) = cn s.length (fun j=>(decide (ch s j = (v : Int)) && sm s.length (ch s) j) && decide (p + 1≤rk3 s.length (ch s) r (j + 1))) + 1:=by
       refine cn_succ hg (by simp; intro _ _; omega) (fun j hj=>?_)
       rw [Bool.eq_iff_iff]
       simp only [Bool.or_eq_true,Bool.and_eq_true,decide_eq_true_eq,beq_iff_eq]
       constructor
       ·rintro ⟨⟨f1,f2⟩,f3⟩
        rcases (hiff j hj f2).1 f3 with f4 | f4
        ·exact .inl ⟨⟨f1,f2⟩,f4⟩
        ·exact .inr f4
       ·rintro (⟨⟨f1,f2⟩,f3⟩ | rfl)
        ·exact ⟨⟨f1,f2⟩,by omega⟩
        ·exact ⟨⟨hv,b⟩,by omega⟩
      rw [e5,e3]
      omega
     ·rw [if_neg e,h2.2 u hu]
      congr 2
      refine cn_congr fun j hj=>?_
      by_cases f : ch s j = (u : Int)∧sm s.length (ch s) j = true
      ·rw [Bool.eq_iff_iff]
       simp only [Bool.and_eq_true,decide_eq_true_eq]
       rw [hiff j hj f.2]
       have hne : j ≠ g:=by rintro rfl; exact e (by omega)
       exact ⟨fun h=>⟨h.1,.inl h.2⟩,fun h=>⟨h.1,h.2.resolve_right hne⟩⟩
      ·by_cases f1 : ch s j = (u : Int)
       ·have f2 : sm s.length (ch s) j = false:=by
         cases f3 : sm s.length (ch s) j with
         | false=>rfl
         | true=>exact absurd ⟨f1,f3⟩ f
        rw [f2]; simp
       ·simp [f1]
    ·rw [sais_induce.l4,if_pos (by omega),if_pos (by omega),if_pos (by rw [h1.len]; omega),rd_nat,if_neg a,w2,w,if_pos (by omega),if_pos (by rw [tyl_length]; omega),rdB_nat,tyl_get hg,if_pos b,if_pos (by omega),rd_nat,hv,if_pos (by omega),if_pos (by rw [h2.1]; omega),rd_nat,w3,Option.bind_some,Int.toNat_natCast,rd_nat,ch_set _ _ _ _ (by rw [h2.1]; exact hvA),if_pos rfl,if_pos (by omega),if_pos (by rw [h1.len]; omega),Int.toNat_natCast]
   ·obtain ⟨s1,s2⟩:=same (fun j hj hs he=>by
     have:=at_p j hj hs he
     have : j = g:=by omega
     subst this; exact b hs)
    refine go row at_ s1 s2 fun k=>?_
    rw [sais_induce.l4,if_pos (by omega),if_pos (by omega),if_pos (by rw [h1.len]; omega),rd_nat,if_neg a,w2,if_pos (by omega),if_pos (by rw [tyl_length]; omega),rdB_nat,tyl_get hg,if_neg b,w]
end
end Go.Proofs.Ythcnnfahlhklgaa.SD
end

section
/- The printed function induce of package sais: whatever order of the turns is given, the row has all in the order that the passes make of it. -/
namespace Go.Proofs.Ythcnnfahlhklgaa.SD
open Go.RowKit Go.Proofs.Ythcnnfahlhklgaa Go.Proofs.Ythcnnfahlhklgaa.X Go.Proofs.Ythcnnfahlhklgaa.SM Go.Proofs.YthcnnfahlhklgaaW.PrintWords Go.Proofs.YthcnnfahlhklgaaW.PrintLast

theorem wp {x y : Int} (h : x = y) (h1 : -9223372036854775808≤y) (h2 : y≤9223372036854775807) : wrap64 x = y:=by rw [h]; exact w64 h1 h2
theorem copy_eq (d t : List Int) (h : d.length = t.length) : copy_i64.f d t = some (((Nat.min t.length d.length : Nat) : Int),t):=by
 unfold copy_i64.f; rw [cpy_all d t h]

section
variable {k0 : Int} {s : List Int} {o : List Int} {r : Nat→Nat}
attribute [local irreducible] cn cv fr tov rk3 loc2 ch

theorem induce_l3 (hok : Ok k0 s) (A : Nat) (en at_ : List Int) (he : en.length = A) (ha : at_.length = A) (d : Nat) : ∀ p (row : List Int),s.length - p = d→p≤s.length→Row3 s r p row →
  ∃ row',Row3 s r s.length row'∧∀ k,sais_induce.l3 (k + d + 1) s (tyl s) (s.length : Int) row en at_ (s.length : Int) (p : Int) = sais_induce.l4 k s (tyl s) ((s.length : Int) - 1) row' en:=by
 have hn:=hok.2.2.1
 induction d with
 | zero =>
  intro p row hd hp h1
  obtain rfl : p = s.length:=by omega
  refine ⟨row,h1,fun k=>?_⟩
  rw [sais_induce.l3,if_neg (by omega),copy_eq at_ en (by omega),Option.bind_some,w64 (by omega) (by omega)]
 | succ d ih =>
  intro p row hd hp h1
  have go : ∀ row',Row3 s r (p + 1) row'→(∀ k,sais_induce.l3 (k + d + 1 + 1) s (tyl s) (s.length : Int) row en at_ (s.length : Int) (p : Int) = sais_induce.l3 (k + d + 1) s (tyl s) (s.length : Int) row' en at_ (s.length : Int) ((p + 1 : Nat) : Int)) →
    ∃ row'',Row3 s r s.length row''∧∀ k,sais_induce.l3 (k + (d + 1) + 1) s (tyl s) (s.length : Int) row en at_ (s.length : Int) (p : Int) = sais_induce.l4 k s (tyl s) ((s.length : Int) - 1) row'' en:=by
   intro row' g1 g2
   obtain ⟨row'',g3,g4⟩:=ih (p + 1) row' (by omega) (by omega) g1
   exact ⟨row'',g3,fun k=>by rw [show k + (d + 1) + 1 = k + d + 1 + 1 by omega,g2 k,g4 k]⟩
  have hpn : p < s.length:=by omega
  by_cases a : ch row p = -1
  ·refine go row ⟨h1.len,h1.put,fun q hq hne=>?_⟩ fun k=>?_
   ·obtain ⟨i,g1,g2,g3,g4,g5⟩:=h1.only q hq hne
    exact ⟨i,g1,g2,g3,g4,fun h=>g5 (by rcases Nat.lt_or_ge q p with h2 | h2; exact h2; exact absurd a (by rw [show p = q by omega]; exact hne))⟩
   ·rw [sais_induce.l3,if_pos (by omega),if_pos (by omega),if_pos (by rw [h1.len]; omega),rd_nat,if_pos a,wp (y:=((p + 1 : Nat) : Int)) (by omega) (by omega) (by omega)]
  ·obtain ⟨i,g1,g2,g3,g4,g5⟩:=h1.only p hpn a
   by_cases b : sm s.length (ch s) i = true
   ·refine go (row.set p (-1)) ⟨by rw [List.length_set]; exact h1.len,fun j hj hs=>?_,fun q hq hne=>?_⟩ fun k=>?_
    ·rw [ch_set _ _ _ _ (by rw [h1.len]; exact hpn)]
     have h2:=h1.put j hj hs
     by_cases e : p = rk3 s.length (ch s) r j
     ·rw [← e] at h2
      have : i = j:=by omega
      subst this; rw [b] at hs; cases hs
     ·rw [if_neg e]; exact h2
    ·rw [ch_set _ _ _ _ (by rw [h1.len]; exact hpn)] at hne ⊢
     by_cases e : p = q
     ·rw [if_pos e] at hne; exact absurd rfl hne
     ·rw [if_neg e] at hne ⊢
      obtain ⟨j,f1,f2,f3,f4,f5⟩:=h1.only q hq hne
      exact ⟨j,f1,f2,f3,f4,fun h=>f5 (by omega)⟩
    ·rw [sais_induce.l3,if_pos (by omega),if_pos (by omega),if_pos (by rw [h1.len]; omega),rd_nat,if_neg a,g4,if_pos (by omega),if_pos (by rw [tyl_length]; omega),rdB_nat,tyl_get g1,if_pos b,Int.toNat_natCast,wp (y:=((p + 1 : Nat) : Int)) (by omega) (by omega) (by omega)]
   ·have b' : sm s.length (ch s) i = false:=by simpa using b
    refine go row ⟨h1.len,h1.put,fun q hq hne=>?_⟩ fun k=>?_
    ·by_cases e : q = p
     ·subst e; exact ⟨i,g1,g2,g3,g4,fun _=>b'⟩
     ·obtain ⟨j,f1,f2,f3,f4,f5⟩:=h1.only q hq hne
      exact ⟨j,f1,f2,f3,f4,fun h=>f5 (by omega)⟩
    ·rw [sais_induce.l3,if_pos (by omega),if_pos (by omega),if_pos (by rw [h1.len]; omega),rd_nat,if_neg a,g4,if_pos (by omega),if_pos (by rw [tyl_length]; omega),rdB_nat,tyl_get g1,if_neg b,wp (y:=((p + 1 : Nat) : Int)) (by omega) (by omega) (by omega)]

theorem row3_of_2 {row : List Int} (h : Row2 s r s.length row) : Row3 s r 0 row:=by
 refine ⟨h.len,fun i hi hs=>?_,fun q hq hne=>?_⟩
 ·have h1:=h.put i hi (InA.big hi hs) (fun _=>by
   unfold pl2
   rcases Nat.lt_or_ge (i + 1) s.length with h2 | h2
   ·rw [decide_eq_true (loc2_lt h2 (InA.next hi hs)),Bool.or_true]
   ·rw [decide_eq_true (by omega),Bool.true_or])
  rw [loc2_big hs] at h1; exact h1
 ·obtain ⟨i,g1,g2,_,g4,g5⟩:=h.only q hq hne
  exact ⟨i,g1,g2,g4,g5,fun h=>by omega⟩
theorem row4_of_3 {row : List Int} (h : Row3 s r s.length row) : Row4 s r s.length row:=by
 refine ⟨h.len,fun i hi hs=>?_,fun q hq hne=>?_⟩
 ·refine h.put i hi ?_
  cases h1 : sm s.length (ch s) i with
  | false=>rfl
  | true=>have:=hs h1; have:=rk3_lt (c:=ch s) (r:=r) (sm_lt h1); omega
 ·obtain ⟨i,g1,_,g4,g5,g6⟩:=h.only q hq hne
  have hs:=g6 hq
  exact ⟨i,g1,(fun h1=>by rw [hs] at h1; cases h1),by rw [← loc2_big hs]; exact g4,g5⟩
theorem at4_of_ends {A : Nat} {en : List Int} (he : en.length = A) (h : ∀ u : Nat,u < A→ch en u = (tov s.length (ch s) u : Int)) : At4 s r A s.length en:=by
 refine ⟨he,fun v hv=>?_⟩
 rw [h v hv,cn_false (fun j hj=>?_),Nat.sub_zero]
 cases h1 : sm s.length (ch s) j with
 | false=>simp
 | true =>
  have:=rk3_lt (c:=ch s) (r:=r) (sm_lt h1)
  rw [decide_eq_false (by omega : ¬ s.length≤rk3 s.length (ch s) r (j + 1)),Bool.and_false]

theorem induce_l2 (hok : Ok k0 s) (A : Nat) (hA : k0 = A) (hr : Inj s.length (ch s) r) (en : List Int) (d : Nat) : ∀ p (row at_ : List Int),s.length - p = d→p≤s.length→Row2 s r p row→At2 s r A p at_ →
  ∃ row' at',Row2 s r s.length row'∧at'.length = A∧∀ k,sais_induce.l2 (k + d + 1) s (tyl s) (s.length : Int) row en at_ (s.length : Int) (p : Int) = sais_induce.l3 k s (tyl s) (s.length : Int) row' en at' (s.length : Int) 0:=by
 have hn:=hok.2.2.1
 induction d with
 | zero =>
  intro p row at_ hd hp h1 h2
  obtain rfl : p = s.length:=by omega
  refine ⟨row,at_,h1,h2.1,fun k=>?_⟩
  rw [sais_induce.l2,if_neg (by omega),h1.len]
 | succ d ih =>
  intro p row at_ hd hp h1 h2
  have hpn : p < s.length:=by omega
  have go : ∀ (row' at' : List Int),Row2 s r (p + 1) row'→At2 s r A (p + 1) at'→(∀ k,sais_induce.l2 (k + d + 1 + 1) s (tyl s) (s.length : Int) row en at_ (s.length : Int) (p : Int) = sais_induce.l2 (k + d + 1) s (tyl s) (s.length : Int) row' en at' (s.length : Int) ((p + 1 : Nat) : Int)) →
    ∃ row'' at'',Row2 s r s.length row''∧at''.length = A∧∀ k,sais_induce.l2 (k + (d + 1) + 1) s (tyl s) (s.length : Int) row en at_ (s.length : Int) (p : Int) = sais_induce.l3 k s (tyl s) (s.length : Int) row'' en at'' (s.length : Int) 0:=by
   intro row' at' g1 g2 g3
   obtain ⟨row'',at'',g4,g5,g6⟩:=ih (p + 1) row' at' (by omega) (by omega) g1 g2
   exact ⟨row'',at'',g4,g5,fun k=>by rw [show k + (d + 1) + 1 = k + d + 1 + 1 by omega,g3 k,g6 k]⟩
  -- nothing new is put in where no big one stands behind
  have same : (∀ j,j + 1 < s.length→sm s.length (ch s) j = false→loc2 s.length (ch s) r (j + 1) ≠ p)→Row2 s r (p + 1) row∧At2 s r A (p + 1) at_:=by
   intro hno
   have hiff : ∀ j,j < s.length→sm s.length (ch s) j = false→pl2 s r (p + 1) j = pl2 s r p j:=by
    intro j hj hs
    unfold pl2
    by_cases e : j + 1 = s.length
    ·rw [decide_eq_true e,Bool.true_or,Bool.true_or]
    ·have:=hno j (by omega) hs
     rw [decide_eq_false e,Bool.false_or,Bool.false_or,Bool.eq_iff_iff,decide_eq_true_eq,decide_eq_true_eq]; omega
   refine ⟨⟨h1.len,fun i hi hA2 h3=>h1.put i hi hA2 (fun hs=>by rw [← hiff i hi hs]; exact h3 hs),fun q hq hne=>?_⟩,h2.1,fun v hv=>?_⟩
   ·obtain ⟨i,hi,hA2,h3,h4,h5⟩:=h1.only q hq hne
    exact ⟨i,hi,hA2,fun hs=>by rw [hiff i hi hs]; exact h3 hs,h4,h5⟩
   ·rw [h2.2 v hv]
    congr 2
    refine cn_congr fun j hj=>?_
    cases hs : sm s.length (ch s) j with
    | true=>simp
    | false=>rw [hiff j hj hs]
  -- what stands at p
  have at_p : ∀ j,j + 1 < s.length→sm s.length (ch s) j = false→loc2 s.length (ch s) r (j + 1) = p→ch row p = ((j + 1 : Nat) : Int):=by
   intro j hj hs he
   have:=h1.put (j + 1) hj (InA.next (by omega) hs) (fun hs2=>by
    unfold pl2
    rcases Nat.lt_or_ge (j + 2) s.length with h3 | h3
    ·have:=loc2_mono (r:=r) h3 (InA.next hj hs2) (InA.next (by omega) hs) (lt2_step hj hs2)
     rw [he] at this
     rw [decide_eq_true this,Bool.or_true]
    ·rw [decide_eq_true (by omega : j + 1 + 1 = s.length),Bool.true_or])
   rw [he] at this; exact this
  by_cases a : ch row p≤0
  ·obtain ⟨s1,s2⟩:=same (fun j hj hs he=>by have:=at_p j hj hs he; omega)
   refine go row at_ s1 s2 fun k=>?_
   rw [sais_induce.l2,if_pos (by omega),if_pos (by omega),if_pos (by rw [h1.len]; omega),rd_nat,if_pos a,wp (y:=((p + 1 : Nat) : Int)) (by omega) (by omega) (by omega)]
  ·obtain ⟨i,hi,hA2,h3,h4,h5⟩:=h1.only p hpn (by omega)
   obtain ⟨g,rfl⟩ : ∃ g,i = g + 1:=⟨i - 1,by omega⟩
   have hw2 : ch row p - 1 = (g : Int):=by omega
   have hg : g < s.length:=by omega
   by_cases b : sm s.length (ch s) g = true
   ·obtain ⟨s1,s2⟩:=same (fun j hj hs he=>by
     have:=at_p j hj hs he
     have : j = g:=by omega
     subst this; rw [b] at hs; cases hs)
    refine go row at_ s1 s2 fun k=>?_
    rw [sais_induce.l2,if_pos (by omega),if_pos (by omega),if_pos (by rw [h1.len]; omega),rd_nat,if_neg a,wp hw2 (by omega) (by omega),if_pos (by omega),if_pos (by rw [tyl_length]; omega),rdB_nat,tyl_get hg,if_pos b,wp (y:=((p + 1 : Nat) : Int)) (by omega) (by omega) (by omega)]
   ·have b' : sm s.length (ch s) g = false:=by simpa using b
    obtain ⟨v,hv⟩ : ∃ v : Nat,ch s g = v:=⟨(ch s g).toNat,by have:=(hok.2.2.2 g hg).1; omega⟩
    have hvA : v < A:=by have:=(hok.2.2.2 g hg).2; omega
    have e1:=h2.2 v hvA
    have e2:=rk3_big (r:=r) hg b'
    rw [hv] at e2
    have e3 : cn s.length (fun j=>(decide (ch s j = (v : Int)) && !sm s.length (ch s) j) && pl2 s r p j) = cn s.length (fun j=>(decide (ch s j = (v : Int)) && !sm s.length (ch s) j) && lt2 s.length (ch s) r j g):=by
     refine cn_congr fun j hj=>?_
     by_cases f : ch s j = (v : Int)∧sm s.length (ch s) j = false
     ·rw [f.1,f.2,lt2_bb hj hg (by omega) f.2 b']
      simp only [decide_true,Bool.true_and,Bool.not_false]
      unfold pl2
      rcases Nat.lt_or_ge (j + 1) s.length with h6 | h6
      ·rw [decide_eq_false (by omega : ¬ j + 1 = s.length),Bool.false_or,Bool.eq_iff_iff,decide_eq_true_eq,← h4,loc2_iff hr h6 hi (InA.next hj f.2) hA2]
      ·rw [decide_eq_true (by omega : j + 1 = s.length),Bool.true_or,lt2_end h6,decide_eq_true hi]
     ·by_cases f1 : ch s j = (v : Int)
      ·have f2 : sm s.length (ch s) j = true:=by
        cases f3 : sm s.length (ch s) j with
        | true=>rfl
        | false=>exact absurd ⟨f1,f3⟩ f
       rw [f2]; simp
      ·simp [f1]
    rw [e3] at e1
    have e4:=rk3_lt (n:=s.length) (c:=ch s) (r:=r) hg
    have e6 : ch at_ v = (rk3 s.length (ch s) r g : Int):=by omega
    have hlen : (at_.set v ((rk3 s.length (ch s) r g : Int) + 1)).length = A:=by rw [List.length_set]; exact h2.1
    have hpg : pl2 s r p g = false:=by
     unfold pl2
     rw [decide_eq_false (by omega : ¬ g + 1 = s.length),Bool.false_or,decide_eq_false (by omega)]
    have hiff : ∀ j,j < s.length→sm s.length (ch s) j = false→(pl2 s r (p + 1) j = true↔(pl2 s r p j = true∨j = g)):=by
     intro j hj hs
     unfold pl2
     simp only [Bool.or_eq_true,decide_eq_true_eq]
     by_cases hj1 : j + 1 = s.length
     ·exact ⟨fun _=>.inl (.inl hj1),fun _=>.inl hj1⟩
     ·constructor
      ·rintro (h | h)
       ·exact .inl (.inl h)
       ·by_cases e : loc2 s.length (ch s) r (j + 1) = p
        ·right
         have:=loc2_inj hr (by omega) hi (InA.next hj hs) hA2 (e.trans h4.symm); omega
        ·left; right; omega
      ·rintro ((h | h) | rfl)
       ·exact .inl h
       ·exact .inr (by omega)
       ·exact .inr (by omega)
    have hloc : ∀ j,j < s.length→InA s.length (ch s) j→rk3 s.length (ch s) r g = loc2 s.length (ch s) r j→g = j:=by
     intro j hj hAj he
     rw [← loc2_big b'] at he
     exact loc2_inj hr hg hj (InA.big hg b') hAj he
    refine go (row.set (rk3 s.length (ch s) r g) (g : Int)) (at_.set v ((rk3 s.length (ch s) r g : Int) + 1)) ⟨by rw [List.length_set]; exact h1.len,fun j hj hAj h6=>?_,fun q hq hne=>?_⟩ ⟨hlen,fun u hu=>?_⟩ fun k=>?_
    ·rw [ch_set _ _ _ _ (by rw [h1.len]; exact e4)]
     by_cases e : rk3 s.length (ch s) r g = loc2 s.length (ch s) r j
     ·rw [if_pos e,hloc j hj hAj e]
     ·rw [if_neg e]
      refine h1.put j hj hAj (fun hs=>?_)
      rcases (hiff j hj hs).1 (h6 hs) with h7 | h7
      ·exact h7
      ·subst h7; rw [loc2_big b'] at e; exact absurd rfl e
    ·rw [ch_set _ _ _ _ (by rw [h1.len]; exact e4)] at hne ⊢
     by_cases e : rk3 s.length (ch s) r g = q
     ·rw [if_pos e]; exact ⟨g,hg,InA.big hg b',fun _=>(hiff g hg b').2 (.inr rfl),by rw [loc2_big b']; exact e,rfl⟩
     ·rw [if_neg e] at hne ⊢
      obtain ⟨j,hj,hAj,h6,h7,h8⟩:=h1.only q hq hne
      exact ⟨j,hj,hAj,fun hs=>(hiff j hj hs).2 (.inl (h6 hs)),h7,h8⟩
    ·rw [ch_set _ _ _ _ (by rw [h2.1]; exact hvA)]
     by_cases e : v = u
     ·subst e
      rw [if_pos rfl]
      have e5 : cn s.length (fun j=>(decide (ch s j = (v : Int)) && !sm s.length (ch s) j) && pl2 s r (p + 1) j) = cn s.length (fun j=>(decide (ch s j = (v : Int)) && !sm s.length (ch s) j) && pl2 s r p j) + 1:=by
       refine cn_succ hg (by rw [hpg,Bool.and_false]) (fun j hj=>?_)
       rw [Bool.eq_iff_iff]
       simp only [Bool.or_eq_true,Bool.and_eq_true,decide_eq_true_eq,beq_iff_eq,Bool.not_eq_true']
       constructor
       ·rintro ⟨⟨f1,f2⟩,f3⟩
        rcases (hiff j hj f2).1 f3 with f4 | f4
        ·exact .inl ⟨⟨f1,f2⟩,f4⟩
        ·exact .inr f4
       ·rintro (⟨⟨f1,f2⟩,f3⟩ | rfl)
        ·exact ⟨⟨f1,f2⟩,(hiff j hj f2).2 (.inl f3)⟩
        ·exact ⟨⟨hv,b'⟩,(hiff j hj b').2 (.inr rfl)⟩
      rw [e5,e3]
      omega
     ·rw [if_neg e,h2.2 u hu]
      congr 2
      refine cn_congr fun j hj=>?_
      by_cases f : ch s j = (u : Int)∧sm s.length (ch s) j = false
      ·have hne : j ≠ g:=by rintro rfl; exact e (by omega)
       rw [f.1,f.2]
       simp only [decide_true,Bool.true_and,Bool.not_false]
       rw [Bool.eq_iff_iff,hiff j hj f.2]
       exact ⟨fun h=>.inl h,fun h=>h.resolve_right hne⟩
      ·by_cases f1 : ch s j = (u : Int)
       ·have f2 : sm s.length (ch s) j = true:=by
         cases f3 : sm s.length (ch s) j with
         | true=>rfl
         | false=>exact absurd ⟨f1,f3⟩ f
        rw [f2]; simp
       ·simp [f1]
    ·rw [sais_induce.l2,if_pos (by omega),if_pos (by omega),if_pos (by rw [h1.len]; omega),rd_nat,if_neg a,wp hw2 (by omega) (by omega),if_pos (by omega),if_pos (by rw [tyl_length]; omega),rdB_nat,tyl_get hg,if_neg b,if_pos (by omega),rd_nat,hv,if_pos (by omega),if_pos (by rw [h2.1]; omega),rd_nat,e6,if_pos (by omega),if_pos (by rw [h1.len]; omega),Int.toNat_natCast,Int.toNat_natCast,w64 (x:=(rk3 s.length (ch s) r g : Int) + 1) (by omega) (by omega),wp (y:=((p + 1 : Nat) : Int)) (by omega) (by omega) (by omega)]
theorem start2 (hok : Ok k0 s) (A : Nat) (hA : k0 = A) (hr : Inj s.length (ch s) r) (hn0 : 0 < s.length) {row hd : List Int} (h1 : Row1 s r 0 row) (hh : hd.length = A) (hv : ∀ u : Nat,u < A→ch hd u = (fr s.length (ch s) u : Int)) (v : Nat) (hvc : ch s (s.length - 1) = v) :
  Row2 s r 0 (row.set (fr s.length (ch s) v) ((s.length - 1 : Nat) : Int))∧At2 s r A 0 (hd.set v ((fr s.length (ch s) v : Int) + 1))∧fr s.length (ch s) v < s.length∧v < A:=by
 have hb : sm s.length (ch s) (s.length - 1) = false:=sm_out (by omega)
 have hl : s.length - 1 < s.length:=by omega
 have hvA : v < A:=by have:=(hok.2.2.2 _ hl).2; omega
 have e0 : rk3 s.length (ch s) r (s.length - 1) = fr s.length (ch s) v:=by
  rw [rk3_big hl hb,hvc,cn_false (fun j hj=>?_),Nat.add_zero]
  by_cases f : ch s j = (v : Int)∧sm s.length (ch s) j = false
  ·rw [lt2_bb hj hl (by omega) f.2 hb,lt2_to_end (by omega),Bool.and_false]
  ·by_cases f1 : ch s j = (v : Int)
   ·have f2 : sm s.length (ch s) j = true:=by
     cases f3 : sm s.length (ch s) j with
     | true=>rfl
     | false=>exact absurd ⟨f1,f3⟩ f
    rw [f2]; simp
   ·simp [f1]
 have e1 : fr s.length (ch s) v < s.length:=by rw [← e0]; exact rk3_lt hl
 have hp : ∀ j,pl2 s r 0 j = true↔j + 1 = s.length:=by intro j; unfold pl2; simp
 have hloc : ∀ j,j < s.length→InA s.length (ch s) j→fr s.length (ch s) v = loc2 s.length (ch s) r j→s.length - 1 = j:=by
  intro j hj hAj he
  rw [← e0,← loc2_big hb] at he
  exact loc2_inj hr hl hj (InA.big hl hb) hAj he
 refine ⟨⟨by rw [List.length_set]; exact h1.len,fun j hj hAj h6=>?_,fun q hq hne=>?_⟩,⟨by rw [List.length_set]; exact hh,fun u hu=>?_⟩,e1,hvA⟩
 ·rw [ch_set _ _ _ _ (by rw [h1.len]; exact e1)]
  by_cases e : fr s.length (ch s) v = loc2 s.length (ch s) r j
  ·rw [if_pos e,hloc j hj hAj e]
  ·rw [if_neg e]
   cases hs : sm s.length (ch s) j with
   | true=>exact h1.put j (hAj.2 hj hs) (Nat.zero_le _)
   | false =>
    have:=(hp j).1 (h6 hs)
    have : j = s.length - 1:=by omega
    subst this
    rw [loc2_big hb,e0] at e; exact absurd rfl e
 ·rw [ch_set _ _ _ _ (by rw [h1.len]; exact e1)] at hne ⊢
  by_cases e : fr s.length (ch s) v = q
  ·rw [if_pos e]; exact ⟨s.length - 1,hl,InA.big hl hb,fun _=>(hp _).2 (by omega),by rw [loc2_big hb,e0]; exact e,rfl⟩
  ·rw [if_neg e] at hne ⊢
   obtain ⟨t,ht,_,h7,h8⟩:=h1.only q hq hne
   exact ⟨t,by have:=trn_lt ht; omega,InA.turn ht,(fun hs=>by rw [(trn_iff.1 ht).2.1] at hs; cases hs),h7,h8⟩
 ·rw [ch_set _ _ _ _ (by rw [hh]; exact hvA)]
  by_cases e : v = u
  ·subst e
   rw [if_pos rfl]
   have : cn s.length (fun j=>(decide (ch s j = (v : Int)) && !sm s.length (ch s) j) && pl2 s r 0 j) = 1:=by
    rw [← cn_one hl]
    refine cn_congr fun j hj=>?_
    rw [Bool.eq_iff_iff]
    simp only [Bool.and_eq_true,decide_eq_true_eq,beq_iff_eq,Bool.not_eq_true',hp]
    constructor
    ·rintro ⟨_,h⟩; omega
    ·intro h; subst h; exact ⟨⟨hvc,hb⟩,by omega⟩
   rw [this]; omega
  ·rw [if_neg e,hv u hu]
   have : cn s.length (fun j=>(decide (ch s j = (u : Int)) && !sm s.length (ch s) j) && pl2 s r 0 j) = 0:=by
    refine cn_false fun j hj=>?_
    cases h : (decide (ch s j = (u : Int)) && !sm s.length (ch s) j) && pl2 s r 0 j with
    | false=>rfl
    | true =>
     simp only [Bool.and_eq_true,decide_eq_true_eq,Bool.not_eq_true',hp] at h
     have : j = s.length - 1:=by omega
     subst this; exact absurd (by omega : v = u) e
   rw [this]; omega

theorem induce_l1 (hok : Ok k0 s) (A : Nat) (hA : k0 = A) (ho : Ord s o r) (hm : o.length≤16777216) (hn0 : 0 < s.length) (hd en : List Int) (hh : hd.length = A) (hv : ∀ u : Nat,u < A→ch hd u = (fr s.length (ch s) u : Int)) (x : Nat) : ∀ (row at_ : List Int),x≤o.length→Row1 s r x row→At1 s r A x at_ →
  ∃ row' at',Row2 s r 0 row'∧At2 s r A 0 at'∧∀ k,sais_induce.l1 (k + x + 1) s (tyl s) o (s.length : Int) ((x : Int) - 1) row hd en at_ = sais_induce.l2 k s (tyl s) (s.length : Int) row' en at' (s.length : Int) 0:=by
 have hn:=hok.2.2.1
 have hr:=ho.inj
 induction x with
 | zero =>
  intro row at_ hx h1 h2
  have hl : s.length - 1 < s.length:=by omega
  obtain ⟨v,hvc⟩ : ∃ v : Nat,ch s (s.length - 1) = v:=⟨(ch s (s.length - 1)).toNat,by have:=(hok.2.2.2 _ hl).1; omega⟩
  obtain ⟨g1,g2,g3,g4⟩:=start2 hok A hA hr hn0 h1 hh hv v hvc
  refine ⟨_,_,g1,g2,fun k=>?_⟩
  have e1:=hv v g4
  have e2 : (s.length : Int) - 1 = ((s.length - 1 : Nat) : Int):=by omega
  rw [sais_induce.l1,if_neg (by omega),copy_eq at_ hd (by rw [h2.1,hh]),Option.bind_some,wp e2 (by omega) (by omega),if_pos (by omega),if_pos (by omega),rd_nat,hvc,if_pos (by omega),if_pos (by rw [h2.1]; omega),rd_nat,e1,if_pos (by omega),if_pos (by rw [h1.len]; omega),Int.toNat_natCast,Int.toNat_natCast,w64 (x:=(fr s.length (ch s) v : Int) + 1) (by omega) (by omega)]
 | succ p ih =>
  intro row at_ hx h1 h2
  obtain ⟨t,ht,ht2,ht3⟩:=ho.turn p (by omega)
  have htn:=trn_lt ht
  have hts:=(trn_iff.1 ht).2.1
  obtain ⟨v,hvc⟩ : ∃ v : Nat,ch s t = v:=⟨(ch s t).toNat,by have:=(hok.2.2.2 t (by omega)).1; omega⟩
  have hvA : v < A:=by have:=(hok.2.2.2 t (by omega)).2; omega
  have e1:=h2.2 v hvA
  have e2:=loc2_turn (r:=r) ht
  have e3 : tl s.length (ch s) r t = cn s.length (fun u=>trn s.length (ch s) u && (decide (ch s u = (v : Int)) && decide (p + 1≤r u))) + 1:=by
   unfold tl
   refine cn_succ (i:=t) (by omega) (by simp [ht3]) (fun u hu=>?_)
   rw [Bool.eq_iff_iff]
   simp only [Bool.or_eq_true,Bool.and_eq_true,decide_eq_true_eq,beq_iff_eq]
   constructor
   ·rintro ⟨f1,f2,f3⟩
    by_cases e : u = t
    ·exact .inr e
    ·left
     have : r u ≠ r t:=fun h=>e (hr u t f1 ht h)
     exact ⟨f1,by omega,by omega⟩
   ·rintro (⟨f1,f2,f3⟩ | rfl)
    ·exact ⟨f1,by omega,by omega⟩
    ·exact ⟨ht,rfl,Nat.le_refl _⟩
  have e4:=loc2_lt (r:=r) (show t < s.length by omega) (InA.turn ht)
  have e5:=tl_le (n:=s.length) (c:=ch s) (r:=r) t
  have e6:=to_parts (n:=s.length) (c:=ch s) (ch s t)
  rw [hvc] at e2 e5 e6
  have e7 : ch at_ v - 1 = (loc2 s.length (ch s) r t : Int):=by omega
  have hiff : ∀ u,trn s.length (ch s) u = true→(p≤r u↔(p + 1≤r u∨u = t)):=by
   intro u hu
   constructor
   ·intro h
    by_cases e : u = t
    ·exact .inr e
    ·have : r u ≠ r t:=fun h=>e (hr u t hu ht h)
     left; omega
   ·rintro (h | rfl)
    ·omega
    ·omega
  have hloc : ∀ u,trn s.length (ch s) u = true→loc2 s.length (ch s) r t = loc2 s.length (ch s) r u→t = u:=by
   intro u hu he
   exact loc2_inj hr (by omega) (by have:=trn_lt hu; omega) (InA.turn ht) (InA.turn hu) he
  obtain ⟨row'',at'',g1,g2,g3⟩:=ih (row.set (loc2 s.length (ch s) r t) (t : Int)) (at_.set v (loc2 s.length (ch s) r t : Int)) (by omega)
   ⟨by rw [List.length_set]; exact h1.len,fun u hu h6=>by
    rw [ch_set _ _ _ _ (by rw [h1.len]; exact e4)]
    by_cases e : loc2 s.length (ch s) r t = loc2 s.length (ch s) r u
    ·rw [if_pos e,hloc u hu e]
    ·rw [if_neg e]
     rcases (hiff u hu).1 h6 with h7 | h7
     ·exact h1.put u hu h7
     ·subst h7; exact absurd rfl e,fun q hq hne=>by
    rw [ch_set _ _ _ _ (by rw [h1.len]; exact e4)] at hne ⊢
    by_cases e : loc2 s.length (ch s) r t = q
    ·rw [if_pos e]; exact ⟨t,ht,by omega,e,rfl⟩
    ·rw [if_neg e] at hne ⊢
     obtain ⟨u,hu,h6,h7,h8⟩:=h1.only q hq hne
     exact ⟨u,hu,by omega,h7,h8⟩⟩
   ⟨by rw [List.length_set]; exact h2.1,fun u hu=>by
    rw [ch_set _ _ _ _ (by rw [h2.1]; exact hvA)]
    by_cases e : v = u
    ·subst e
     rw [if_pos rfl]
     have e8 : cn s.length (fun u=>trn s.length (ch s) u && (decide (ch s u = (v : Int)) && decide (p≤r u))) = tl s.length (ch s) r t:=by
      unfold tl; rw [hvc,ht3]
     rw [e8]; omega
    ·rw [if_neg e,h2.2 u hu]
     congr 2
     refine cn_congr fun j hj=>?_
     rw [Bool.eq_iff_iff]
     simp only [Bool.and_eq_true,decide_eq_true_eq]
     constructor
     ·rintro ⟨f1,f2,f3⟩; exact ⟨f1,f2,by omega⟩
     ·rintro ⟨f1,f2,f3⟩
      refine ⟨f1,f2,?_⟩
      rcases (hiff j f1).1 f3 with h7 | h7
      ·exact h7
      ·subst h7; exact absurd (by omega : v = u) e⟩
  refine ⟨row'',at'',g1,g2,fun k=>?_⟩
  rw [show ((p + 1 : Nat) : Int) - 1 = (p : Int) by omega,show k + (p + 1) + 1 = k + p + 1 + 1 by omega]
  rw [sais_induce.l1,if_pos (by omega),if_pos (by omega),if_pos (by omega),rd_nat,ht2,if_pos (by omega),if_pos (by omega),rd_nat,hvc,if_pos (by omega),if_pos (by rw [h2.1]; omega),rd_nat,wp e7 (by omega) (by omega),Option.bind_some,Int.toNat_natCast,rd_nat,ch_set _ _ _ _ (by rw [h2.1]; exact hvA),if_pos rfl,if_pos (by omega),if_pos (by rw [h1.len]; omega),Int.toNat_natCast,w64 (x:=(p : Int) - 1) (by omega) (by omega)]
  exact g3 k

theorem induce_l0 (hok : Ok k0 s) (t : List Bool) (d : Nat) : ∀ q (row : List Int),s.length - q = d→q≤s.length→row.length = s.length→(∀ j,j < q→ch row j = -1) →
  ∃ row',row'.length = s.length∧(∀ j,j < s.length→ch row' j = -1)∧∀ k,sais_induce.l0 (k + d + 1) k0 s t o (s.length : Int) row (s.length : Int) (q : Int) = sais_induce.l0 (k + 1) k0 s t o (s.length : Int) row' (s.length : Int) (s.length : Int):=by
 have hn:=hok.2.2.1
 induction d with
 | zero =>
  intro q row hd hq h1 h2
  obtain rfl : q = s.length:=by omega
  exact ⟨row,h1,h2,fun k=>rfl⟩
 | succ d ih =>
  intro q row hd hq h1 h2
  obtain ⟨row',g1,g2,g3⟩:=ih (q + 1) (row.set q (-1)) (by omega) (by omega) (by rw [List.length_set]; exact h1) (fun j hj=>by
   rw [ch_set _ _ _ _ (by omega)]
   by_cases e : q = j
   ·rw [if_pos e]
   ·rw [if_neg e]; exact h2 j (by omega))
  refine ⟨row',g1,g2,fun k=>?_⟩
  rw [show k + (d + 1) + 1 = k + d + 1 + 1 by omega]
  conv=>lhs; rw [sais_induce.l0]
  rw [if_pos (by omega),if_pos (by omega),if_pos (by omega),Int.toNat_natCast,wp (y:=((q + 1 : Nat) : Int)) (by omega) (by omega) (by omega)]
  exact g3 k
theorem induce_f (hok : Ok k0 s) (ho : Ord s o r) (hm : o.length≤16777216) : ∃ K row,(∀ k,K≤k→sais_induce.f k k0 s (tyl s) o = some row)∧row.length = s.length∧∀ i,i < s.length→ch row (rk3 s.length (ch s) r i) = (i : Int):=by
 have hn:=hok.2.2.1
 have hk2:=hok.2.1
 obtain ⟨A,hA⟩ : ∃ A : Nat,k0 = A:=⟨k0.toNat,by have:=hok.1; omega⟩
 have hr:=ho.inj
 have hrep : (List.replicate s.length (0 : Int)).length = s.length:=by simp
 obtain ⟨row0,a1,a2,a3⟩:=induce_l0 (o:=o) hok (tyl s) s.length 0 (List.replicate s.length 0) (by omega) (by omega) hrep (fun j hj=>by omega)
 rcases Nat.eq_zero_or_pos s.length with h0 | h0
 ·refine ⟨s.length + 2,row0,fun k hk=>?_,a1,fun i hi=>by omega⟩
  obtain ⟨k,rfl⟩ : ∃ m,k = m + s.length + 1:=⟨k - s.length - 1,by omega⟩
  unfold sais_induce.f
  rw [if_pos (by omega),if_pos (by omega),Option.bind_some,Int.toNat_natCast,hrep]
  have:=a3 k
  rw [show ((0 : Nat) : Int) = 0 from rfl] at this
  rw [this,sais_induce.l0,if_neg (by omega),if_pos (by omega)]
 ·obtain ⟨hd,en,b1,b2,b3,b4,b5⟩:=buckets_f hok A hA
  have hzero : (List.replicate A (0 : Int)).length = A:=by simp
  have r1 : Row1 s r o.length row0:=⟨a1,fun t ht h=>by have:=(ho.all t ht).1; omega,fun q hq hne=>absurd (a2 q hq) hne⟩
  have at1 : At1 s r A o.length en:=⟨b2,fun v hv=>by
   rw [b4 v hv,cn_false (fun u hu=>?_),Nat.sub_zero]
   cases h : trn s.length (ch s) u with
   | false=>simp
   | true=>have:=(ho.all u h).1; rw [decide_eq_false (by omega : ¬ o.length≤r u)]; simp⟩
  obtain ⟨row1,at2,c1,c2,c3⟩:=induce_l1 hok A hA ho hm h0 hd en b1 b3 o.length row0 en (Nat.le_refl _) r1 at1
  obtain ⟨row2,at3,d1,d2,d3⟩:=induce_l2 hok A hA hr en s.length 0 row1 at2 (by omega) (by omega) c1 c2
  obtain ⟨row3,e1,e2⟩:=induce_l3 hok A en at3 b2 d2 s.length 0 row2 (by omega) (by omega) (row3_of_2 d1)
  obtain ⟨row4,f1,f2⟩:=induce_l4 hok A hA hr s.length row3 en (Nat.le_refl _) (row4_of_3 e1) (at4_of_ends b2 b4)
  refine ⟨5 * s.length + A + o.length + 10,row4,fun k hk=>?_,f1.len,fun i hi=>f1.put i hi (fun _=>Nat.zero_le _)⟩
  obtain ⟨k,rfl⟩ : ∃ m,k = m + s.length + 1:=⟨k - s.length - 1,by omega⟩
  unfold sais_induce.f
  rw [if_pos (by omega),if_pos (by omega),Option.bind_some,Int.toNat_natCast,hrep]
  have g0:=a3 k
  rw [show ((0 : Nat) : Int) = 0 from rfl] at g0
  have g1:=b5 (k - s.length - A - 2)
  rw [show k - s.length - A - 2 + s.length + A + 2 = k by omega] at g1
  have g2:=c3 (k - o.length - 1)
  rw [show k - o.length - 1 + o.length + 1 = k by omega] at g2
  have g3:=d3 (k - o.length - 1 - s.length - 1)
  rw [show k - o.length - 1 - s.length - 1 + s.length + 1 = k - o.length - 1 by omega,show ((0 : Nat) : Int) = 0 from rfl] at g3
  have g4:=e2 (k - o.length - 1 - s.length - 1 - s.length - 1)
  rw [show k - o.length - 1 - s.length - 1 - s.length - 1 + s.length + 1 = k - o.length - 1 - s.length - 1 by omega,show ((0 : Nat) : Int) = 0 from rfl] at g4
  have g5:=f2 (k - o.length - 1 - s.length - 1 - s.length - 1 - s.length - 1)
  rw [show k - o.length - 1 - s.length - 1 - s.length - 1 - s.length - 1 + s.length + 1 = k - o.length - 1 - s.length - 1 - s.length - 1 by omega] at g5
  rw [g0,sais_induce.l0,if_neg (by omega),if_neg (by omega),g1,Option.bind_some,if_pos (by omega),if_pos (by omega)]
  simp only [hA,Int.toNat_natCast]
  rw [copy_eq (List.replicate A 0) en (by rw [hzero,b2]),Option.bind_some,w64 (by omega) (by omega),g2,g3,g4,g5]
end
end Go.Proofs.Ythcnnfahlhklgaa.SD
end

section
/- The printed functions same, array and Array of package sais: the answer has all suffixes in their order. -/
namespace Go.Proofs.Ythcnnfahlhklgaa.SD
open Go.RowKit Go.Proofs.Ythcnnfahlhklgaa Go.Proofs.Ythcnnfahlhklgaa.X Go.Proofs.Ythcnnfahlhklgaa.SM Go.Proofs.YthcnnfahlhklgaaW.PrintWords Go.Proofs.YthcnnfahlhklgaaW.PrintLast

/-! ### the turns in the text's order -/
theorem filter_length (P : Nat→Bool) (n : Nat) : ((List.range n).filter P).length = cn n P:=by
 induction n with
 | zero=>rfl
 | succ n ih =>
  rw [range_succ_filter,List.length_append,ih,cn]
  by_cases h : P n = true
  ·rw [if_pos h,if_pos h]; rfl
  ·rw [if_neg h,if_neg h]; rfl
theorem cn_up {P : Nat→Bool} {m n : Nat} (h : m≤n) : cn m P≤cn n P:=by
 induction n with
 | zero =>
  obtain rfl : m = 0:=by omega
  exact Nat.le_refl _
 | succ n ih =>
  by_cases e : m = n + 1
  ·rw [e]; exact Nat.le_refl _
  ·have:=ih (by omega)
   rw [cn]; omega
theorem cn_up_lt {P : Nat→Bool} {t n : Nat} (h : t < n) (hP : P t = true) : cn t P < cn n P:=by
 have h1:=cn_up (P:=P) (show t + 1≤n by omega)
 rw [cn,if_pos hP] at h1; omega
theorem filter_get (P : Nat→Bool) (n : Nat) : ∀ t,t < n→P t = true→((List.range n).filter P)[cn t P]? = some t:=by
 induction n with
 | zero=>intro t ht; omega
 | succ n ih =>
  intro t ht hP
  rw [range_succ_filter]
  by_cases e : t = n
  ·subst e
   rw [List.getElem?_append_right (by rw [filter_length]; exact Nat.le_refl _),filter_length,Nat.sub_self,if_pos hP]; rfl
  ·have:=cn_up_lt (n:=n) (by omega) hP
   rw [List.getElem?_append_left (by rw [filter_length]; exact this)]
   exact ih t (by omega) hP
theorem cn_find (P : Nat→Bool) (n : Nat) : ∀ a,a < cn n P→∃ t,t < n∧P t = true∧cn t P = a:=by
 induction n with
 | zero=>intro a ha; rw [cn] at ha; omega
 | succ n ih =>
  intro a ha
  by_cases h : P n = true
  ·rw [cn,if_pos h] at ha
   by_cases e : a = cn n P
   ·exact ⟨n,by omega,h,e.symm⟩
   ·obtain ⟨t,h1,h2,h3⟩:=ih a (by omega)
    exact ⟨t,by omega,h2,h3⟩
  ·rw [cn,if_neg h] at ha
   obtain ⟨t,h1,h2,h3⟩:=ih a (by omega)
   exact ⟨t,by omega,h2,h3⟩

section
variable {k0 : Int} {s : List Int} {r : Nat→Nat}

theorem tul_length (s : List Int) : (tul s).length = cn s.length (trn s.length (ch s)):=by unfold tul; rw [List.length_map,filter_length]
theorem tul_get {t : Nat} (h : trn s.length (ch s) t = true) : ch (tul s) (cn t (trn s.length (ch s))) = (t : Int):=by
 unfold tul ch
 have h1:=trn_lt h
 rw [List.getD_eq_getElem?_getD,List.getElem?_map]
 have:=filter_get (trn s.length (ch s)) s.length t (by omega) h
 unfold ch at this
 rw [this]; rfl
theorem tul_ord (s : List Int) : Ord s (tul s) (fun t=>cn t (trn s.length (ch s))):=by
 refine ⟨fun a ha=>?_,fun t ht=>⟨?_,tul_get ht⟩⟩
 ·rw [tul_length] at ha
  obtain ⟨t,_,h2,h3⟩:=cn_find _ _ a ha
  exact ⟨t,h2,by rw [← h3]; exact tul_get h2,h3⟩
 ·rw [tul_length]; exact cn_up_lt (by have:=trn_lt ht; omega) ht
def T (s : List Int) (a : Nat) : Nat:=(ch (tul s) a).toNat
theorem T_spec {a : Nat} (h : a < (tul s).length) : trn s.length (ch s) (T s a) = true∧ch (tul s) a = (T s a : Int)∧cn (T s a) (trn s.length (ch s)) = a:=by
 obtain ⟨t,h1,h2,h3⟩:=(tul_ord s).turn a h
 have : T s a = t:=by unfold T; rw [h2]; rfl
 rw [this]; exact ⟨h1,h2,h3⟩
theorem turns (s : List Int) : Turns s.length (ch s) (tul s).length (T s):=by
 refine ⟨fun a ha=>(T_spec ha).1,fun a b hab hb=>?_,fun t ht=>?_⟩
 ·have h1:=T_spec (s:=s) (a:=a) (by omega)
  have h2:=T_spec (s:=s) (a:=b) hb
  rcases Nat.lt_or_ge (T s a) (T s b) with h3 | h3
  ·exact h3
  ·have:=cn_up (P:=trn s.length (ch s)) h3; omega
 ·have h1:=(tul_ord s).all t ht
  exact ⟨_,h1.1,by unfold T; rw [h1.2]; rfl⟩
theorem tul_lt (h : 0 < s.length) : (tul s).length < s.length:=by
 rw [tul_length]
 have:=cn_lt (n:=s.length) (P:=trn s.length (ch s)) (Q:=fun _=>true) (fun _ _ _=>rfl) h rfl (by unfold trn; simp)
 rw [cn_true (fun _ _=>rfl)] at this; exact this

/-! ### same -/
attribute [local irreducible] cn cv fr tov rk3 loc2 ch

theorem same_loop (hn : s.length≤16777216) (i j : Nat) (hi : i≤s.length) (hj : j≤s.length) (m : Nat) : ∀ (d : Nat) (md : Bool),s.length - (i + d) = m→d≤s.length→(d = 0→md = true) →
  (0 < d→i + d - 1 < s.length∧j + d - 1 < s.length∧sm s.length (ch s) (i + d - 1) = md∧sm s.length (ch s) (j + d - 1) = md) →
  ∀ k,sais_same.l0 (k + 4 * m + 4) s (tyl s) (i : Int) (j : Int) (s.length : Int) (d : Int) = some (if md then eq3 s.length (ch s) (i + d) (j + d) else eq2 s.length (ch s) (i + d) (j + d)):=by
 induction m with
 | zero =>
  intro d md hm hd h0 h1 k
  have e : (if md then eq3 s.length (ch s) (i + d) (j + d) else eq2 s.length (ch s) (i + d) (j + d)) = false:=by
   rw [eq3_out (by omega),eq2_out (by omega)]; cases md <;> rfl
  rw [e,show k + 4 * 0 + 4 = k + 2 + 1 + 1 by omega,sais_same.l0,wp (x:=(i : Int) + (d : Int)) (y:=((i + d : Nat) : Int)) (by omega) (by omega) (by omega),if_pos (by omega),sais_same.j1,if_pos rfl]
 | succ m ih =>
  intro d md hm hd h0 h1 k
  rw [show k + 4 * (m + 1) + 4 = k + 4 * m + 3 + 1 + 1 + 1 + 1 + 1 by omega,sais_same.l0,wp (x:=(i : Int) + (d : Int)) (y:=((i + d : Nat) : Int)) (by omega) (by omega) (by omega),wp (x:=(j : Int) + (d : Int)) (y:=((j + d : Nat) : Int)) (by omega) (by omega) (by omega),if_neg (by omega)]
  have hid : i + d < s.length:=by omega
  rw [sais_same.j1]
  rcases Nat.lt_or_ge (j + d) s.length with hjd | hjd
  ·rw [if_neg (by simp; omega),if_pos (by omega),if_pos (by omega),if_pos (by omega),if_pos (by omega),rd_nat,rd_nat,rdB_nat,rdB_nat,tyl_get hid,tyl_get hjd]
   by_cases hc : ch s (i + d) = ch s (j + d)
   ·rw [if_pos hc,if_pos (by rw [tyl_length]; omega),if_pos (by rw [tyl_length]; omega),sais_same.j2]
    by_cases hs : sm s.length (ch s) (i + d) = sm s.length (ch s) (j + d)
    ·rw [if_neg (by rw [hs]; simp)]
     -- what the next round tells
     have next : ∀ md',sm s.length (ch s) (i + d) = md'→∀ k,sais_same.l0 (k + 4 * m + 4) s (tyl s) (i : Int) (j : Int) (s.length : Int) (wrap64 ((d : Int) + 1)) = some (if md' then eq3 s.length (ch s) (i + d + 1) (j + d + 1) else eq2 s.length (ch s) (i + d + 1) (j + d + 1)):=by
      intro md' hmd k
      rw [wp (x:=(d : Int) + 1) (y:=((d + 1 : Nat) : Int)) (by omega) (by omega) (by omega)]
      have:=ih (d + 1) md' (by omega) (by omega) (fun h=>by omega) (fun _=>⟨by omega,by omega,by rw [show i + (d + 1) - 1 = i + d by omega]; exact hmd,by rw [show j + (d + 1) - 1 = j + d by omega,← hs]; exact hmd⟩) k
      rw [show i + (d + 1) = i + d + 1 by omega,show j + (d + 1) = j + d + 1 by omega] at this
      exact this
     have fin : (0 < d→trn s.length (ch s) (i + d) = false∧trn s.length (ch s) (j + d) = false)→∀ k,
       sais_same.l0 (k + 4 * m + 4) s (tyl s) (i : Int) (j : Int) (s.length : Int) (wrap64 ((d : Int) + 1)) = some (if md then eq3 s.length (ch s) (i + d) (j + d) else eq2 s.length (ch s) (i + d) (j + d)):=by
      intro hno k
      rw [next _ rfl k]
      congr 1
      cases hs1 : sm s.length (ch s) (i + d) with
      | true =>
       have hmd : md = true:=by
        rcases Nat.eq_zero_or_pos d with z | z
        ·exact h0 z
        ·cases md with
         | true=>rfl
         | false =>
          have h2:=h1 z
          have h3:=(hno z).1
          rw [trn_iff.2 ⟨by omega,hs1,h2.2.2.1⟩] at h3; cases h3
       rw [hmd,Bool.eq_iff_iff]
       simp only [if_true]
       rw [eq3_in hid]
       exact ⟨fun h=>⟨hjd,hc,hs,fun _=>h,(fun h2=>by rw [hs1] at h2; cases h2)⟩,fun h=>h.2.2.2.1 hs1⟩
      | false =>
       cases md with
       | true =>
        rw [Bool.eq_iff_iff]
        simp only [if_true]
        rw [eq3_in hid]
        exact ⟨fun h=>⟨hjd,hc,hs,(fun h2=>by rw [hs1] at h2; cases h2),fun _=>h⟩,fun h=>h.2.2.2.2 hs1⟩
       | false =>
        rw [Bool.eq_iff_iff]
        simp only [Bool.false_eq_true,if_false]
        rw [eq2_in hid]
        exact ⟨fun h=>⟨hjd,hc,hs,fun _=>h⟩,fun h=>h.2.2.2 hs1⟩
     rcases Nat.eq_zero_or_pos d with z | z
     ·rw [if_neg (by omega),sais_same.j3,if_neg (by simp),show k + 4 * m + 3 + 1 = k + 4 * m + 4 by omega]
      exact fin (fun h=>by omega) k
     ·have h2:=h1 z
      rw [if_pos (by omega),isTurn_f s (by omega) (i + d) hid,Option.bind_some]
      have ht : trn s.length (ch s) (i + d) = trn s.length (ch s) (j + d):=by
       unfold trn
       rw [decide_eq_true (by omega : 0 < i + d),decide_eq_true (by omega : 0 < j + d),hs,h2.2.2.1,h2.2.2.2]
      cases hti : trn s.length (ch s) (i + d) with
      | true =>
       rw [if_pos rfl,sais_same.j3,if_pos rfl,isTurn_f s (by omega) (i + d) hid,Option.bind_some,hti,if_pos rfl,isTurn_f s (by omega) (j + d) hjd,Option.bind_some,← ht,hti]
       have h3:=trn_iff.1 hti
       have hmd : md = false:=by rw [← h2.2.2.1]; exact h3.2.2
       rw [hmd]
       simp only [Bool.false_eq_true,if_false]
       rw [(eq2_in hid).2 ⟨hjd,hc,hs,(fun h4=>by rw [h3.2.1] at h4; cases h4)⟩]
      | false =>
       rw [if_neg (by simp),isTurn_f s (by omega) (j + d) hjd,Option.bind_some,← ht,hti,sais_same.j3,if_neg (by simp),show k + 4 * m + 3 + 1 = k + 4 * m + 4 by omega]
       exact fin (fun _=>⟨hti,by rw [← ht]; exact hti⟩) k
    ·have e : (if md then eq3 s.length (ch s) (i + d) (j + d) else eq2 s.length (ch s) (i + d) (j + d)) = false:=by
      cases md
      ·simp only [Bool.false_eq_true,if_false]
       cases h3 : eq2 s.length (ch s) (i + d) (j + d) with
       | false=>rfl
       | true=>exact absurd ((eq2_in hid).1 h3).2.2.1 hs
      ·simp only [if_true]
       cases h3 : eq3 s.length (ch s) (i + d) (j + d) with
       | false=>rfl
       | true=>exact absurd ((eq3_in hid).1 h3).2.2.1 hs
     rw [e,if_pos (by rw [bne_iff_ne]; exact hs)]
   ·have e : (if md then eq3 s.length (ch s) (i + d) (j + d) else eq2 s.length (ch s) (i + d) (j + d)) = false:=by
     cases md
     ·simp only [Bool.false_eq_true,if_false]
      cases h3 : eq2 s.length (ch s) (i + d) (j + d) with
      | false=>rfl
      | true=>exact absurd ((eq2_in hid).1 h3).2.1 hc
     ·simp only [if_true]
      cases h3 : eq3 s.length (ch s) (i + d) (j + d) with
      | false=>rfl
      | true=>exact absurd ((eq3_in hid).1 h3).2.1 hc
    rw [if_neg hc,sais_same.j2,if_pos rfl,e]
  ·have e : (if md then eq3 s.length (ch s) (i + d) (j + d) else eq2 s.length (ch s) (i + d) (j + d)) = false:=by
    rw [eq3_symm,eq2_symm,eq3_out hjd,eq2_out hjd]; cases md <;> rfl
   rw [if_pos (by simp; omega),e]
theorem same_f (hn : s.length≤16777216) (i j : Nat) (hi : i≤s.length) (hj : j≤s.length) (k : Nat) : sais_same.f (k + 4 * s.length + 4) s (tyl s) (i : Int) (j : Int) = some (eq3 s.length (ch s) i j):=by
 unfold sais_same.f
 have:=same_loop hn i j hi hj (s.length - i) 0 true (by omega) (by omega) (fun _=>rfl) (fun h=>by omega) (k + 4 * i)
 rw [show k + 4 * i + 4 * (s.length - i) + 4 = k + 4 * s.length + 4 by omega] at this
 exact this
end
end Go.Proofs.Ythcnnfahlhklgaa.SD
end

section
/- The printed functions array and Array of package sais: the answer has all suffixes in their order. -/
namespace Go.Proofs.Ythcnnfahlhklgaa.SD
open Go.RowKit Go.Proofs.Ythcnnfahlhklgaa Go.Proofs.Ythcnnfahlhklgaa.X Go.Proofs.Ythcnnfahlhklgaa.SM Go.Proofs.YthcnnfahlhklgaaW.PrintWords Go.Proofs.YthcnnfahlhklgaaW.PrintLast

theorem slt_congr' {n : Nat} {c c' : Nat→Int} (h : ∀ j,j < n→c j = c' j) (d : Nat) : ∀ i j,n - i = d→slt n c i j = slt n c' i j:=by
 induction d with
 | zero=>intro i j hd; rw [slt_endb (by omega),slt_endb (by omega)]
 | succ d ih =>
  intro i j hd
  rcases Nat.lt_or_ge j n with hj | hj
  ·rw [Bool.eq_iff_iff,slt_in (by omega) hj,slt_in (by omega) hj,h i (by omega),h j hj,ih (i + 1) (j + 1) (by omega)]
  ·rw [slt_to_end hj,slt_to_end hj]
theorem slt_congr {n : Nat} {c c' : Nat→Int} (h : ∀ j,j < n→c j = c' j) (i j : Nat) : slt n c i j = slt n c' i j:=slt_congr' h _ i j rfl
def IsSA (s l : List Int) : Prop:=l.length = s.length∧∀ i,i < s.length→ch l (rank s.length (ch s) i) = (i : Int)

theorem ch_app (o : List Int) (i : Int) (a : Nat) : ch (o ++ [i]) a = if a < o.length then ch o a else if a = o.length then i else 0:=by
 unfold ch
 rw [List.getD_eq_getElem?_getD,List.getD_eq_getElem?_getD]
 by_cases h : a < o.length
 ·rw [if_pos h,List.getElem?_append_left h]
 ·rw [if_neg h,List.getElem?_append_right (by omega)]
  by_cases e : a = o.length
  ·rw [if_pos e,e,Nat.sub_self]; rfl
  ·rw [if_neg e]
   obtain ⟨q,hq⟩ : ∃ q,a - o.length = q + 1:=⟨a - o.length - 1,by omega⟩
   rw [hq]; rfl

section
variable {k0 : Int} {s : List Int} {r : Nat→Nat}
attribute [local irreducible] cn cv fr tov rk3 loc2 ch
def O (o : List Int) (a : Nat) : Nat:=(ch o a).toNat
structure Nam (s : List Int) (r : Nat→Nat) (p : Nat) (last count : Int) (o names : List Int) : Prop where
 olen : o.length = cn s.length (fun i=>trn s.length (ch s) i && decide (rk3 s.length (ch s) r i < p))
 nlen : names.length = s.length
 turn : ∀ a,a < o.length→trn s.length (ch s) (O o a) = true∧ch o a = (O o a : Int)∧rk3 s.length (ch s) r (O o a) < p
 all : ∀ t,trn s.length (ch s) t = true→rk3 s.length (ch s) r t < p→∃ a,a < o.length∧O o a = t
 sorted : ∀ a,a + 1 < o.length→lt3 s.length (ch s) r (O o a) (O o (a + 1)) = true
 step : ∀ a,a + 1 < o.length→ch names (O o (a + 1)) = ch names (O o a) + (if eq3 s.length (ch s) (O o a) (O o (a + 1)) then 0 else 1)
 first : 0 < o.length→ch names (O o 0) = 0
 none : o.length = 0→last = -1∧count = 0
 some : 0 < o.length→last = (O o (o.length - 1) : Int)∧count = ch names (O o (o.length - 1)) + 1
 bound : ∀ a,a < o.length→0≤ch names (O o a)∧ch names (O o a) < count
 le : 0≤count∧count≤o.length

theorem Nam.push (hr : Inj s.length (ch s) r) {p : Nat} {last count : Int} {o names : List Int} (h : Nam s r p last count o names) {i : Nat} (hi : trn s.length (ch s) i = true) (hp : rk3 s.length (ch s) r i = p) {v : Int}
  (hv0 : o.length = 0→v = 0) (hv1 : 0 < o.length→v = ch names (O o (o.length - 1)) + (if eq3 s.length (ch s) (O o (o.length - 1)) i then 0 else 1)) :
  Nam s r (p + 1) (i : Int) (v + 1) (o ++ [(i : Int)]) (names.set i v):=by
 have hin : i < s.length:=by have:=trn_lt hi; omega
 have hO : ∀ a,a < o.length→O (o ++ [(i : Int)]) a = O o a:=by intro a ha; unfold O; rw [ch_app,if_pos ha]
 have hOl : O (o ++ [(i : Int)]) o.length = i:=by unfold O; rw [ch_app,if_neg (by omega),if_pos rfl]; rfl
 have hlen : (o ++ [(i : Int)]).length = o.length + 1:=by simp
 have hne : ∀ a,a < o.length→i ≠ O o a:=by
  intro a ha e
  have:=(h.turn a ha).2.2
  rw [← e] at this; omega
 have hold : ∀ a,a < o.length→ch (names.set i v) (O o a) = ch names (O o a):=by
  intro a ha; rw [ch_set _ _ _ _ (by rw [h.nlen]; exact hin),if_neg (hne a ha)]
 have hnew : ch (names.set i v) i = v:=by rw [ch_set _ _ _ _ (by rw [h.nlen]; exact hin),if_pos rfl]
 have hv : 0≤v∧count - 1≤v∧v≤count:=by
  rcases Nat.eq_zero_or_pos o.length with z | z
  ·have:=h.none z; have:=hv0 z; omega
  ·have h1:=(h.some z).2
   have h2:=hv1 z
   have h3:=h.bound (o.length - 1) (by omega)
   split at h2 <;> omega
 refine ⟨?_,by rw [List.length_set]; exact h.nlen,?_,?_,?_,?_,?_,?_,?_,?_,?_⟩
 ·rw [hlen,h.olen]
  refine (cn_succ hin (by simp [hp]) (fun j hj=>?_)).symm
  rw [Bool.eq_iff_iff]
  simp only [Bool.or_eq_true,Bool.and_eq_true,decide_eq_true_eq,beq_iff_eq]
  constructor
  ·rintro ⟨f1,f2⟩
   by_cases e : j = i
   ·exact .inr e
   ·have : rk3 s.length (ch s) r j ≠ rk3 s.length (ch s) r i:=fun z=>e (rk3_inj hr hj hin z)
    exact .inl ⟨f1,by omega⟩
  ·rintro (⟨f1,f2⟩ | rfl)
   ·exact ⟨f1,by omega⟩
   ·exact ⟨hi,by omega⟩
 ·intro a ha
  rw [hlen] at ha
  by_cases e : a < o.length
  ·have:=h.turn a e
   rw [hO a e,ch_app,if_pos e]
   exact ⟨this.1,this.2.1,by omega⟩
  ·obtain rfl : a = o.length:=by omega
   rw [hOl,ch_app,if_neg (by omega),if_pos rfl]
   exact ⟨hi,rfl,by omega⟩
 ·intro t ht htp
  by_cases e : t = i
  ·exact ⟨o.length,by omega,by rw [hOl,e]⟩
  ·have : rk3 s.length (ch s) r t ≠ rk3 s.length (ch s) r i:=fun z=>e (rk3_inj hr (by have:=trn_lt ht; omega) hin z)
   obtain ⟨a,ha,hae⟩:=h.all t ht (by omega)
   exact ⟨a,by omega,by rw [hO a ha]; exact hae⟩
 ·intro a ha
  rw [hlen] at ha
  by_cases e : a + 1 < o.length
  ·rw [hO a (by omega),hO (a + 1) e]; exact h.sorted a e
  ·have e2 : a + 1 = o.length:=by omega
   rw [hO a (by omega),e2,hOl]
   have h1:=h.turn a (by omega)
   exact (rk3_iff hr (by have:=trn_lt h1.1; omega) hin).1 (by omega)
 ·intro a ha
  rw [hlen] at ha
  by_cases e : a + 1 < o.length
  ·rw [hO a (by omega),hO (a + 1) e,hold a (by omega),hold (a + 1) e]; exact h.step a e
  ·have e2 : a + 1 = o.length:=by omega
   rw [hO a (by omega),e2,hOl,hnew,hold a (by omega)]
   have:=hv1 (by omega)
   rw [show o.length - 1 = a by omega] at this; exact this
 ·intro _
  rcases Nat.eq_zero_or_pos o.length with z | z
  ·have e : (0 : Nat) = o.length:=z.symm
   have : O (o ++ [(i : Int)]) 0 = i:=by rw [e]; exact hOl
   rw [this,hnew]; exact hv0 z
  ·rw [hO 0 z,hold 0 z]; exact h.first z
 ·intro z; omega
 ·intro _
  rw [hlen,show o.length + 1 - 1 = o.length by omega,hOl,hnew]; exact ⟨rfl,rfl⟩
 ·intro a ha
  rw [hlen] at ha
  by_cases e : a < o.length
  ·rw [hO a e,hold a e]
   have:=h.bound a e
   omega
  ·obtain rfl : a = o.length:=by omega
   rw [hOl,hnew]; omega
 ·have:=h.le
  rw [hlen]
  rcases Nat.eq_zero_or_pos o.length with z | z
  ·have:=hv0 z; omega
  ·omega

theorem Nam.skip (hr : Inj s.length (ch s) r) {p : Nat} {last count : Int} {o names : List Int} (h : Nam s r p last count o names) {i : Nat} (hin : i < s.length) (hi : trn s.length (ch s) i = false) (hp : rk3 s.length (ch s) r i = p) : Nam s r (p + 1) last count o names:=by
 have hiff : ∀ t,trn s.length (ch s) t = true→(rk3 s.length (ch s) r t < p + 1↔rk3 s.length (ch s) r t < p):=by
  intro t ht
  have : rk3 s.length (ch s) r t ≠ rk3 s.length (ch s) r i:=fun z=>by
   have:=rk3_inj hr (by have:=trn_lt ht; omega) hin z
   subst this; rw [ht] at hi; cases hi
  omega
 refine ⟨?_,h.nlen,fun a ha=>?_,fun t ht h1=>h.all t ht ((hiff t ht).1 h1),h.sorted,h.step,h.first,h.none,h.some,h.bound,h.le⟩
 ·rw [h.olen]
  refine cn_congr fun j hj=>?_
  rw [Bool.eq_iff_iff]
  simp only [Bool.and_eq_true,decide_eq_true_eq]
  exact ⟨fun h=>⟨h.1,(hiff j h.1).2 h.2⟩,fun h=>⟨h.1,(hiff j h.1).1 h.2⟩⟩
 ·have:=h.turn a ha
  exact ⟨this.1,this.2.1,by omega⟩

theorem array_l0 (hn : s.length≤16777216) (hr : Inj s.length (ch s) r) {row : List Int} (hrow : row.length = s.length) (hput : ∀ i,i < s.length→ch row (rk3 s.length (ch s) r i) = (i : Int)) (d : Nat) :
  ∀ p (last count : Int) (o names : List Int),s.length - p = d→p≤s.length→Nam s r p last count o names →
  ∃ last' count' o' names',Nam s r s.length last' count' o' names'∧∀ k,4 * s.length + 4≤k →
   sais_array.l0 (k + d + 1) k0 s last count o (tul s) (tyl s) row names (s.length : Int) (p : Int) = sais_array.l0 (k + 1) k0 s last' count' o' (tul s) (tyl s) row names' (s.length : Int) (s.length : Int):=by
 induction d with
 | zero =>
  intro p last count o names hd hp h
  obtain rfl : p = s.length:=by omega
  exact ⟨last,count,o,names,h,fun k _=>rfl⟩
 | succ d ih =>
  intro p last count o names hd hp h
  have hpn : p < s.length:=by omega
  obtain ⟨i,hin,hip⟩:=pigeon s.length (rk3 s.length (ch s) r) (fun _ h=>rk3_lt h) (fun _ _ h h' e=>rk3_inj hr h h' e) p hpn
  have hrp : ch row p = (i : Int):=by rw [← hip]; exact hput i hin
  have hol : o.length≤s.length:=by rw [h.olen]; exact cn_le _
  have hcnt:=h.le
  have go : ∀ (last1 count1 : Int) (o1 names1 : List Int),Nam s r (p + 1) last1 count1 o1 names1→(∀ k,4 * s.length + 4≤k→sais_array.l0 (k + d + 1 + 1) k0 s last count o (tul s) (tyl s) row names (s.length : Int) (p : Int) = sais_array.l0 (k + d + 1) k0 s last1 count1 o1 (tul s) (tyl s) row names1 (s.length : Int) ((p + 1 : Nat) : Int)) →
    ∃ last' count' o' names',Nam s r s.length last' count' o' names'∧∀ k,4 * s.length + 4≤k →
     sais_array.l0 (k + (d + 1) + 1) k0 s last count o (tul s) (tyl s) row names (s.length : Int) (p : Int) = sais_array.l0 (k + 1) k0 s last' count' o' (tul s) (tyl s) row names' (s.length : Int) (s.length : Int):=by
   intro last1 count1 o1 names1 g1 g2
   obtain ⟨last',count',o',names',g3,g4⟩:=ih (p + 1) last1 count1 o1 names1 (by omega) (by omega) g1
   exact ⟨last',count',o',names',g3,fun k hk=>by rw [show k + (d + 1) + 1 = k + d + 1 + 1 by omega,g2 k hk,g4 k hk]⟩
  cases ht : trn s.length (ch s) i with
  | false =>
   refine go last count o names (h.skip hr hin ht hip) fun k hk=>?_
   conv=>lhs; rw [sais_array.l0]
   rw [if_pos (by omega),if_pos (by omega),if_pos (by omega),rd_nat,hrp,isTurn_f s (by omega) i hin,Option.bind_some,ht,if_neg (by simp),wp (x:=(p : Int) + 1) (y:=((p + 1 : Nat) : Int)) (by omega) (by omega) (by omega)]
  | true =>
   rcases Nat.eq_zero_or_pos o.length with z | z
   ·obtain ⟨e1,e2⟩:=h.none z
    have hN:=h.push hr ht hip (v:=0) (fun _=>rfl) (fun z2=>by omega)
    refine go _ _ _ _ hN fun k hk=>?_
    conv=>lhs; rw [sais_array.l0]
    rw [if_pos (by omega),if_pos (by omega),if_pos (by omega),rd_nat,hrp,isTurn_f s (by omega) i hin,Option.bind_some,ht,if_pos rfl,if_pos e1,if_pos (by omega),if_pos (by rw [h.nlen]; omega),if_pos (by omega),Int.toNat_natCast,wp (x:=(p : Int) + 1) (y:=((p + 1 : Nat) : Int)) (by omega) (by omega) (by omega),wp (x:=count + 1) (y:=0 + 1) (by omega) (by omega) (by omega),wp (x:=(0 : Int) + 1 - 1) (y:=0) (by omega) (by omega) (by omega)]
   ·obtain ⟨e1,e2⟩:=h.some z
    have ht2:=h.turn (o.length - 1) (by omega)
    have hl2:=trn_lt ht2.1
    have hb:=h.bound (o.length - 1) (by omega)
    cases he : eq3 s.length (ch s) (O o (o.length - 1)) i with
    | true =>
     have hN:=h.push hr ht hip (v:=count - 1) (fun z2=>by omega) (fun _=>by rw [he,if_pos rfl]; omega)
     refine go _ _ _ _ hN fun k hk=>?_
     have hsame:=same_f hn (O o (o.length - 1)) i (by omega) (by omega) (k + d + 1 - 4 * s.length - 4)
     rw [show k + d + 1 - 4 * s.length - 4 + 4 * s.length + 4 = k + d + 1 by omega,← e1,he] at hsame
     conv=>lhs; rw [sais_array.l0]
     rw [if_pos (by omega),if_pos (by omega),if_pos (by omega),rd_nat,hrp,isTurn_f s (by omega) i hin,Option.bind_some,ht,if_pos rfl,if_neg (by omega),hsame,Option.bind_some,if_pos rfl,if_pos (by omega),if_pos (by rw [h.nlen]; omega),if_pos (by omega),Int.toNat_natCast,wp (x:=(p : Int) + 1) (y:=((p + 1 : Nat) : Int)) (by omega) (by omega) (by omega),w64 (x:=count - 1) (by omega) (by omega),show count - 1 + 1 = count by omega]
    | false =>
     have hN:=h.push hr ht hip (v:=count) (fun z2=>by omega) (fun _=>by rw [he,if_neg (by simp)]; omega)
     refine go _ _ _ _ hN fun k hk=>?_
     have hsame:=same_f hn (O o (o.length - 1)) i (by omega) (by omega) (k + d + 1 - 4 * s.length - 4)
     rw [show k + d + 1 - 4 * s.length - 4 + 4 * s.length + 4 = k + d + 1 by omega,← e1,he] at hsame
     conv=>lhs; rw [sais_array.l0]
     rw [if_pos (by omega),if_pos (by omega),if_pos (by omega),rd_nat,hrp,isTurn_f s (by omega) i hin,Option.bind_some,ht,if_pos rfl,if_neg (by omega),hsame,Option.bind_some,if_neg (by simp),if_pos (by omega),if_pos (by rw [h.nlen]; omega),if_pos (by omega),Int.toNat_natCast,wp (x:=(p : Int) + 1) (y:=((p + 1 : Nat) : Int)) (by omega) (by omega) (by omega),w64 (x:=count + 1) (by omega) (by omega),wp (x:=count + 1 - 1) (y:=count) (by omega) (by omega) (by omega)]

theorem array_l1 (hn : s.length≤16777216) {count : Int} {o names : List Int} (hnl : names.length = s.length) (d : Nat) : ∀ a (R : List Int),(tul s).length - a = d→a≤(tul s).length→R.length = (tul s).length→(∀ b,b < a→ch R b = ch names (T s b)) →
  ∃ R',R'.length = (tul s).length∧(∀ b,b < (tul s).length→ch R' b = ch names (T s b))∧∀ k,
   sais_array.l1 (k + d + 1) k0 s count o (tul s) (tyl s) names R ((tul s).length : Int) (a : Int) = (sais_array.f k count R').bind fun t=>sais_array.l2 k k0 s o (tul s) (tyl s) t (t.length : Int) 0:=by
 have hm : (tul s).length≤s.length:=by rw [tul_length]; exact cn_le _
 induction d with
 | zero =>
  intro a R hd ha h1 h2
  obtain rfl : a = (tul s).length:=by omega
  exact ⟨R,h1,h2,fun k=>by rw [sais_array.l1,if_neg (by omega)]⟩
 | succ d ih =>
  intro a R hd ha h1 h2
  have ht:=T_spec (s:=s) (a:=a) (by omega)
  have hl:=trn_lt ht.1
  obtain ⟨R',g1,g2,g3⟩:=ih (a + 1) (R.set a (ch names (T s a))) (by omega) (by omega) (by rw [List.length_set]; exact h1) (fun b hb=>by
   rw [ch_set _ _ _ _ (by omega)]
   by_cases e : a = b
   ·rw [if_pos e,e]
   ·rw [if_neg e]; exact h2 b (by omega))
  refine ⟨R',g1,g2,fun k=>?_⟩
  rw [show k + (d + 1) + 1 = k + d + 1 + 1 by omega]
  conv=>lhs; rw [sais_array.l1]
  rw [if_pos (by omega),if_pos (by omega),if_pos (by omega),rd_nat,ht.2.1,if_pos (by omega),if_pos (by omega),if_pos (by omega),rd_nat,Int.toNat_natCast,wp (x:=(a : Int) + 1) (y:=((a + 1 : Nat) : Int)) (by omega) (by omega) (by omega)]
  exact g3 k

theorem array_l2 (hn : s.length≤16777216) {res : List Int} (hres : res.length = (tul s).length) (hin : ∀ q,q < (tul s).length→0≤ch res q∧ch res q < ((tul s).length : Int)) (d : Nat) : ∀ q (o : List Int),(tul s).length - q = d→q≤(tul s).length→o.length = (tul s).length→(∀ b,b < q→ch o b = ch (tul s) (ch res b).toNat) →
  ∃ o',o'.length = (tul s).length∧(∀ b,b < (tul s).length→ch o' b = ch (tul s) (ch res b).toNat)∧∀ k,
   sais_array.l2 (k + d + 1) k0 s o (tul s) (tyl s) res ((tul s).length : Int) (q : Int) = (sais_induce.f k k0 s (tyl s) o').bind fun t=>some t:=by
 have hm : (tul s).length≤s.length:=by rw [tul_length]; exact cn_le _
 induction d with
 | zero =>
  intro q o hd hq h1 h2
  obtain rfl : q = (tul s).length:=by omega
  exact ⟨o,h1,h2,fun k=>by rw [sais_array.l2,if_neg (by omega)]⟩
 | succ d ih =>
  intro q o hd hq h1 h2
  have hb:=hin q (by omega)
  obtain ⟨g,hg⟩ : ∃ g : Nat,ch res q = g:=⟨(ch res q).toNat,by omega⟩
  obtain ⟨o',g1,g2,g3⟩:=ih (q + 1) (o.set q (ch (tul s) g)) (by omega) (by omega) (by rw [List.length_set]; exact h1) (fun b hb=>by
   rw [ch_set _ _ _ _ (by omega)]
   by_cases e : q = b
   ·rw [if_pos e,← e,hg,Int.toNat_natCast]
   ·rw [if_neg e]; exact h2 b (by omega))
  refine ⟨o',g1,g2,fun k=>?_⟩
  rw [show k + (d + 1) + 1 = k + d + 1 + 1 by omega]
  conv=>lhs; rw [sais_array.l2]
  rw [if_pos (by omega),if_pos (by omega),if_pos (by omega),rd_nat,hg,if_pos (by omega),if_pos (by omega),if_pos (by omega),rd_nat,Int.toNat_natCast,wp (x:=(q : Int) + 1) (y:=((q + 1 : Nat) : Int)) (by omega) (by omega) (by omega)]
  exact g3 k
theorem array_f (N : Nat) : ∀ (k0 : Int) (s : List Int),s.length≤N→Ok k0 s→∃ K l,(∀ k,K≤k→sais_array.f k k0 s = some l)∧IsSA s l:=by
 induction N with
 | zero =>
  intro k0 s hN hok
  obtain ⟨K,row,h1,h2,h3⟩:=induce_f hok (tul_ord s) (by rw [tul_length]; have:=cn_le (n:=s.length) (trn s.length (ch s)); have:=hok.2.2.1; omega)
  have hl : s.length = 0:=by omega
  have htl : (tul s).length = 0:=by rw [tul_length]; have:=cn_le (n:=s.length) (trn s.length (ch s)); omega
  have ho0 : tul s = []:=List.eq_nil_of_length_eq_zero htl
  refine ⟨K + s.length + 5,row,fun k hk=>?_,h2,fun i hi=>by omega⟩
  obtain ⟨k,rfl⟩ : ∃ m,k = m + 1:=⟨k - 1,by omega⟩
  have hL:=lms_f s (by omega) (k - s.length - 1)
  have hT:=types_f s (by omega) (k - s.length - 1)
  rw [show k - s.length - 1 + s.length + 1 = k by omega] at hL hT
  have hI:=h1 k (by omega)
  have hI2:=h1 (k - 1) (by omega)
  rw [sais_array.f,hL,Option.bind_some,hT,Option.bind_some,hI,Option.bind_some,if_pos (by omega),if_pos (by omega)]
  obtain ⟨k,rfl⟩ : ∃ m,k = m + 1:=⟨k - 1,by omega⟩
  rw [sais_array.l0,if_neg (by omega),if_neg (by omega)]
  rw [Nat.add_sub_cancel,ho0] at hI2
  rw [hI2]; rfl
 | succ N ih =>
  intro k0 s hN hok
  have hn:=hok.2.2.1
  have hml : (tul s).length≤s.length:=by rw [tul_length]; exact cn_le _
  obtain ⟨K,row,h1,h2,h3⟩:=induce_f hok (tul_ord s) (by omega)
  have hr:=(tul_ord s).inj
  have hrep : (List.replicate s.length (0 : Int)).length = s.length:=by simp
  have hN0 : Nam s (fun t=>cn t (trn s.length (ch s))) 0 (-1) 0 [] (List.replicate s.length 0):=by
   refine ⟨?_,hrep,fun a ha=>?_,fun t _ h=>by omega,fun a ha=>?_,fun a ha=>?_,fun ha=>?_,fun _=>⟨rfl,rfl⟩,fun ha=>?_,fun a ha=>?_,⟨Int.le_refl _,Int.le_refl _⟩⟩
   ·exact (cn_false fun j _=>by simp).symm
   all_goals (simp at ha)
  obtain ⟨last,count,o,names,n1,n2⟩:=array_l0 (k0:=k0) hn hr h2 h3 s.length 0 (-1) 0 [] (List.replicate s.length 0) (by omega) (by omega) hN0
  have hom : o.length = (tul s).length:=by
   rw [n1.olen,tul_length]
   refine cn_congr fun j hj=>?_
   rw [decide_eq_true (rk3_lt hj),Bool.and_true]
  have hNamed : Named s.length (ch s) (fun t=>cn t (trn s.length (ch s))) o.length (O o) (fun t=>ch names t):=⟨fun a ha=>(n1.turn a ha).1,n1.sorted,n1.step⟩
  have hNames:=hNamed.names (fun t ht=>n1.all t ht (rk3_lt (by have:=trn_lt ht; omega)))
  have hcnt:=n1.le
  by_cases hc : count < ((tul s).length : Int)
  ·-- two have one name
   have hm0 : 0 < s.length:=by omega
   have hmlt:=tul_lt hm0
   obtain ⟨R,r1,r2,r3⟩:=array_l1 (k0:=k0) (count:=count) (o:=o) hn n1.nlen (tul s).length 0 (List.replicate (tul s).length 0) (by omega) (by omega) (by simp) (fun b hb=>by omega)
   have hnmT : ∀ b,b < (tul s).length→∃ a,a < o.length∧O o a = T s b:=fun b hb=>n1.all _ (T_spec hb).1 (rk3_lt (by have:=trn_lt (T_spec hb).1; omega))
   have hokR : Ok count R:=by
    refine ⟨hcnt.1,by omega,by omega,fun q hq=>?_⟩
    rw [r2 q (by omega)]
    obtain ⟨a,ha,hae⟩:=hnmT q (by omega)
    rw [← hae]; exact n1.bound a ha
   obtain ⟨K2,res,s1,s2,s3⟩:=ih count R (by omega) hokR
   have hred : ∀ a b,a < (tul s).length→b < (tul s).length→slt (tul s).length (ch R) a b = slt s.length (ch s) (T s a) (T s b):=by
    intro a b ha hb
    rw [slt_congr (c':=fun a=>ch names (T s a)) r2]
    exact reduced (turns s) hNames ha hb
   rw [r1] at s2 s3
   have hin : ∀ q,q < (tul s).length→0≤ch res q∧ch res q < ((tul s).length : Int):=by
    intro q hq
    obtain ⟨a,ha,hae⟩:=rank_onto (c:=ch R) hq
    rw [← hae,s3 a ha]; omega
   obtain ⟨o2,t1,t2,t3⟩:=array_l2 (k0:=k0) hn s2 hin (tul s).length 0 o (by omega) (by omega) hom (fun b hb=>by omega)
   have hord : Ord s o2 (fun t=>rank (tul s).length (ch R) (cn t (trn s.length (ch s)))):=by
    have key : ∀ a,a < (tul s).length→ch o2 (rank (tul s).length (ch R) a) = (T s a : Int):=by
     intro a ha
     rw [t2 _ (rank_lt ha),s3 a ha,Int.toNat_natCast,(T_spec ha).2.1]
    refine ⟨fun q hq=>?_,fun t ht=>?_⟩
    ·rw [t1] at hq
     obtain ⟨a,ha,hae⟩:=rank_onto (c:=ch R) hq
     have:=T_spec ha
     exact ⟨T s a,this.1,by rw [← hae]; exact key a ha,by simp only [this.2.2]; exact hae⟩
    ·have h4:=(tul_ord s).all t ht
     have h5 : T s (cn t (trn s.length (ch s))) = t:=by unfold T; rw [h4.2]; rfl
     refine ⟨by rw [t1]; exact rank_lt h4.1,?_⟩
     have:=key _ h4.1
     rw [h5] at this; exact this
   have hown : Own s.length (ch s) (fun t=>rank (tul s).length (ch R) (cn t (trn s.length (ch s)))):=by
    intro t u ht hu
    have h4:=(tul_ord s).all t ht
    have h5 : T s (cn t (trn s.length (ch s))) = t:=by unfold T; rw [h4.2]; rfl
    have h6:=(tul_ord s).all u hu
    have h7 : T s (cn u (trn s.length (ch s))) = u:=by unfold T; rw [h6.2]; rfl
    simp only
    rw [rank_iff h4.1 h6.1,hred _ _ h4.1 h6.1,h5,h7]
   obtain ⟨K3,row3,u1,u2,u3⟩:=induce_f hok hord (by omega)
   refine ⟨K + K2 + K3 + 20 * s.length + 30,row3,fun k hk=>?_,u2,fun i hi=>by rw [← rk3_own hown]; exact u3 i hi⟩
   obtain ⟨k,rfl⟩ : ∃ m,k = m + 1:=⟨k - 1,by omega⟩
   have hL:=lms_f s (by omega) (k - s.length - 1)
   have hT:=types_f s (by omega) (k - s.length - 1)
   rw [show k - s.length - 1 + s.length + 1 = k by omega] at hL hT
   rw [sais_array.f,hL,Option.bind_some,hT,Option.bind_some,h1 k (by omega),Option.bind_some,if_pos (by omega),if_pos (by omega),h2,Int.toNat_natCast]
   have g0:=n2 (k - s.length - 1) (by omega)
   rw [show k - s.length - 1 + s.length + 1 = k by omega,show ((0 : Nat) : Int) = 0 from rfl] at g0
   rw [g0,sais_array.l0,if_neg (by omega),if_pos hc,if_pos (by omega),if_pos (by omega),Int.toNat_natCast]
   have g1:=r3 (k - s.length - 1 - (tul s).length - 1)
   rw [show k - s.length - 1 - (tul s).length - 1 + (tul s).length + 1 = k - s.length - 1 by omega,show ((0 : Nat) : Int) = 0 from rfl] at g1
   rw [g1,s1 _ (by omega),Option.bind_some,s2]
   have g2:=t3 (k - s.length - 1 - (tul s).length - 1 - (tul s).length - 1)
   rw [show k - s.length - 1 - (tul s).length - 1 - (tul s).length - 1 + (tul s).length + 1 = k - s.length - 1 - (tul s).length - 1 by omega,show ((0 : Nat) : Int) = 0 from rfl] at g2
   rw [g2,u1 _ (by omega)]; rfl
  ·-- all have names of their own
   have hcm : count = (tul s).length:=by omega
   have up : ∀ a,a < o.length→ch names (O o a)≤(a : Int):=by
    intro a
    induction a with
    | zero=>intro ha; rw [n1.first ha]; exact Int.le_refl _
    | succ a ih2 =>
     intro ha
     have:=ih2 (by omega)
     have h4:=n1.step a ha
     split at h4 <;> omega
   have down : ∀ e,e < o.length→ch names (O o (o.length - 1 - e)) = ((o.length - 1 - e : Nat) : Int):=by
    intro e
    induction e with
    | zero=>intro ha; have:=(n1.some (by omega)).2; rw [Nat.sub_zero]; omega
    | succ e ih2 =>
     intro ha
     have h4:=ih2 (by omega)
     have h5:=n1.step (o.length - 1 - (e + 1)) (by omega)
     rw [show o.length - 1 - (e + 1) + 1 = o.length - 1 - e by omega] at h5
     have h6:=up (o.length - 1 - (e + 1)) (by omega)
     split at h5 <;> omega
   have hnm : ∀ a,a < o.length→ch names (O o a) = (a : Int):=by
    intro a ha
    have:=down (o.length - 1 - a) (by omega)
    rw [show o.length - 1 - (o.length - 1 - a) = a by omega] at this; exact this
   have hord : Ord s o (fun t=>(ch names t).toNat):=by
    refine ⟨fun a ha=>⟨O o a,(n1.turn a ha).1,(n1.turn a ha).2.1,by simp only [hnm a ha]; rfl⟩,fun t ht=>?_⟩
    obtain ⟨a,ha,hae⟩:=n1.all t ht (rk3_lt (by have:=trn_lt ht; omega))
    have h4:=hnm a ha
    rw [hae] at h4
    rw [h4,Int.toNat_natCast]
    exact ⟨ha,by rw [← hae]; exact (n1.turn a ha).2.1⟩
   have hown : Own s.length (ch s) (fun t=>(ch names t).toNat):=by
    intro t u ht hu
    obtain ⟨a,ha,hae⟩:=n1.all t ht (rk3_lt (by have:=trn_lt ht; omega))
    obtain ⟨b,hb,hbe⟩:=n1.all u hu (rk3_lt (by have:=trn_lt hu; omega))
    have h4:=hnm a ha
    have h5:=hnm b hb
    rw [hae] at h4; rw [hbe] at h5
    simp only
    rw [h4,h5,Int.toNat_natCast,Int.toNat_natCast]
    by_cases e : t = u
    ·subst e
     rw [slt_irr]
     have : a = b:=by omega
     exact ⟨fun h=>by omega,fun h=>by cases h⟩
    ·have g:=hNames t u ht hu e
     have g':=hNames u t hu ht (Ne.symm e)
     simp only [h4,h5] at g g'
     constructor
     ·intro h; exact g.1 (by omega)
     ·intro h
      rcases Nat.lt_trichotomy a b with z | z | z
      ·exact z
      ·have : t = u:=by rw [← hae,← hbe,z]
       exact absurd this e
      ·have:=g'.1 (by omega)
       rw [slt_asymm h] at this; cases this
   obtain ⟨K3,row3,u1,u2,u3⟩:=induce_f hok hord (by omega)
   refine ⟨K + K3 + 20 * s.length + 30,row3,fun k hk=>?_,u2,fun i hi=>by rw [← rk3_own hown]; exact u3 i hi⟩
   obtain ⟨k,rfl⟩ : ∃ m,k = m + 1:=⟨k - 1,by omega⟩
   have hL:=lms_f s (by omega) (k - s.length - 1)
   have hT:=types_f s (by omega) (k - s.length - 1)
   rw [show k - s.length - 1 + s.length + 1 = k by omega] at hL hT
   rw [sais_array.f,hL,Option.bind_some,hT,Option.bind_some,h1 k (by omega),Option.bind_some,if_pos (by omega),if_pos (by omega),h2,Int.toNat_natCast]
   have g0:=n2 (k - s.length - 1) (by omega)
   rw [show k - s.length - 1 + s.length + 1 = k by omega,show ((0 : Nat) : Int) = 0 from rfl] at g0
   rw [g0,sais_array.l0,if_neg (by omega),if_neg hc,u1 _ (by omega)]; rfl
theorem Array_ok (hok : Ok k0 s) : ∃ K l,(∀ k,K≤k→sais_Array.f k k0 s = some (l,0))∧IsSA s l:=by
 obtain ⟨K,l,h1,h2⟩:=array_f s.length k0 s (Nat.le_refl _) hok
 refine ⟨K + s.length + 2,l,fun k hk=>?_,h2⟩
 unfold sais_Array.f
 have:=check_ok hok (k - s.length - 2)
 rw [show k - s.length - 2 + s.length + 2 = k by omega] at this
 rw [this,Option.bind_some,if_pos rfl,h1 k (by omega)]; rfl
end
end Go.Proofs.Ythcnnfahlhklgaa.SD
end

section
/- Plain mathematics: how much two suffixes have in common; what neighbours in the order have; the walk by places (Kasai). No program is in sight. -/
namespace Go.Proofs.Ythcnnfahlhklgaa.SM
def com (n : Nat) (c : Nat→Int) (i j : Nat) : Nat :=
 if _h : i < n then (if j < n∧c i = c j then com n c (i + 1) (j + 1) + 1 else 0) else 0
termination_by n - i

section
variable {n : Nat} {c : Nat→Int}
theorem com_step {i j : Nat} (hi : i < n) (hj : j < n) (h : c i = c j) : com n c i j = com n c (i + 1) (j + 1) + 1:=by
 rw [com,dif_pos hi,if_pos ⟨hj,h⟩]
theorem com_stop {i j : Nat} (h : ¬ (i < n∧j < n∧c i = c j)) : com n c i j = 0:=by
 rw [com]
 by_cases hi : i < n
 ·rw [dif_pos hi,if_neg (fun h'=>h ⟨hi,h'⟩)]
 ·rw [dif_neg hi]
theorem com_pos {i j : Nat} (h : 0 < com n c i j) : i < n∧j < n∧c i = c j:=by
 by_cases h' : i < n∧j < n∧c i = c j
 ·exact h'
 ·rw [com_stop h'] at h; omega
theorem com_pred {i j : Nat} (h : 0 < com n c i j) : com n c (i + 1) (j + 1) + 1 = com n c i j:=by
 obtain ⟨h1,h2,h3⟩:=com_pos h
 exact (com_step h1 h2 h3).symm
theorem com_comm' (d : Nat) : ∀ i j,n - i = d→com n c i j = com n c j i:=by
 induction d with
 | zero=>intro i j h; rw [com_stop (by omega),com_stop (by omega)]
 | succ d ih =>
  intro i j h
  by_cases h' : i < n∧j < n∧c i = c j
  ·rw [com_step h'.1 h'.2.1 h'.2.2,com_step h'.2.1 h'.1 h'.2.2.symm,ih (i + 1) (j + 1) (by omega)]
  ·rw [com_stop h',com_stop (fun h2=>h' ⟨h2.2.1,h2.1,h2.2.2.symm⟩)]
theorem com_comm (i j : Nat) : com n c i j = com n c j i:=com_comm' _ i j rfl
theorem com_le' (d : Nat) : ∀ i j,n - i = d→com n c i j≤n - i∧com n c i j≤n - j:=by
 induction d with
 | zero=>intro i j h; rw [com_stop (by omega)]; omega
 | succ d ih =>
  intro i j h
  by_cases h' : i < n∧j < n∧c i = c j
  ·rw [com_step h'.1 h'.2.1 h'.2.2]; have:=ih (i + 1) (j + 1) (by omega); omega
  ·rw [com_stop h']; omega
theorem com_le (i j : Nat) : com n c i j≤n - i∧com n c i j≤n - j:=com_le' _ i j rfl
theorem com_from (h : Nat) : ∀ i j,h≤com n c i j→com n c (i + h) (j + h) + h = com n c i j:=by
 induction h with
 | zero=>intro i j _; rfl
 | succ h ih =>
  intro i j hh
  have h1:=com_pred (n:=n) (c:=c) (i:=i) (j:=j) (by omega)
  have h2:=ih (i + 1) (j + 1) (by omega)
  rw [show i + (h + 1) = i + 1 + h by omega,show j + (h + 1) = j + 1 + h by omega]
  omega
theorem com_same (d : Nat) : ∀ i j,n - i = d→∀ q,q < com n c i j→i + q < n∧j + q < n∧c (i + q) = c (j + q):=by
 induction d with
 | zero=>intro i j h q hq; rw [com_stop (by omega)] at hq; omega
 | succ d ih =>
  intro i j h q hq
  have h1:=com_pos (n:=n) (c:=c) (i:=i) (j:=j) (by omega)
  have h2:=com_pred (n:=n) (c:=c) (i:=i) (j:=j) (by omega)
  cases q with
  | zero=>exact h1
  | succ q =>
   have h3:=ih (i + 1) (j + 1) (by omega) q (by omega)
   rw [show i + (q + 1) = i + 1 + q by omega,show j + (q + 1) = j + 1 + q by omega]
   exact h3
theorem com_get {i j q : Nat} (hq : q < com n c i j) : i + q < n∧j + q < n∧c (i + q) = c (j + q):=com_same _ i j rfl q hq
theorem com_end {i j : Nat} : ¬ (i + com n c i j < n∧j + com n c i j < n∧c (i + com n c i j) = c (j + com n c i j)):=by
 intro h
 have h1:=com_from (n:=n) (c:=c) (com n c i j) i j (Nat.le_refl _)
 have h2:=com_step h.1 h.2.1 h.2.2
 omega
theorem com_ge (m : Nat) : ∀ i j,(∀ q,q < m→i + q < n∧j + q < n∧c (i + q) = c (j + q))→m≤com n c i j:=by
 induction m with
 | zero=>intro i j _; omega
 | succ m ih =>
  intro i j h
  have h0:=h 0 (by omega)
  simp only [Nat.add_zero] at h0
  rw [com_step h0.1 h0.2.1 h0.2.2]
  have:=ih (i + 1) (j + 1) (fun q hq=>by
   have:=h (q + 1) (by omega)
   rw [show i + (q + 1) = i + 1 + q by omega,show j + (q + 1) = j + 1 + q by omega] at this
   exact this)
  omega
theorem com_self {i : Nat} (hi : i≤n) : com n c i i = n - i:=by
 have h1:=com_ge (n:=n) (c:=c) (n - i) i i (fun q hq=>⟨by omega,by omega,rfl⟩)
 have h2:=com_le (n:=n) (c:=c) i i
 omega
theorem slt_com' (d : Nat) : ∀ i j,n - i = d→(slt n c i j = true↔j + com n c i j < n∧(i + com n c i j < n→c (i + com n c i j) < c (j + com n c i j))):=by
 induction d with
 | zero =>
  intro i j h
  rw [slt_end (by omega),com_stop (by omega)]
  simp only [Nat.add_zero]
  exact ⟨fun hj=>⟨hj,fun hi=>by omega⟩,fun h=>h.1⟩
 | succ d ih =>
  intro i j h
  have hi : i < n:=by omega
  by_cases hj : j < n
  ·rw [slt_in hi hj]
   by_cases he : c i = c j
   ·rw [com_step hi hj he,ih (i + 1) (j + 1) (by omega),show i + (com n c (i + 1) (j + 1) + 1) = i + 1 + com n c (i + 1) (j + 1) by omega,show j + (com n c (i + 1) (j + 1) + 1) = j + 1 + com n c (i + 1) (j + 1) by omega]
    constructor
    ·rintro (h1 | h1)
     ·omega
     ·exact h1.2
    ·exact fun h1=>.inr ⟨he,h1⟩
   ·rw [com_stop (fun h'=>he h'.2.2)]
    simp only [Nat.add_zero]
    constructor
    ·rintro (h1 | h1)
     ·exact ⟨hj,fun _=>h1⟩
     ·exact absurd h1.1 he
    ·exact fun h1=>.inl (h1.2 hi)
  ·rw [slt_to_end (by omega),com_stop (fun h'=>hj h'.2.1)]
   simp only [Nat.add_zero]
   constructor
   ·intro h'; cases h'
   ·intro h'; exact absurd h'.1 hj
theorem slt_com {i j : Nat} : slt n c i j = true↔j + com n c i j < n∧(i + com n c i j < n→c (i + com n c i j) < c (j + com n c i j)):=slt_com' _ i j rfl
theorem slt_tail {i j : Nat} (h : slt n c i j = true) (hp : 0 < com n c i j) : slt n c (i + 1) (j + 1) = true:=by
 obtain ⟨h1,h2,h3⟩:=com_pos hp
 rcases (slt_in h1 h2).1 h with h4 | h4
 ·omega
 ·exact h4.2
theorem com_mid' (d : Nat) : ∀ i j k,n - i = d→slt n c i j = true→slt n c j k = true→com n c i k = min (com n c i j) (com n c j k):=by
 induction d with
 | zero =>
  intro i j k h h1 h2
  rw [com_stop (show ¬ (i < n∧k < n∧c i = c k) by omega),com_stop (show ¬ (i < n∧j < n∧c i = c j) by omega)]
  omega
 | succ d ih =>
  intro i j k h h1 h2
  have hi : i < n:=by omega
  have hj : j < n:=by
   rcases Nat.lt_or_ge j n with h3 | h3
   ·exact h3
   ·rw [slt_to_end h3] at h1; cases h1
  have hk : k < n:=by
   rcases Nat.lt_or_ge k n with h3 | h3
   ·exact h3
   ·rw [slt_to_end h3] at h2; cases h2
  rcases (slt_in hi hj).1 h1 with a | ⟨a,a'⟩ <;> rcases (slt_in hj hk).1 h2 with b | ⟨b,b'⟩
  ·rw [com_stop (show ¬ (i < n∧k < n∧c i = c k) by omega),com_stop (show ¬ (i < n∧j < n∧c i = c j) by omega)]; omega
  ·rw [com_stop (show ¬ (i < n∧k < n∧c i = c k) by omega),com_stop (show ¬ (i < n∧j < n∧c i = c j) by omega)]; omega
  ·rw [com_stop (show ¬ (i < n∧k < n∧c i = c k) by omega),com_stop (show ¬ (j < n∧k < n∧c j = c k) by omega)]; omega
  ·rw [com_step hi hk (by omega),com_step hi hj a,com_step hj hk b,ih (i + 1) (j + 1) (k + 1) (by omega) a' b']; omega
theorem com_mid {i j k : Nat} (h1 : slt n c i j = true) (h2 : slt n c j k = true) : com n c i k = min (com n c i j) (com n c j k):=com_mid' _ i j k rfl h1 h2
theorem kasai {p : Nat→Nat} (hp : ∀ i,i < n→p (rank n c i) = i) {i : Nat} (hi : i + 1 < n) (hr : 0 < rank n c i) :
  com n c (p (rank n c i - 1)) i≤com n c (p (rank n c (i + 1) - 1)) (i + 1) + 1∧(rank n c (i + 1) = 0→com n c (p (rank n c i - 1)) i≤1):=by
 obtain ⟨j,hj,hjr⟩:=rank_onto (n:=n) (c:=c) (q:=rank n c i - 1) (by have:=rank_lt (c:=c) (show i < n by omega); omega)
 have hpj : p (rank n c i - 1) = j:=by rw [← hjr]; exact hp j hj
 have hji : slt n c j i = true:=(rank_iff hj (by omega)).1 (by omega)
 rw [hpj]
 by_cases h1 : com n c j i≤1
 ·exact ⟨by omega,fun _=>h1⟩
 ·have h2:=slt_tail hji (by omega)
  have h3:=com_pred (n:=n) (c:=c) (i:=j) (j:=i) (by omega)
  have h4:=com_pos (n:=n) (c:=c) (i:=j + 1) (j:=i + 1) (by omega)
  have h5:=rank_mono h4.1 h2
  obtain ⟨q,hq,hqr⟩:=rank_onto (n:=n) (c:=c) (q:=rank n c (i + 1) - 1) (by have:=rank_lt (c:=c) hi; omega)
  have hpq : p (rank n c (i + 1) - 1) = q:=by rw [← hqr]; exact hp q hq
  rw [hpq]
  refine ⟨?_,fun h=>by omega⟩
  by_cases h6 : q = j + 1
  ·subst h6; omega
  ·have h7 : slt n c (j + 1) q = true:=(rank_iff h4.1 hq).1 (by
    have : rank n c (j + 1) ≠ rank n c q:=fun e=>h6 (rank_inj h4.1 hq e).symm
    omega)
   have h8 : slt n c q (i + 1) = true:=(rank_iff hq hi).1 (by omega)
   have:=com_mid h7 h8
   omega
theorem com_range {p : Nat→Nat} (hp : ∀ i,i < n→p (rank n c i) = i) (m r : Nat) (hr : r + (m + 1) < n) : ∀ k,k≤m→com n c (p r) (p (r + (m + 1)))≤com n c (p (r + k)) (p (r + k + 1)):=by
 have hs : ∀ a b,a < b→b < n→slt n c (p a) (p b) = true∧p a < n∧p b < n:=by
  intro a b hab hb
  obtain ⟨i,hi,hir⟩:=rank_onto (n:=n) (c:=c) (q:=a) (by omega)
  obtain ⟨j,hj,hjr⟩:=rank_onto (n:=n) (c:=c) (q:=b) hb
  rw [← hir,← hjr,hp i hi,hp j hj]
  exact ⟨(rank_iff hi hj).1 (by omega),hi,hj⟩
 intro k hk
 have h1 : com n c (p r) (p (r + (m + 1)))≤com n c (p (r + k)) (p (r + (m + 1))):=by
  by_cases e : k = 0
  ·subst e; exact Nat.le_refl _
  ·rw [com_mid (hs r (r + k) (by omega) (by omega)).1 (hs (r + k) (r + (m + 1)) (by omega) hr).1]; omega
 by_cases e : k = m
 ·subst e; rw [show r + k + 1 = r + (k + 1) by omega]; exact h1
 ·have:=com_mid (hs (r + k) (r + k + 1) (by omega) (by omega)).1 (hs (r + k + 1) (r + (m + 1)) (by omega) hr).1
  omega
theorem com_range_min {p : Nat→Nat} (hp : ∀ i,i < n→p (rank n c i) = i) (m r : Nat) (hr : r + (m + 1) < n) : ∃ k,k≤m∧com n c (p r) (p (r + (m + 1))) = com n c (p (r + k)) (p (r + k + 1)):=by
 have hs : ∀ a b,a < b→b < n→slt n c (p a) (p b) = true:=by
  intro a b hab hb
  obtain ⟨i,hi,hir⟩:=rank_onto (n:=n) (c:=c) (q:=a) (by omega)
  obtain ⟨j,hj,hjr⟩:=rank_onto (n:=n) (c:=c) (q:=b) hb
  rw [← hir,← hjr,hp i hi,hp j hj]
  exact (rank_iff hi hj).1 (by omega)
 induction m with
 | zero=>exact ⟨0,Nat.le_refl _,rfl⟩
 | succ m ih =>
  obtain ⟨k,hk,e⟩:=ih (by omega)
  have h1:=com_mid (hs r (r + (m + 1)) (by omega) (by omega)) (hs (r + (m + 1)) (r + (m + 1 + 1)) (by omega) hr)
  by_cases h : com n c (p r) (p (r + (m + 1)))≤com n c (p (r + (m + 1))) (p (r + (m + 1 + 1)))
  ·exact ⟨k,by omega,by rw [h1,← e]; omega⟩
  ·exact ⟨m + 1,Nat.le_refl _,by rw [h1,show r + (m + 1) + 1 = r + (m + 1 + 1) by omega]; omega⟩
end
end Go.Proofs.Ythcnnfahlhklgaa.SM
end

section
/- Bytes as strings: equal, less; the suffixes' order is that of the strings. -/
namespace Go.Proofs.Ythcnnfahlhklgaa.SD
open Go.RowKit Go.Proofs.Ythcnnfahlhklgaa Go.Proofs.Ythcnnfahlhklgaa.X Go.Proofs.Ythcnnfahlhklgaa.SM Go.Proofs.YthcnnfahlhklgaaW.PrintWords Go.Proofs.YthcnnfahlhklgaaW.PrintLast

def u8 (x : Int) : UInt8:=UInt8.ofNat x.toNat
theorem sl_eq (l : List Int) : (strOfNums l).toList = l.map u8:=by
 rw [ByteArray.toList_eq]; simp [strOfNums,u8]
theorem u8_toNat {x : Int} (h0 : 0≤x) (h1 : x < 256) : (u8 x).toNat = x.toNat:=by
 unfold u8
 rw [UInt8.toNat_ofNat']
 omega
theorem u8_inj {x y : Int} (hx : 0≤x∧x < 256) (hy : 0≤y∧y < 256) (h : u8 x = u8 y) : x = y:=by
 have h1:=u8_toNat hx.1 hx.2
 have h2:=u8_toNat hy.1 hy.2
 rw [h] at h1
 omega
theorem u8_lt {x y : Int} (hx : 0≤x∧x < 256) (hy : 0≤y∧y < 256) : u8 x < u8 y↔x < y:=by
 rw [UInt8.lt_iff_toNat_lt,u8_toNat hx.1 hx.2,u8_toNat hy.1 hy.2]
 omega
def BL (l : List Int) : Prop:=∀ x ∈ l,0≤x∧x < 256
theorem BL.tail {a : Int} {l : List Int} (h : BL (a :: l)) : BL l:=fun x hx=>h x (List.mem_cons_of_mem _ hx)
theorem BL.head {a : Int} {l : List Int} (h : BL (a :: l)) : 0≤a∧a < 256:=h a List.mem_cons_self
theorem BL.drop {l : List Int} (h : BL l) (i : Nat) : BL (l.drop i):=fun x hx=>h x (List.mem_of_mem_drop hx)
theorem BL.take {l : List Int} (h : BL l) (i : Nat) : BL (l.take i):=fun x hx=>h x (List.mem_of_mem_take hx)
def lessL : List Int→List Int→Bool
 | _,[]=>false
 | [],_ :: _=>true
 | a :: x,b :: y=>decide (a < b) || (decide (a = b) && lessL x y)
theorem less_sl' : ∀ {a b : List Int},BL a→BL b→Op.bytesLess (a.map u8) (b.map u8) = lessL a b
 | a,[],_,_=>by cases a <;> rfl
 | [],_ :: _,_,_=>rfl
 | x :: a,y :: b,ha,hb=>by
  have ih:=less_sl' ha.tail hb.tail
  simp only [List.map_cons,Op.bytesLess,lessL,ih]
  have h1 : decide (u8 x < u8 y) = decide (x < y):=decide_eq_decide.mpr (u8_lt ha.head hb.head)
  have h2 : (u8 x == u8 y) = decide (x = y):=by
   by_cases e : x = y
   ·subst e; simp
   ·have : u8 x ≠ u8 y:=fun h=>e (u8_inj ha.head hb.head h)
    simp [e,this]
  rw [h1,h2]
theorem less_sl {a b : List Int} (ha : BL a) (hb : BL b) : Op.bytesLess (strOfNums a).toList (strOfNums b).toList = lessL a b:=by
 rw [sl_eq,sl_eq]; exact less_sl' ha hb
theorem eq_sl' : ∀ {a b : List Int},BL a→BL b→(a.map u8 = b.map u8↔a = b)
 | [],[],_,_=>by simp
 | [],_ :: _,_,_=>by simp
 | _ :: _,[],_,_=>by simp
 | x :: a,y :: b,ha,hb=>by
  have ih:=eq_sl' ha.tail hb.tail
  simp only [List.map_cons,List.cons.injEq,ih]
  exact ⟨fun h=>⟨u8_inj ha.head hb.head h.1,h.2⟩,fun h=>⟨by rw [h.1],h.2⟩⟩
theorem eq_sl {a b : List Int} (ha : BL a) (hb : BL b) : (strOfNums a).toList = (strOfNums b).toList↔a = b:=by
 rw [sl_eq,sl_eq]; exact eq_sl' ha hb

section
variable {s : List Int}
theorem drop_cons {i : Nat} (h : i < s.length) : s.drop i = ch s i :: s.drop (i + 1):=by
 rw [List.drop_eq_getElem_cons h]
 congr 1
 unfold ch
 rw [List.getD_eq_getElem?_getD,List.getElem?_eq_getElem h]; rfl
theorem lessL_slt (d : Nat) : ∀ i j,s.length - i = d→lessL (s.drop i) (s.drop j) = slt s.length (ch s) i j:=by
 induction d with
 | zero =>
  intro i j h
  rw [List.drop_eq_nil_of_le (show s.length≤i by omega)]
  by_cases hj : j < s.length
  ·rw [drop_cons hj,(slt_end (by omega)).2 hj]; rfl
  ·rw [List.drop_eq_nil_of_le (by omega),slt_to_end (by omega)]; rfl
 | succ d ih =>
  intro i j h
  by_cases hj : j < s.length
  ·rw [drop_cons (show i < s.length by omega),drop_cons hj]
   simp only [lessL]
   rw [ih (i + 1) (j + 1) (by omega),Bool.eq_iff_iff,slt_in (by omega) hj]
   simp
  ·rw [List.drop_eq_nil_of_le (show s.length≤j by omega),slt_to_end (by omega)]
   cases s.drop i <;> rfl
theorem lessL_of : ∀ (p : Nat) {a b : List Int},p < b.length→(∀ q,q < p→q < a.length∧ch a q = ch b q)→(a.length≤p∨ch a p < ch b p)→lessL a b = true
 | p,a,[],h,_,_=>by simp at h
 | p,[],y :: b,_,_,_=>rfl
 | 0,x :: a,y :: b,_,_,h=>by
  have h1 : ch (x :: a) 0 = x:=rfl
  have h2 : ch (y :: b) 0 = y:=rfl
  rw [h1,h2] at h
  simp only [List.length_cons] at h
  have : x < y:=by omega
  simp [lessL,this]
 | p + 1,x :: a,y :: b,hp,hq,h=>by
  have h0:=(hq 0 (by omega)).2
  have h1 : ch (x :: a) 0 = x:=rfl
  have h2 : ch (y :: b) 0 = y:=rfl
  rw [h1,h2] at h0
  subst h0
  have hs : ∀ (z : Int) (l : List Int) (q : Nat),ch (z :: l) (q + 1) = ch l q:=fun z l q=>by unfold ch; rfl
  have:=lessL_of p (a:=a) (b:=b) (by simp only [List.length_cons] at hp; omega) (fun q hlt=>by
   have h3:=hq (q + 1) (by omega)
   rw [hs,hs] at h3
   simp only [List.length_cons] at h3
   exact ⟨by omega,h3.2⟩) (by
   rw [hs,hs] at h
   simp only [List.length_cons] at h
   omega)
  simp [lessL,this]
theorem ch_take (i q : Nat) : ch (s.take i) q = if q < i then ch s q else 0:=by
 unfold ch
 rw [List.getD_eq_getElem?_getD,List.getElem?_take]
 split
 ·rw [List.getD_eq_getElem?_getD]
 ·rfl
theorem ch_drop (i q : Nat) : ch (s.drop i) q = ch s (i + q):=by
 unfold ch
 rw [List.getD_eq_getElem?_getD,List.getD_eq_getElem?_getD,List.getElem?_drop]
end
end Go.Proofs.Ythcnnfahlhklgaa.SD
end

section
/- How many two lists have in common. -/
namespace Go.Proofs.Ythcnnfahlhklgaa.SD
open Go.RowKit Go.Proofs.Ythcnnfahlhklgaa Go.Proofs.Ythcnnfahlhklgaa.X Go.Proofs.Ythcnnfahlhklgaa.SM Go.Proofs.YthcnnfahlhklgaaW.PrintWords Go.Proofs.YthcnnfahlhklgaaW.PrintLast

section
variable {s : List Int}
attribute [local irreducible] cn ch
def cml (u v : List Int) (q : Nat) : Nat :=
 if _h : q < u.length then (if q < v.length∧ch u q = ch v q then cml u v (q + 1) + 1 else 0) else 0
termination_by u.length - q
theorem cml_com {i j : Nat} (d : Nat) : ∀ q,s.length - (i + q) = d→cml (s.drop i) (s.drop j) q = com s.length (ch s) (i + q) (j + q):=by
 induction d with
 | zero =>
  intro q h
  rw [cml,dif_neg (by rw [List.length_drop]; omega),com_stop (by omega)]
 | succ d ih =>
  intro q h
  rw [cml,dif_pos (by rw [List.length_drop]; omega),ch_drop,ch_drop]
  by_cases h1 : j + q < s.length∧ch s (i + q) = ch s (j + q)
  ·rw [if_pos ⟨by rw [List.length_drop]; omega,h1.2⟩,com_step (by omega) h1.1 h1.2,ih (q + 1) (by omega)]; rfl
  ·rw [if_neg (fun h2=>h1 ⟨by rw [List.length_drop] at h2; omega,h2.2⟩),com_stop (fun h2=>h1 ⟨h2.2.1,h2.2.2⟩)]
end
end Go.Proofs.Ythcnnfahlhklgaa.SD
end
