/- By hand: PursePlays' walk. -/
import Derived.Test.YtbdlkpmaalhnnaaXQd
import Derived.Test.YtbdlkpmaalhnnaaXSH
namespace Go.Proofs.Ytbdlkpmaalhnnaa.X
open Go.RowKit Go.Proofs.YtbdlkpmaalhnnaaW.PrintWords Go.Proofs.YtbdlkpmaalhnnaaW.PrintLast Go.Proofs.YtbdlkpmaalhnnaaW.PrintMore
open Go.Maps Go.MuLone Go.ChangeMaps Go.WideShapes
open Go.Proofs.Ytbdlkpmaalhnnaa.SP (HD EH Inv)
set_option linter.unusedVariables false
set_option linter.unusedSimpArgs false

theorem blk_diff {w : World} {a b : Nat} {o o' : Obj} (h : w.heap[a]? = some o) (h' : w.heap[b]? = some o') (hne : o ≠ o') : a ≠ b := fun e => by
  subst e
  rw [h] at h'
  exact hne (Option.some.inj h')
/-- A purse of the program's and one of the document's that tell the same. -/
structure Sd (w : World) (B g b gx : Nat) (v : Value) (L : List HD) (pk : Int) : Prop where
  p : PS w g b (.map (EH L)) pk
  x : XS w B gx v L pk
  i : Inv L pk
section
variable {w w' : World} {B g b gx g' b' gx' : Nat} {v v' : Value} {L L' : List HD} {pk pk' : Int}
theorem Sd.below (h : Sd w B g b gx v L pk) (hB : Below w.heap.size w w') : Sd w' B g b gx v L pk := ⟨h.p.below hB, h.x.below hB, h.i⟩
theorem row_of {w : World} {B n size : Nat} {e : TypeId} {v : Value} {xs : List Value} (h : w.ownsRow B e size v n xs) {k : Nat} (hk : v.ownBlock = some k) : ∃ cs, w.heap[k]? = some (.cells cs e (0, 0)) := by
  rcases h.2 with ⟨rfl, _⟩ | ⟨g, cap, cur, rfl, _, hg, _⟩
  · simp [Value.ownBlock] at hk
  · simp [Value.ownBlock] at hk
    subst hk
    exact ⟨_, hg⟩
/-- The other pair does not know of it. -/
theorem Sd.other (h : Sd w B g b gx v L pk) (k : Sd w B g' b' gx' v' L' pk') (hF : Fo g' b' gx' v'.ownBlock w w') (h1 : g ≠ g') (h2 : b ≠ b') (h3 : gx ≠ gx') (h4 : NeRow v v') : Sd w' B g b gx v L pk := by
  obtain ⟨es, cl, hbm, hr⟩ := h.p.own
  obtain ⟨es', cl', hbm', _⟩ := k.p.own
  have a1 := h.p.blk
  have a2 := k.p.blk
  have a3 := h.x.blk
  have a4 := k.x.blk
  have r4 : ∀ q, v'.ownBlock = some q → ∃ cs, w.heap[q]? = some (.cells cs 100 (0, 0)) := fun q hq => row_of k.x.row hq
  have r3 : ∀ q, v.ownBlock = some q → ∃ cs, w.heap[q]? = some (.cells cs 100 (0, 0)) := fun q hq => row_of h.x.row hq
  have nr : ∀ q o, w.heap[q]? = some o → (∀ cs, o ≠ .cells cs 100 (0, 0)) → some q ≠ v'.ownBlock := fun q o ho hne e => by
    obtain ⟨cs, hc⟩ := r4 q e.symm
    exact blk_diff ho hc (hne cs) rfl
  have kp : ∀ q o, w.heap[q]? = some o → q ≠ g' → q ≠ b' → q ≠ gx' → some q ≠ v'.ownBlock → w'.heap[q]? = some o := fun q o ho n1 n2 n3 n4 => (hF.block q (blk_lt ho) n1 n2 n3 n4).trans ho
  refine ⟨⟨?_, es, cl, ?_, hr⟩, ⟨?_, ?_⟩, h.i⟩
  · exact kp g _ a1 h1 (blk_diff a1 hbm' (by simp)) (blk_diff a1 a4 (by simp)) (nr g _ a1 (by simp))
  · exact kp b _ hbm (blk_diff hbm a2 (by simp)) h2 (blk_diff hbm a4 (by simp)) (nr b _ hbm (by simp))
  · exact kp gx _ a3 (blk_diff a3 a2 (by simp)) (blk_diff a3 hbm' (by simp)) h3 (nr gx _ a3 (by simp))
  · rcases h.x.row.2 with ⟨rfl, hn⟩ | ⟨gr, cap, cur, rfl, q0, q1, q2, q3, q4, q5⟩
    · exact ⟨h.x.row.1, .inl ⟨rfl, hn⟩⟩
    · exact ⟨h.x.row.1, .inr ⟨gr, cap, cur, rfl, q0, kp gr _ q1 (blk_diff q1 a2 (by simp)) (blk_diff q1 hbm' (by simp)) (blk_diff q1 a4 (by simp)) (fun e => h4 gr rfl e.symm), q2, q3, q4, q5⟩⟩
end
/-- What the law's loop keeps. -/
structure T2 (w wr : World) (gp bp gx gq bq gy : Nat) (vx vy : Value) (Lx Ly : List HD) (px py : Int) : Prop where
  a : Sd wr w.heap.size gp bp gx vx Lx px
  c : Sd wr w.heap.size gq bq gy vy Ly py
  ne : gp ≠ gq ∧ bp ≠ bq ∧ gx ≠ gy
  nr : NeRow vx vy
  b : Below w.heap.size w wr
  lo : w.heap.size ≤ gp ∧ w.heap.size ≤ bp ∧ w.heap.size ≤ gx ∧ w.heap.size ≤ gq ∧ w.heap.size ≤ bq ∧ w.heap.size ≤ gy
theorem T2.below {w wr w' : World} {gp bp gx gq bq gy : Nat} {vx vy : Value} {Lx Ly : List HD} {px py : Int} (h : T2 w wr gp bp gx gq bq gy vx vy Lx Ly px py) (hB : Below wr.heap.size wr w') : T2 w w' gp bp gx gq bq gy vx vy Lx Ly px py :=
  ⟨h.a.below hB, h.c.below hB, h.ne, h.nr, below_step h.b hB, h.lo⟩
theorem ne_new {w : World} {B : Nat} {v v1 v' : Value} {n size : Nat} {e : TypeId} {xs : List Value} (h : NeRow v v') (hn : v1 = v ∨ ∀ k, v1.ownBlock = some k → w.heap.size ≤ k) (ho : w.ownsRow B e size v' n xs) : NeRow v1 v' := by
  rcases hn with rfl | hn
  · exact h
  · intro k hk hk'
    have := hn k hk
    have := own_lt ho k hk'
    omega
theorem T2.left {w wr w' : World} {gp bp gx gq bq gy : Nat} {vx vy vx' : Value} {Lx Ly Lx' : List HD} {px py px' : Int} (h : T2 w wr gp bp gx gq bq gy vx vy Lx Ly px py) (hp : PS w' gp bp (.map (EH Lx')) px') (hx : XS w' w.heap.size gx vx' Lx' px') (hi : Inv Lx' px') (hv : vx' = vx ∨ ∀ k, vx'.ownBlock = some k → wr.heap.size ≤ k) (hF : Fo gp bp gx vx.ownBlock wr w') : T2 w w' gp bp gx gq bq gy vx' vy Lx' Ly px' py :=
  ⟨⟨hp, hx, hi⟩, h.c.other h.a hF h.ne.1.symm h.ne.2.1.symm h.ne.2.2.symm (ne_symm h.nr), h.ne, ne_new h.nr hv h.c.x.row, h.b.trans (hF.below h.lo.1 h.lo.2.1 h.lo.2.2.1 (own_base h.a.x.row) h.b.size), h.lo⟩
theorem T2.right {w wr w' : World} {gp bp gx gq bq gy : Nat} {vx vy vy' : Value} {Lx Ly Ly' : List HD} {px py py' : Int} (h : T2 w wr gp bp gx gq bq gy vx vy Lx Ly px py) (hp : PS w' gq bq (.map (EH Ly')) py') (hx : XS w' w.heap.size gy vy' Ly' py') (hi : Inv Ly' py') (hv : vy' = vy ∨ ∀ k, vy'.ownBlock = some k → wr.heap.size ≤ k) (hF : Fo gq bq gy vy.ownBlock wr w') : T2 w w' gp bp gx gq bq gy vx vy' Lx Ly' px py' :=
  ⟨h.a.other h.c hF h.ne.1 h.ne.2.1 h.ne.2.2 h.nr, ⟨hp, hx, hi⟩, h.ne, ne_symm (ne_new (ne_symm h.nr) hv h.a.x.row), h.b.trans (hF.below h.lo.2.2.2.1 h.lo.2.2.2.2.1 h.lo.2.2.2.2.2 (own_base h.c.x.row) h.b.size), h.lo⟩
theorem opc {w : World} {a : Option Addr} {l : List Op} (h : OpsAt w a l) {i : Int} (h0 : 0 ≤ i) (h1 : i < l.length) : ∃ ad hb s m, a = some ad ∧ w.cell? (ad.add (i.toNat * 3)) = some (.bool hb) ∧ w.cell? ⟨(ad.add (i.toNat * 3)).block, (ad.add (i.toNat * 3)).off + 1, none⟩ = some (.string s) ∧ w.cell? ⟨(ad.add (i.toNat * 3)).block, (ad.add (i.toNat * 3)).off + 2, none⟩ = some (.int .i64 m) ∧ s.size ≤ maxLen := by
  obtain ⟨ad, e, c0, c1, c2, hs⟩ := h i.toNat (by omega)
  exact ⟨ad, _, _, _, e, c0, by rw [← add_field _ _ 1 (by omega)]; exact c1, by rw [← add_field _ _ 2 (by omega)]; exact c2, hs⟩
theorem rnext {i : Int} {n : Nat} (h0 : 0 ≤ i) (h1 : i < (n : Int)) (hn : n ≤ maxLen) : wrap64 (i + 1) = i + 1 := by
  unfold maxLen at hn; unfold wrap64; omega
set_option maxHeartbeats 8000000 in
set_option maxRecDepth 100000 in
theorem plays_walk {w : World} {a : Option Addr} {cap : Nat} {l : List Op} (hl : OpsAt w a l) (hm : l.length ≤ maxLen) (aw : ∀ w : World, Calls Try.prog 9 #[] w fun e w' => e = .returned (.bool true) ∧ Below w.heap.size w w') :
    Calls Try.prog 6 #[.slice a l.length cap] w fun e w' => e = .returned (.bool true) ∧ Below w.heap.size w w' := by
  have HL := Aside0.mk hl
  have HM := Aside0.mk hm
  have AW := Aside0.mk aw
  clear hl hm aw
  go_enter Try.func6, Try.ntmps6
  go_wp2_with (fail)
  refine New_ok.mono ?_
  rintro e w1 ⟨rfl, hp, hB⟩
  have HB := Aside0.mk hB
  obtain ⟨gp, hgp⟩ : ∃ g, g = w.heap.size + 1 := ⟨_, rfl⟩
  obtain ⟨bp, hbp⟩ : ∃ g, g = w.heap.size := ⟨_, rfl⟩
  rw [← hgp, ← hbp] at hp
  rw [← hgp]
  have HP := Aside0.mk hp
  have HGP := Aside0.mk hgp
  have HBP := Aside0.mk hbp
  clear hp hB hgp hbp
  go_wp2_with (fail)
  refine New_ok.mono ?_
  rintro e w2 ⟨rfl, hq, hB⟩
  obtain ⟨gq, hgq⟩ : ∃ g, g = w1.heap.size + 1 := ⟨_, rfl⟩
  obtain ⟨bq, hbq⟩ : ∃ g, g = w1.heap.size := ⟨_, rfl⟩
  rw [← hgq, ← hbq] at hq
  rw [← hgq]
  have HW2 := Aside0.mk (below_step HB.out hB)
  have HP2 := Aside0.mk (HP.out.below hB)
  have HQ2 := Aside0.mk hq
  have HG2 : Aside0 (gp ≠ gq ∧ bp ≠ bq ∧ w.heap.size ≤ gp ∧ w.heap.size ≤ bp ∧ w.heap.size ≤ gq ∧ w.heap.size ≤ bq) := by
    have e1 := HP.out.lt
    have e2 := HP.out.own.lt
    have e3 := HGP.out
    have e4 := HBP.out
    refine ⟨⟨?_, ?_, ?_, ?_, ?_, ?_⟩⟩ <;> omega
  have HS := Aside0.mk (show (0 : Int) ≤ (l.length : Int) by omega)
  clear hq hB hgq hbq HGP HBP HP HB
  go_wp2_with (fail)
  have HT : Aside0 (T2 w ((w2.alloc (.cells #[.slice none 0 0, .int .i64 0] 38)).alloc (.cells #[.slice none 0 0, .int .i64 0] 38)) gp bp w2.heap.size gq bq (w2.heap.size + 1) (.slice none 0 0) (.slice none 0 0) [] [] 0 0) := by
    have b1 : Below w2.heap.size w2 ((w2.alloc (.cells #[.slice none 0 0, .int .i64 0] 38)).alloc (.cells #[.slice none 0 0, .int .i64 0] 38)) := below_alloc (below_alloc (Below.refl _ _) _) _
    have n1 := blk_alloc (blk_new w2 (.cells #[.slice none 0 0, .int .i64 0] 38)) (.cells #[.slice none 0 0, .int .i64 0] 38)
    have n2 := blk_new (w2.alloc (.cells #[.slice none 0 0, .int .i64 0] 38)) (.cells #[.slice none 0 0, .int .i64 0] 38)
    rw [show (w2.alloc (.cells #[.slice none 0 0, .int .i64 0] 38)).heap.size = w2.heap.size + 1 by simp] at n2
    have hg := HG2.out
    have hs := HW2.out.size
    exact ⟨⟨HP2.out.below b1, ⟨n1, own_nil _ _ _ _⟩, Inv.nil⟩, ⟨HQ2.out.below b1, ⟨n2, own_nil _ _ _ _⟩, Inv.nil⟩, ⟨hg.1, hg.2.1, by omega⟩, ne_nil _, below_step HW2.out b1, ⟨by omega, by omega, by omega, by omega, by omega, by omega⟩⟩
  generalize ((w2.alloc (.cells #[.slice none 0 0, .int .i64 0] 38)).alloc (.cells #[.slice none 0 0, .int .i64 0] 38)) = W3 at HT ⊢
  obtain ⟨gx, hgx⟩ : ∃ g, g = w2.heap.size := ⟨_, rfl⟩
  obtain ⟨gy, hgy⟩ : ∃ g, g = w2.heap.size + 1 := ⟨_, rfl⟩
  rw [← hgy, ← hgx] at HT ⊢
  clear hgx hgy HP2 HQ2 HG2 HW2
  go_loopw [19] (fun v19 wr => ∃ (i : Int) (vx vy : Value) (Lx Ly : List HD) (px py : Int), v19 = .int .i64 i ∧ 0 ≤ i ∧ i ≤ (l.length : Int) ∧ Aside0 (T2 w wr gp bp gx gq bq gy vx vy Lx Ly px py)) (fun v19 _ => l.length - (intOf v19).toNat)
  case atStart => exact ⟨0, _, _, _, _, _, _, rfl, by omega, by omega, HT⟩
  case round =>
    clear HT
    obtain ⟨i, vx, vy, Lx, Ly, px, py, rfl, hi0, hi1, HT⟩ := hrel
    by_cases ci : i < (l.length : Int)
    case neg =>
      have cib : decide (i < (l.length : Int)) = false := decide_eq_false ci
      clear ci hi0 hi1
      go_wp2_with (fail)
      refine (Held_ok HT.out.c.p).mono ?_
      rintro e w5 ⟨rfl, hB⟩
      have HT5 := Aside0.mk (HT.out.below hB)
      clear hB
      go_wp2_with (fail)
      refine (dHeld_ok HT5.out.c.x HT5.out.c.i.few).mono ?_
      rintro e w6 ⟨rfl, hB⟩
      have HT6 := Aside0.mk (HT5.out.below hB)
      clear hB
      go_wp2_with (fail)
      refine (AW.out _).mono ?_
      rintro e w7 ⟨rfl, hB⟩
      have HT7 := Aside0.mk (HT6.out.below hB)
      clear hB
      go_wp2
      go_ret
      exact ⟨rfl, HT7.out.b⟩
    case pos =>
      have cib : decide (i < (l.length : Int)) = true := decide_eq_true ci
      obtain ⟨ad, hb, s, m, had, x0, x1, x2, hsz⟩ := opc (HL.out.below HT.out.b) hi0 ci
      subst had
      have HSZ := Aside0.mk hsz
      have HT2 := Aside0.mk (HT.out.below (below_alloc (Below.refl wr.heap.size wr) (.cells #[.bool hb, .string s, .int .i64 m] 40)))
      have HB2 := Aside0.mk (blk_new wr (.cells #[.bool hb, .string s, .int .i64 m] 40))
      have HN2 : Aside0 (wr.heap.size ≠ gp ∧ wr.heap.size ≠ bp ∧ wr.heap.size ≠ gx) := ⟨by have := HT.out.a.p.lt; omega, by have := HT.out.a.p.own.lt; omega, by have := HT.out.a.x.lt; omega⟩
      clear hsz
      go_wp2_with (fail)
      refine (does_ok HT2.out.a.p HT2.out.a.x HT2.out.a.i HT2.out.b.size HSZ.out).mono ?_
      rintro e w5 ⟨rfl, ⟨vx', Lx', px', hp5, hx5, hi5, hv5⟩, hF5⟩
      have HT5 := Aside0.mk (HT2.out.left hp5 hx5 hi5 hv5 hF5)
      have hb5 : w5.heap[wr.heap.size]? = some (.cells #[.bool hb, .string s, .int .i64 m] 40) := (hF5.block _ (blk_lt HB2.out) HN2.out.1 HN2.out.2.1 HN2.out.2.2 (own_ne HT2.out.a.x.row HB2.out (by decide))).trans HB2.out
      obtain ⟨y0, y1, y2⟩ := cells3 hb5
      clear hp5 hx5 hi5 hv5 hF5 HT2 HB2 x0 x1 x2 hb5
      go_wp2_with (fail)
      · refine (does_ok HT5.out.c.p HT5.out.c.x HT5.out.c.i HT5.out.b.size HSZ.out).mono ?_
        rintro e w6 ⟨rfl, ⟨vy', Ly', py', hp6, hx6, hi6, hv6⟩, hF6⟩
        have HT6 := Aside0.mk (HT5.out.right hp6 hx6 hi6 hv6 hF6)
        clear hp6 hx6 hi6 hv6 hF6 y0 y1 y2
        go_wp2_with (fail)
        have e1 := rnext hi0 ci HM.out
        rw [e1]
        exact ⟨⟨i + 1, _, _, _, _, _, _, rfl, by omega, by omega, HT6⟩, by simp [intOf]; omega⟩
      · have e1 := rnext hi0 ci HM.out
        rw [e1]
        exact ⟨⟨i + 1, _, _, _, _, _, _, rfl, by omega, by omega, HT5⟩, by simp [intOf]; omega⟩
end Go.Proofs.Ytbdlkpmaalhnnaa.X
