/- By hand: lives of chapter 23: the document's first example is as it says. -/
import Derived.Test.YtbdlkpmaalhnnaaXPb
namespace Go.Proofs.Ytbdlkpmaalhnnaa.X
open Go.RowKit Go.Proofs.YtbdlkpmaalhnnaaW.PrintWords Go.Proofs.YtbdlkpmaalhnnaaW.PrintLast Go.Proofs.YtbdlkpmaalhnnaaW.PrintMore
set_option linter.unusedVariables false
set_option linter.unusedSimpArgs false

def nA : ByteArray := ⟨#[97]⟩
def nB : ByteArray := ⟨#[98]⟩
def D1 : DataW Unit := .map [(.string [97], .agg [.lit (.int .i64 10), .lit (.int .i64 0)])]
def D2 : DataW Unit := .map [(.string [97], .agg [.lit (.int .i64 10), .lit (.int .i64 0)]), (.string [98], .agg [.lit (.int .i64 5), .lit (.int .i64 0)])]
def D3 : DataW Unit := .map [(.string [97], .agg [.lit (.int .i64 10), .lit (.int .i64 7)]), (.string [98], .agg [.lit (.int .i64 5), .lit (.int .i64 0)])]
def D4 : DataW Unit := .map [(.string [97], .agg [.lit (.int .i64 10), .lit (.int .i64 7)]), (.string [98], .agg [.lit (.int .i64 5), .lit (.int .i64 5)])]
def D5 : DataW Unit := .map [(.string [97], .agg [.lit (.int .i64 10), .lit (.int .i64 2)]), (.string [98], .agg [.lit (.int .i64 5), .lit (.int .i64 5)])]
theorem o1 : openF (.map []) nA 10 = (0, D1) := by kernel_rfl
theorem o2 : openF D1 nB 5 = (0, D2) := by kernel_rfl
theorem h3 : holdC D2 nA 7 0 = (0, D3, 7) := by kernel_rfl
theorem h4 : holdC D3 nB 5 7 = (0, D4, 12) := by kernel_rfl
theorem h5 : holdC D4 nA 2 12 = (0, D5, 12) := by kernel_rfl
theorem s1 : wrap64 (sumD (fun _ b => b) D5) = 7 := by kernel_rfl
theorem s2 : wrap64 (sumD (fun a _ => a) D5) = 15 := by kernel_rfl
set_option maxHeartbeats 8000000 in
set_option maxRecDepth 100000 in
theorem lives_ok {w : World} : Calls Try.prog 9 #[] w fun e w' => e = .returned (.bool true) ∧ Below w.heap.size w w' := by
  go_enter Try.func9, Try.ntmps9
  go_wp2_with (fail)
  refine New_ok.mono ?_
  rintro e w1 ⟨rfl, hp, hB⟩
  have HP := Aside0.mk hp
  have HB := Aside0.mk hB
  obtain ⟨g, hg⟩ : ∃ g, g = w.heap.size + 1 := ⟨_, rfl⟩
  obtain ⟨bm, hbm⟩ : ∃ bm, bm = w.heap.size := ⟨_, rfl⟩
  have HG := Aside0.mk (show w.heap.size ≤ g by omega)
  have HM := Aside0.mk (show w.heap.size ≤ bm by omega)
  have HP : Aside0 (PS w1 g bm (.map []) 0) := ⟨by rw [hg, hbm]; exact hp⟩
  rw [← hg]
  clear hp hB hg hbm
  go_wp2_with (fail)
  refine (Open_ok (m := 10) (s := nA) HP.out (by decide)).mono ?_
  rintro e w2 ⟨rfl, hp, ht⟩
  rw [o1] at hp ⊢
  have HB2 := Aside0.mk (HB.out.trans (ht.below HG.out HM.out HB.out.size))
  have HP2 := Aside0.mk hp
  clear hp ht HP HB
  go_wp2_with (fail)
  refine (Open_ok (m := 5) (s := nB) HP2.out (by decide)).mono ?_
  rintro e w3 ⟨rfl, hp, ht⟩
  rw [o2] at hp ⊢
  have HB3 := Aside0.mk (HB2.out.trans (ht.below HG.out HM.out HB2.out.size))
  have HP3 := Aside0.mk hp
  clear hp ht HP2 HB2
  go_wp2_with (fail)
  refine (Hold_ok (m := 7) (s := nA) HP3.out (by decide) (by decide)).mono ?_
  rintro e w4 ⟨rfl, hp, ht⟩
  rw [h3] at hp ⊢
  have HB4 := Aside0.mk (HB3.out.trans (ht.below HG.out HM.out HB3.out.size))
  have HP4 := Aside0.mk hp
  clear hp ht HP3 HB3
  go_wp2_with (fail)
  refine (Hold_ok (m := 5) (s := nB) HP4.out (by decide) (by decide)).mono ?_
  rintro e w5 ⟨rfl, hp, ht⟩
  rw [h4] at hp ⊢
  have HB5 := Aside0.mk (HB4.out.trans (ht.below HG.out HM.out HB4.out.size))
  have HP5 := Aside0.mk hp
  clear hp ht HP4 HB4
  go_wp2_with (fail)
  refine (Hold_ok (m := 2) (s := nA) HP5.out (by decide) (by decide)).mono ?_
  rintro e w6 ⟨rfl, hp, ht⟩
  rw [h5] at hp ⊢
  have HB6 := Aside0.mk (HB5.out.trans (ht.below HG.out HM.out HB5.out.size))
  have HP6 := Aside0.mk hp
  clear hp ht HP5 HB5
  go_wp2_with (fail)
  refine (Held_ok HP6.out).mono ?_
  rintro e w7 ⟨rfl, hB⟩
  rw [s1]
  have HB7 := Aside0.mk (below_step HB6.out hB)
  have HP7 := Aside0.mk (HP6.out.below hB)
  clear hB HB6 HP6
  go_wp2_with (fail)
  refine (Peak_ok HP7.out).mono ?_
  rintro e w8 ⟨rfl, hB⟩
  have HB8 := Aside0.mk (below_step HB7.out hB)
  have HP8 := Aside0.mk (HP7.out.below hB)
  clear hB HB7 HP7
  go_wp2_with (fail)
  refine (Most_ok HP8.out).mono ?_
  rintro e w9 ⟨rfl, hB⟩
  rw [s2]
  have HB9 := Aside0.mk (below_step HB8.out hB)
  clear hB HB8 HP8
  go_wp2
  go_ret
  exact ⟨rfl, HB9.out⟩
end Go.Proofs.Ytbdlkpmaalhnnaa.X
