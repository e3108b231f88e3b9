/- The law ScanPays holds of any two images and any places: Forward, Backward and Split tell what the document tells. No condition. -/
import Derived.Test.YtobknpeglagaaaaSCScanPays
import Derived.Test.YtobknpeglagaaaaXSF
import Derived.Test.YtobknpeglagaaaaXx47
namespace Go.Proofs.Ytobknpeglagaaaa.Pure
open Go.RowKit Go.Proofs.Ytobknpeglagaaaa Go.Proofs.Ytobknpeglagaaaa.X Go.Proofs.Ytobknpeglagaaaa.SD Go.Proofs.Ytobknpeglagaaaa.SM Go.Proofs.YtobknpeglagaaaaW.PrintWords Go.Proofs.YtobknpeglagaaaaW.PrintLast

theorem lives15P : ∃ K, ∀ k, K ≤ k → sapperlaw15_lives.f k = some true := by
  have h : sapperlaw15_lives.f 400 = some true := by decide +kernel
  exact ⟨400, fun k hk => at_rounds (g := fun k => sapperlaw15_lives.f k) (fun k => sapperlaw15_lives.mono k) hk h⟩
theorem Lend_f {l : List Int} (h : l.length ≤ 140737488351232) : sapperref01_Lend.f l = some (l ++ [171, 172, 173, 174, 175]) := by
  unfold sapperref01_Lend.f
  rw [Option.bind_some, if_pos (by simp; omega), Option.bind_some, Option.bind_some, if_pos (by simp; omega), Option.bind_some, if_pos (by omega), if_pos (by simp; omega), List.nil_append]
theorem Kept_f {l : List Int} (h : l.length ≤ 140737488351232) : sapperref01_Kept.f (l ++ [171, 172, 173, 174, 175]) l = some true := by
  unfold sapperref01_Kept.f
  rw [Lend_f h, Option.bind_some, if_pos (by omega), if_pos (by simp; omega)]
  unfold sapperref01_Same.f
  rw [Option.bind_some, beq_self_eq_true]
theorem wf_i64 {x : Int} (h : (Lit.int .i64 x).wf = true) : x ≤ 9223372036854775807 := by
  simp [Lit.wf, IntKind.min, IntKind.max, IntKind.signed, IntKind.bits] at h
  omega
theorem ScanPays : sapperlaw15_ScanPays.Pure := by
  intro o n a b c e _ ho _ _ hn _ _ _ _ hwe
  have ho : o.length ≤ 140737488351232 := by omega
  have hn : n.length ≤ 140737488351232 := by omega
  obtain ⟨K1, h1⟩ := lives15P
  obtain ⟨r1, f1, f2⟩ := fwd_any ho hn a c e
  obtain ⟨r2, f3, f4⟩ := bwd_any ho hn a c e
  have he := wf_i64 hwe
  obtain ⟨r3, f5, f6⟩ := spl_any ho hn a b c e he
  have tk : ∀ (l : List Int), (l ++ [171, 172, 173, 174, 175]).take (((l.length : Int) : Int)).toNat = l := fun l => by rw [Int.toNat_natCast, List.take_left']; rfl
  have hF : scan_Forward.f [97, 98, 99, 100, 101, 102] 0 [97, 98, 120, 100, 121, 121] 0 6 = some 2 := by decide +kernel
  refine ⟨K1 + 3 * n.length + 12, ?_⟩
  unfold sapperlaw15_ScanPays.f
  rw [Lend_f ho, Option.bind_some, if_pos (by omega), if_pos (by rw [List.length_append]; omega), tk, Option.bind_some, Lend_f hn, Option.bind_some, if_pos (by omega), if_pos (by rw [List.length_append]; omega), tk, Option.bind_some, f1, Option.bind_some, f2 _ (by omega), Option.bind_some, if_pos rfl, f3, Option.bind_some, f4 _ (by omega), Option.bind_some]
  rw [show K1 + 3 * n.length + 12 = K1 + 3 * n.length + 11 + 1 by omega, sapperlaw15_ScanPays.j0, if_neg (by simp), f5, Option.bind_some, f6 _ (by omega), Option.bind_some, if_pos rfl, Kept_f ho, Option.bind_some, if_pos rfl, Kept_f hn, Option.bind_some, if_pos rfl, hF, Option.bind_some, if_pos rfl, h1 _ (by omega)]
  rfl
end Go.Proofs.Ytobknpeglagaaaa.Pure
