/- By hand: lives (of "banana" the order and what neighbours have in common): the one way on which all is as it should be. -/
import Derived.Test.YthcnnfahlhklgaaXx14
import Derived.Test.YthcnnfahlhklgaaXx18
import Derived.Test.YthcnnfahlhklgaaXx17
import Derived.Test.YthcnnfahlhklgaaXx19
import Derived.Test.YthcnnfahlhklgaaXM
namespace Go.Proofs.Ythcnnfahlhklgaa.X
open Go.RowKit Go.Proofs.YthcnnfahlhklgaaW.PrintWords Go.Proofs.YthcnnfahlhklgaaW.PrintLast Go.Proofs.YthcnnfahlhklgaaW.PrintMore
attribute [local go_sem] ptrOf_eql ptrOf_neq ptrOf_eqg ptrOf_neg max2_int min2_int max_two min_two
set_option linter.unusedVariables false
set_option linter.unusedSimpArgs false

def sapperlaw13_lives.f (k : Nat) : Option Bool:=(suffix_New.f k [98,97,110,97,110,97]).bind fun b=>(if b.2 = 0 then (if (b.1.length : Int) = 0 then none else ((suffix_Index_Array.f b.1).bind fun t=>((sapperlaw13_same.f k t [5,3,1,0,4,2]).bind fun u=>(if u = true then ((suffix_Index_Lcp.f b.1).bind fun z=>sapperlaw13_same.f k z [0,1,3,0,0,2]) else none)))) else none)
theorem sapperlaw13_lives.mono : ∀ k,LeO (sapperlaw13_lives.f k) (sapperlaw13_lives.f (k + 1)):=by
 intro k
 unfold sapperlaw13_lives.f
 repeat' first
  | (with_reducible exact sapperlaw13_same.mono _ _ _)
  | (with_reducible exact suffix_New.mono _ _)
  | (with_reducible exact LeO.refl _)
  | (with_reducible exact LeO.none _)
  | (with_reducible refine LeO.ite ?_ ?_)
  | (with_reducible refine LeO.bind ?_ (fun _=>?_))
  | exact sapperlaw13_same.mono _ _ _
  | exact suffix_New.mono _ _
  | exact LeO.none _
  | refine LeO.ite ?_ ?_
  | refine LeO.bind ?_ (fun _=>?_)
set_option maxHeartbeats 8000000 in
set_option maxRecDepth 100000 in
theorem sapperlaw13_lives.calls (k : Nat) (r : Bool) (w : World) (h : sapperlaw13_lives.f k = some r) :
  Calls Try.prog 15 #[] w fun e w'=>e = .returned (.bool r)∧Below w.heap.size w w':=by
 have HB:=Aside0.mk (Below.refl w.heap.size w)
 unfold sapperlaw13_lives.f at h
 replace h:=Option.bind_eq_some_iff.mp h
 obtain ⟨⟨t285,t286⟩,A10,h⟩:=h
 replace h : (if t286 = 0 then (if (t285.length : Int) = 0 then none else ((suffix_Index_Array.f t285).bind fun t=>((sapperlaw13_same.f k t [5,3,1,0,4,2]).bind fun u=>(if u = true then ((suffix_Index_Lcp.f t285).bind fun z=>sapperlaw13_same.f k z [0,1,3,0,0,2]) else none)))) else none) = some r:=h
 have A1:=Aside0.mk A10
 clear A10
 by_cases c2 : t286 = 0
 case neg=>rw [if_neg c2] at h; cases h
 rw [if_pos c2] at h
 have c2b0 : (t286 == 0) = true:=beq_iff_eq.mpr c2
 clear c2
 by_cases c3 : (t285.length : Int) = 0
 case pos=>rw [if_pos c3] at h; cases h
 rw [if_neg c3] at h
 have c3b0 : ((t285.length : Int) == 0) = false:=beq_eq_false_iff_ne.mpr c3
 have c3b1 : ((t285.length : Int) != 0) = true:=bne_iff_ne.mpr c3
 clear c3
 replace h:=Option.bind_eq_some_iff.mp h
 obtain ⟨t289,A90,h⟩:=h
 have A9:=Aside0.mk A90
 clear A90
 obtain ⟨y292,hy292⟩ : ∃ y_ : List Int,y_ = ([5,3,1,0,4,2] : List Int):=⟨_,rfl⟩
 rw [← hy292] at h
 have Ny292:=Aside0.mk hy292
 clear hy292
 replace h:=Option.bind_eq_some_iff.mp h
 obtain ⟨t295,A100,h⟩:=h
 have A10:=Aside0.mk A100
 clear A100
 by_cases c11 : t295 = true
 case neg=>rw [if_neg c11] at h; cases h
 subst c11
 rw [if_pos rfl] at h
 replace h:=Option.bind_eq_some_iff.mp h
 obtain ⟨t296,A120,h⟩:=h
 have A12:=Aside0.mk A120
 clear A120
 obtain ⟨y299,hy299⟩ : ∃ y_ : List Int,y_ = ([0,1,3,0,0,2] : List Int):=⟨_,rfl⟩
 rw [← hy299] at h
 have Ny299:=Aside0.mk hy299
 clear hy299
 have A13:=Aside0.mk h
 clear h
 have kc:=fun (w : World) (C : Array Value) (n c : Nat)=>Lib.run_convert_bytes_const (P:=Try.prog) w 23 5 C n c Try.underlying23 Try.underlying5
 go_enter Try.func15,Try.ntmps15
 go_wp2_with (first | ((with_reducible refine gate_callee (f:=16) rfl ?_); refine goesL_ (some 6) rfl rfl Try.func16 (by kernel_rfl) rfl #[.slice (some ⟨w.heap.size,0,none⟩) 6 6] rfl (by (try simp only [List.map_toArray,List.map_cons,List.map_nil]); first | done | rfl | (simp only [List.length_drop,List.length_take]; rfl)) ?_; (refine (suffix_New.calls k (some ⟨w.heap.size,0,none⟩) 6 [98,97,110,97,110,97] t285 t286 _ ?side1 ?side2 A1.out).mono ?_); (case side1=>exact C_marked w [98,97,110,97,110,97] 5 (6,7) (by decide)); (case side2=>exact Nat.le_refl _); rintro e w17 ⟨v287,rfl,ho0,hb⟩; refine ⟨_,rfl,?_⟩; have n1_:=Aside0.mk (Kd.S_lower ho0 (below_size (by repeat (first | (with_reducible first | exact HB.out | apply below_alloc | apply pw_below_drewN | apply below_drew1) | exact HB.out)))); have n2_:=Aside0.mk (below_step (by repeat (first | (with_reducible first | exact HB.out | apply below_alloc | apply pw_below_drewN | apply below_drew1) | exact HB.out)) hb); clear HB; have HO288:=n1_; have HB:=n2_; clear n1_ n2_; (try clear hb); (try clear hb2); (try clear hk); (try clear hi); (try clear ho0); obtain ⟨Ao18,co18,eo18⟩:=Kd.S_slice HO288.out; subst eo18) | (go_at_call 21; (with_reducible refine (suffix_Index_Array.calls _ _ t285 t289 _ ?side1 ?side2 A9.out).mono ?_); (case side1=>repeat (first | exact (Kd.S_reads' HO288.out).2.2 | (with_reducible refine Kd.C_alloc ?_ _) | (with_reducible refine Kd.C_drewN ?_ _) | (with_reducible refine Kd.C_drew ?_))); (case side2=>exact (Kd.S_reads' HO288.out).2.1); rintro e w19 ⟨v290,rfl,ho0,hb⟩; have n1_:=Aside0.mk (Kd.S_elder' (by (with_reducible repeat (first | apply Kd.S_alloc | apply Kd.S_drewN | apply Kd.S_drew)); exact HO288.out) (Kd.R_base ho0) hb); have n2_:=Aside0.mk (Kd.R_lower ho0 (below_size (by repeat (first | (with_reducible first | exact HB.out | apply below_alloc | apply pw_below_drewN | apply below_drew1) | exact HB.out)))); have n3_:=Aside0.mk (below_step (by repeat (first | (with_reducible first | exact HB.out | apply below_alloc | apply pw_below_drewN | apply below_drew1) | exact HB.out)) hb); clear HO288; clear HB; have HO288:=n1_; have HO291:=n2_; have HB:=n3_; clear n1_ n2_ n3_; (try clear hb); (try clear hb2); (try clear hk); (try clear hi); (try clear ho0)) | ((with_reducible refine gate_dst (N:=18) rfl ?_); (try (refine gate_guard (by rfl) ?_; dsimp only)); refine Kd.R_lit (Kd.int .i64) _ 3 ?hg (N:=18) ?hd (xs:=([5,3,1,0,4,2] : List Int)) (inner:=[.int .i64 5,.int .i64 3,.int .i64 1,.int .i64 0,.int .i64 4,.int .i64 2]) (ok:=fun _=>True) (okp:=fun _=>True) ?hr ?hp (fun _ hk=>hk) trivial (Below.refl _ _) (Nat.le_refl _) (by simp) ?_; (case hd=>rfl); (case hg=>rfl); (case hr=>first | (go_simp; done) | (go_simp; rfl)); (case hp=>exact (Reps.one (show Kd.M (Kd.int .i64) _ _ _ 5 [.int .i64 5] from rfl) (Reps.one (show Kd.M (Kd.int .i64) _ _ _ 3 [.int .i64 3] from rfl) (Reps.one (show Kd.M (Kd.int .i64) _ _ _ 1 [.int .i64 1] from rfl) (Reps.one (show Kd.M (Kd.int .i64) _ _ _ 0 [.int .i64 0] from rfl) (Reps.one (show Kd.M (Kd.int .i64) _ _ _ 4 [.int .i64 4] from rfl) (Reps.one (show Kd.M (Kd.int .i64) _ _ _ 2 [.int .i64 2] from rfl) (Reps.none _ _)))))))); intro v293 w20 ho21 hb hg_ hnew_; clear hg_ hnew_; (first | rw [← Ny292.out] at ho21 | (simp only [Int.reduceToNat] at ho21; rw [← Ny292.out] at ho21)); have n1_:=Aside0.mk (Kd.S_elder' (by (with_reducible repeat (first | apply Kd.S_alloc | apply Kd.S_drewN | apply Kd.S_drew)); exact HO288.out) (Kd.R_base ho21) hb); have n2_:=Aside0.mk (Kd.R_elder' (by (with_reducible repeat (first | apply Kd.R_alloc | apply Kd.R_drewN | apply Kd.R_drew)); exact HO291.out) (Kd.R_base ho21) hb); have n3_:=Aside0.mk (Kd.R_lower (Kd.R_new' ho21 (Kd.R_lt (by (with_reducible repeat (first | apply Kd.R_alloc | apply Kd.R_drewN | apply Kd.R_drew)); exact HO291.out))) (below_size (by repeat (first | (with_reducible first | exact HB.out | apply below_alloc | apply pw_below_drewN | apply below_drew1) | exact HB.out)))); have n4_:=Aside0.mk (below_step (by repeat (first | (with_reducible first | exact HB.out | apply below_alloc | apply pw_below_drewN | apply below_drew1) | exact HB.out)) hb); clear HO288; clear HO291; clear HB; have HO288:=n1_; have HO291:=n2_; have HO294:=n3_; have HB:=n4_; clear n1_ n2_ n3_ n4_; clear hb ho21; obtain ⟨Ao22,co22,eo22⟩:=Kd.R_slice HO291.out; subst eo22; obtain ⟨Ao23,co23,eo23⟩:=Kd.R_slice HO294.out; subst eo23) | (go_at_call 26; (with_reducible refine (sapperlaw13_same.calls k _ _ t289 _ _ y292 true _ ?side1 ?side2 ?side3 ?side4 A10.out).mono ?_); (case side1=>repeat (first | exact (Kd.R_reads' HO291.out).2.2 | (with_reducible refine Kd.C_alloc ?_ _) | (with_reducible refine Kd.C_drewN ?_ _) | (with_reducible refine Kd.C_drew ?_))); (case side2=>exact (Kd.R_reads' HO291.out).2.1); (case side3=>repeat (first | exact (Kd.R_reads' HO294.out).2.2 | (with_reducible refine Kd.C_alloc ?_ _) | (with_reducible refine Kd.C_drewN ?_ _) | (with_reducible refine Kd.C_drew ?_))); (case side4=>exact (Kd.R_reads' HO294.out).2.1); rintro e w' ⟨rfl,⟨nd,rfl⟩⟩) | (go_at_call 20; (with_reducible refine (suffix_Index_Lcp.calls _ _ t285 t296 _ ?side1 ?side2 A12.out).mono ?_); (case side1=>repeat (first | exact (Kd.S_reads' HO288.out).2.2 | (with_reducible refine Kd.C_alloc ?_ _) | (with_reducible refine Kd.C_drewN ?_ _) | (with_reducible refine Kd.C_drew ?_))); (case side2=>exact (Kd.S_reads' HO288.out).2.1); rintro e w24 ⟨v297,rfl,ho0,hb⟩; have n1_:=Aside0.mk (Kd.S_elder' (by (with_reducible repeat (first | apply Kd.S_alloc | apply Kd.S_drewN | apply Kd.S_drew)); exact HO288.out) (Kd.R_base ho0) hb); have n2_:=Aside0.mk (Kd.R_elder' (by (with_reducible repeat (first | apply Kd.R_alloc | apply Kd.R_drewN | apply Kd.R_drew)); exact HO291.out) (Kd.R_base ho0) hb); have n3_:=Aside0.mk (Kd.R_elder' (by (with_reducible repeat (first | apply Kd.R_alloc | apply Kd.R_drewN | apply Kd.R_drew)); exact HO294.out) (Kd.R_base ho0) hb); have n4_:=Aside0.mk (Kd.R_lower (Kd.R_new' (Kd.R_new' ho0 (Kd.R_lt (by (with_reducible repeat (first | apply Kd.R_alloc | apply Kd.R_drewN | apply Kd.R_drew)); exact HO291.out))) (Kd.R_lt (by (with_reducible repeat (first | apply Kd.R_alloc | apply Kd.R_drewN | apply Kd.R_drew)); exact HO294.out))) (below_size (by repeat (first | (with_reducible first | exact HB.out | apply below_alloc | apply pw_below_drewN | apply below_drew1) | exact HB.out)))); have n5_:=Aside0.mk (below_step (by repeat (first | (with_reducible first | exact HB.out | apply below_alloc | apply pw_below_drewN | apply below_drew1) | exact HB.out)) hb); clear HO288; clear HO291; clear HO294; clear HB; have HO288:=n1_; have HO291:=n2_; have HO294:=n3_; have HO298:=n4_; have HB:=n5_; clear n1_ n2_ n3_ n4_ n5_; (try clear hb); (try clear hb2); (try clear hk); (try clear hi); (try clear ho0)) | ((with_reducible refine gate_dst (N:=24) rfl ?_); (try (refine gate_guard (by rfl) ?_; dsimp only)); refine Kd.R_lit (Kd.int .i64) _ 3 ?hg (N:=24) ?hd (xs:=([0,1,3,0,0,2] : List Int)) (inner:=[.int .i64 0,.int .i64 1,.int .i64 3,.int .i64 0,.int .i64 0,.int .i64 2]) (ok:=fun _=>True) (okp:=fun _=>True) ?hr ?hp (fun _ hk=>hk) trivial (Below.refl _ _) (Nat.le_refl _) (by simp) ?_; (case hd=>rfl); (case hg=>rfl); (case hr=>first | (go_simp; done) | (go_simp; rfl)); (case hp=>exact (Reps.one (show Kd.M (Kd.int .i64) _ _ _ 0 [.int .i64 0] from rfl) (Reps.one (show Kd.M (Kd.int .i64) _ _ _ 1 [.int .i64 1] from rfl) (Reps.one (show Kd.M (Kd.int .i64) _ _ _ 3 [.int .i64 3] from rfl) (Reps.one (show Kd.M (Kd.int .i64) _ _ _ 0 [.int .i64 0] from rfl) (Reps.one (show Kd.M (Kd.int .i64) _ _ _ 0 [.int .i64 0] from rfl) (Reps.one (show Kd.M (Kd.int .i64) _ _ _ 2 [.int .i64 2] from rfl) (Reps.none _ _)))))))); intro v300 w25 ho26 hb hg_ hnew_; clear hg_ hnew_; (first | rw [← Ny299.out] at ho26 | (simp only [Int.reduceToNat] at ho26; rw [← Ny299.out] at ho26)); have n1_:=Aside0.mk (Kd.S_elder' (by (with_reducible repeat (first | apply Kd.S_alloc | apply Kd.S_drewN | apply Kd.S_drew)); exact HO288.out) (Kd.R_base ho26) hb); have n2_:=Aside0.mk (Kd.R_elder' (by (with_reducible repeat (first | apply Kd.R_alloc | apply Kd.R_drewN | apply Kd.R_drew)); exact HO291.out) (Kd.R_base ho26) hb); have n3_:=Aside0.mk (Kd.R_elder' (by (with_reducible repeat (first | apply Kd.R_alloc | apply Kd.R_drewN | apply Kd.R_drew)); exact HO294.out) (Kd.R_base ho26) hb); have n4_:=Aside0.mk (Kd.R_elder' (by (with_reducible repeat (first | apply Kd.R_alloc | apply Kd.R_drewN | apply Kd.R_drew)); exact HO298.out) (Kd.R_base ho26) hb); have n5_:=Aside0.mk (Kd.R_lower (Kd.R_new' (Kd.R_new' (Kd.R_new' ho26 (Kd.R_lt (by (with_reducible repeat (first | apply Kd.R_alloc | apply Kd.R_drewN | apply Kd.R_drew)); exact HO291.out))) (Kd.R_lt (by (with_reducible repeat (first | apply Kd.R_alloc | apply Kd.R_drewN | apply Kd.R_drew)); exact HO294.out))) (Kd.R_lt (by (with_reducible repeat (first | apply Kd.R_alloc | apply Kd.R_drewN | apply Kd.R_drew)); exact HO298.out))) (below_size (by repeat (first | (with_reducible first | exact HB.out | apply below_alloc | apply pw_below_drewN | apply below_drew1) | exact HB.out)))); have n6_:=Aside0.mk (below_step (by repeat (first | (with_reducible first | exact HB.out | apply below_alloc | apply pw_below_drewN | apply below_drew1) | exact HB.out)) hb); clear HO288; clear HO291; clear HO294; clear HO298; clear HB; have HO288:=n1_; have HO291:=n2_; have HO294:=n3_; have HO298:=n4_; have HO301:=n5_; have HB:=n6_; clear n1_ n2_ n3_ n4_ n5_ n6_; clear hb ho26; obtain ⟨Ao27,co27,eo27⟩:=Kd.R_slice HO298.out; subst eo27; obtain ⟨Ao28,co28,eo28⟩:=Kd.R_slice HO301.out; subst eo28) | (go_at_call 26; (with_reducible refine (sapperlaw13_same.calls k _ _ t296 _ _ y299 r _ ?side1 ?side2 ?side3 ?side4 A13.out).mono ?_); (case side1=>repeat (first | exact (Kd.R_reads' HO298.out).2.2 | (with_reducible refine Kd.C_alloc ?_ _) | (with_reducible refine Kd.C_drewN ?_ _) | (with_reducible refine Kd.C_drew ?_))); (case side2=>exact (Kd.R_reads' HO298.out).2.1); (case side3=>repeat (first | exact (Kd.R_reads' HO301.out).2.2 | (with_reducible refine Kd.C_alloc ?_ _) | (with_reducible refine Kd.C_drewN ?_ _) | (with_reducible refine Kd.C_drew ?_))); (case side4=>exact (Kd.R_reads' HO301.out).2.1); rintro e w' ⟨rfl,⟨nd,rfl⟩⟩))
 go_ret
 exact ⟨by first | rfl | (simp [errW_none,errW_some] <;> rfl) | (simp [*,errW_none,errW_some] <;> rfl),by repeat (first | (with_reducible first | exact HB.out | apply below_alloc | apply pw_below_drewN | apply below_drew1) | exact HB.out)⟩
end Go.Proofs.Ythcnnfahlhklgaa.X
