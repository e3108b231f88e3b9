/- The law SuffixKinds holds of any bytes and any two numbers: Kth and Repeats tell what the document tells. No condition. -/
import Derived.Test.YthcnnfahlhklgaaSCSuffixKinds
import Derived.Test.YthcnnfahlhklgaaXx53
set_option linter.unusedVariables false
namespace Go.Proofs.Ythcnnfahlhklgaa.Pure
open Go.RowKit Go.Proofs.Ythcnnfahlhklgaa Go.Proofs.Ythcnnfahlhklgaa.X Go.Proofs.Ythcnnfahlhklgaa.SD Go.Proofs.Ythcnnfahlhklgaa.SK Go.Proofs.Ythcnnfahlhklgaa.SM Go.Proofs.YthcnnfahlhklgaaW.PrintWords Go.Proofs.YthcnnfahlhklgaaW.PrintLast
open Go.Sort

section
variable {s l p : List Int} {x : S82}
attribute [local irreducible] cn cv fr tov rk3 loc2 ch rank
theorem lives_f : ∃ K,∀ k,K≤k→sapperlaw13_lives.f k = some true:=by
 have h : sapperlaw13_lives.f 400 = some true:=by decide +kernel
 exact ⟨400,fun k hk=>at_rounds (g:=fun k=>sapperlaw13_lives.f k) (fun k=>sapperlaw13_lives.mono k) hk h⟩
theorem wf_i64 {x : Int} (h : (Lit.int .i64 x).wf = true) : -9223372036854775808≤x∧x≤9223372036854775807:=by
 simp [Lit.wf,IntKind.min,IntKind.max,IntKind.signed,IntKind.bits] at h
 omega
theorem same01_f : sapperref01_Same.f l l = some true:=by
 unfold sapperref01_Same.f
 rw [beq_self_eq_true]
theorem own_f (h : l.length≤1073741824) : sapperref01_Own.f [l,l] = some true:=by
 unfold sapperref01_Own.f
 rw [if_pos ⟨rfl,by simp; omega⟩]
theorem ch0 (hb : BL s) (i : Nat) : 0≤ch s i:=by
 unfold ch
 rw [List.getD_eq_getElem?_getD]
 rcases h : s[i]? with _ | v
 ·exact Int.le_refl _
 ·exact (hb v (List.mem_of_getElem? h)).1
theorem leaf_is (hs : s.length≤16777216) (hb : BL s) (hx : IsIx s x) {q : Nat} (hq : q < s.length) : suffix_Index_leaf.f [x] (q : Int) = some (0,(q : Int),PV x.f2 q,AV s x.f2 q):=by
 have hf1:=hx.2.1
 have hll:=hx.2.2.1.1
 obtain ⟨e1,e2,_⟩:=sa_at hx.2.2.1 hq
 unfold suffix_Index_leaf.f
 rw [if_pos (by simp),if_pos (by omega),show rd_T82 [x] 0 = x from rfl,if_pos (by omega),rd_nat,e1,hf1]
 unfold PV AV
 by_cases z : 0 < P x.f2 q
 ·have hm : ch s (P x.f2 q - 1) < 256:=by
   unfold ch
   rw [List.getD_eq_getElem?_getD]
   rcases h : s[P x.f2 q - 1]? with _ | v
   ·decide
   ·exact (hb v (List.mem_of_getElem? h)).2
  have h0:=ch0 hb (P x.f2 q - 1)
  rw [if_pos (by omega),wp (x:=(P x.f2 q : Int) - 1) (y:=((P x.f2 q - 1 : Nat) : Int)) (by omega) (by omega) (by omega),if_pos (by omega),if_pos (by omega),rd_nat,wp (x:=ch s (P x.f2 q - 1)) (y:=ch s (P x.f2 q - 1)) rfl (by omega) (by omega),if_pos z]
 ·rw [if_neg (by omega),if_neg z]
theorem cAt_is (hx : IsIx s x) {q : Nat} (hq : q < s.length) : cAt [x] (q : Int) = cq (LV s x.f2) s.length q:=by
 have hll:=hx.2.2.1.1
 unfold cAt cq
 rw [show rd_T82 [x] 0 = x from rfl,hll]
 by_cases z : q + 1 < s.length
 ·rw [if_pos (by omega),if_pos z,show (q : Int) + 1 = ((q + 1 : Nat) : Int) by omega,rd_nat,hx.2.2.2.2.2.2 _ z]; rfl
 ·rw [if_neg (by omega),if_neg z]
theorem rep_is (hs : s.length≤16777216) (hb : BL s) (hx : IsIx s x) (least : Int) : repL [x] least = (List.range' 0 s.length).flatMap (itq (LV s x.f2) (PV x.f2) (AV s x.f2) least s.length):=by
 unfold repL
 rw [show rd_T82 [x] 0 = x from rfl,hx.2.2.1.1]
 have:=run_is (least:=least) (l0:=[x]) (L:=LV s x.f2) (p:=PV x.f2) (a:=AV s x.f2) hs (fun q=>Int.natCast_nonneg _) (fun q=>by
  unfold AV
  split
  ·exact .inl (ch0 hb _)
  ·exact .inr rfl) (fun q hq=>by unfold lfG; rw [leaf_is hs hb hx hq]) (fun q hq=>cAt_is hx hq) s.length 0 [] [] (by omega) rfl
 rw [List.nil_append] at this
 exact this
theorem rep_perm (hs : s.length≤16777216) (hb : BL s) (hx : IsIx s x) {least : Int} (hl : 1≤least) : (rrF s x.f2 least s.length 0).Perm (repL [x] least):=by
 rw [rep_is hs hb hx]
 refine (List.perm_ext_iff_of_nodup ?_ (run_nodup _ _)).2 fun y=>(same_mem hx.2.2.1 (ch0 hb) hl).symm
 exact (rrF_sorted s.length 0).imp fun {a b} h e=>by
  subst e
  unfold before at h
  omega
theorem rr_keys (least : Int) (sa : List Int) : ((rrF s sa least s.length 0).map keyF).Nodup:=by
 unfold List.Nodup
 rw [List.pairwise_map]
 exact (rrF_sorted s.length 0).imp fun {a b} h e=>by
  unfold keyF at e
  injection e with e1 e2
  unfold before at h
  omega
theorem rr_before (least : Int) (sa : List Int) : (rrF s sa least s.length 0).Pairwise (fun x y=>ltOf cmpF y x = false):=by
 refine (rrF_sorted s.length 0).imp fun {a b} h=>?_
 rw [← Bool.not_eq_true,cmpF_lt]
 unfold before at h
 omega
theorem run_len (l0 : List S82) (least : Int) : ∀ (d : Nat) (r : Int) (st : List Gp) (l : List X.Fd),(runS l0 least d r st l).length≤d + st.length + l.length
 | 0,_,_,_=>by unfold runS; omega
 | d + 1,r,st,l=>by
  have h1:=popS_count r (cAt l0 r) least st (lfG l0 r) l
  have h2:=pushS_count (cAt l0 r) (popS r (cAt l0 r) least st (lfG l0 r) l).2.1 (popS r (cAt l0 r) least st (lfG l0 r) l).1
  have h3:=run_len l0 least d (r + 1) (pushS (cAt l0 r) (popS r (cAt l0 r) least st (lfG l0 r) l).2.1 (popS r (cAt l0 r) least st (lfG l0 r) l).1) (popS r (cAt l0 r) least st (lfG l0 r) l).2.2
  rw [runS]
  omega
theorem repeats_is (hs : s.length≤16777216) (hb : BL s) (hx : IsIx s x) {least : Int} (hl : 1≤least) : suffix_Index_Repeats.f [x] least = some ((rrF s x.f2 least s.length 0).map Fd.ag,0)∧(rrF s x.f2 least s.length 0).length≤16777216:=by
 have hp:=rep_perm hs hb hx hl
 have hk : ((repL [x] least).map keyF).Nodup:=(hp.map keyF).nodup_iff.1 (rr_keys least x.f2)
 have e : rrF s x.f2 least s.length 0 = sortL (repL [x] least):=sort_one hk hp (rr_before least x.f2)
 have h1 : rd_T82 [x] 0 = x:=rfl
 have hlen : (rrF s x.f2 least s.length 0).length≤s.length:=by
  rw [hp.length_eq]
  have:=run_len [x] least s.length 0 [] []
  unfold repL
  rw [h1,hx.2.2.1.1]
  simpa using this
 refine ⟨?_,by omega⟩
 have hok : RpOk [x] least:=⟨by rw [h1,hx.2.2.1.1]; exact hs,by rw [h1,hx.2.2.1.1]; exact hx.2.2.2.2.2.1,fun r h0 h2=>by
  rw [h1,hx.2.2.1.1] at h2
  obtain ⟨q,rfl⟩ : ∃ q : Nat,r = (q : Int):=⟨r.toNat,by omega⟩
  exact ⟨_,_,_,_,leaf_is hs hb hx (by omega)⟩,hk⟩
 unfold suffix_Index_Repeats.f
 rw [kix_f hx.1,if_neg (by simp),if_pos ⟨rfl,by simp⟩,if_neg (by omega),if_pos hok,e]
theorem repeats_low (hx : IsIx s x) {least : Int} (hl : least < 1) : suffix_Index_Repeats.f [x] least = some ([],1):=by
 unfold suffix_Index_Repeats.f
 rw [kix_f hx.1,if_neg (by simp),if_pos ⟨rfl,by simp⟩,if_pos hl]
theorem kinds_l0 {K1 : Nat} (h1 : ∀ k,K1≤k→sapperlaw13_lives.f k = some true) (L : List X.Fd) (hL : L.length≤16777216) (d : Nat) : ∀ q : Nat,q + d = L.length→∀ k,K1≤k→sapperlaw13_SuffixKinds.l0 (k + d + 1) (L.map Fd.ag) (L.map back) (L.length : Int) (q : Int) = some true:=by
 induction d with
 | zero =>
  intro q hq k hk
  rw [show k + 0 + 1 = k + 1 by omega,sapperlaw13_SuffixKinds.l0,if_neg (by omega),h1 k hk]; rfl
 | succ d ih =>
  intro q hq k hk
  have a1 : rd_T80 (L.map Fd.ag) (q : Int) = (L[q]'(by omega)).ag:=by
   unfold rd_T80
   rw [Int.toNat_natCast,List.getD_eq_getElem?_getD,List.getElem?_map,List.getElem?_eq_getElem (by omega)]; rfl
  have a2 : rd_T79 (L.map back) (q : Int) = back (L[q]'(by omega)):=by
   unfold rd_T79
   rw [Int.toNat_natCast,List.getD_eq_getElem?_getD,List.getElem?_map,List.getElem?_eq_getElem (by omega)]; rfl
  rw [show k + (d + 1) + 1 = k + d + 1 + 1 by omega,sapperlaw13_SuffixKinds.l0,if_pos (by omega),if_pos (by omega),if_pos (by rw [List.length_map]; omega),if_pos (by rw [List.length_map]; omega),a1,a2,if_neg (by unfold back; simp),wp (x:=(q : Int) + 1) (y:=((q + 1 : Nat) : Int)) (by omega) (by omega) (by omega)]
  exact ih (q + 1) (by omega) k hk
theorem kinds_j1 (hs : s.length≤16777216) (hb : BL s) (hx : IsIx s x) {K1 : Nat} (h1 : ∀ k,K1≤k→sapperlaw13_lives.f k = some true) (least : Int) : ∃ K,∀ k,K≤k→sapperlaw13_SuffixKinds.j1 k s least [x] false = some true:=by
 by_cases hl : least < 1
 ·refine ⟨K1 + 1,fun k hk=>?_⟩
  obtain ⟨k,rfl⟩ : ∃ k',k = k' + 1:=⟨k - 1,by omega⟩
  rw [sapperlaw13_SuffixKinds.j1,if_neg (by decide),repeats_low hx hl,Option.bind_some,if_pos hl,if_pos (by simp),if_pos rfl,h1 k (by omega),Option.bind_some]
 ·obtain ⟨r1,r2⟩:=repeats_is hs hb hx (show 1≤least by omega)
  have hbk:=rrF_back (s:=s) (sa:=x.f2) least s.length 0
  obtain ⟨K2,h2⟩:=refArray_ok hs hb hx.2.2.1
  obtain ⟨K3,h3⟩:=refLcp_ok hs hb hx.2.2.1 hx.2.2.2.2.2.1 hx.2.2.2.2.2.2
  obtain ⟨K4,h4⟩:=l0_all hs hb hx.2.2.1 hx.2.2.2.2.2.1 hx.2.2.2.2.2.2 least s.length 0 [] (by omega) (by rw [List.nil_append,← hbk,List.length_map]; exact r2)
  refine ⟨K1 + K2 + K3 + K4 + (rrF s x.f2 least s.length 0).length + 3,fun k hk=>?_⟩
  obtain ⟨k,rfl⟩ : ∃ k',k = k' + (rrF s x.f2 least s.length 0).length + 1 + 1 + 1:=⟨k - (rrF s x.f2 least s.length 0).length - 3,by omega⟩
  have hdoc : sapperref13_Repeats.f (k + (rrF s x.f2 least s.length 0).length + 1 + 1) s least = some ((rrF s x.f2 least s.length 0).map back):=by
   unfold sapperref13_Repeats.f
   rw [h2 _ (by omega),Option.bind_some,h3 _ (by omega),Option.bind_some,hx.2.2.1.1,hbk]
   have:=h4 (k + (rrF s x.f2 least s.length 0).length + 1 + 1) (by omega)
   rw [List.nil_append] at this
   exact this
  rw [sapperlaw13_SuffixKinds.j1,if_neg (by decide),r1,Option.bind_some,if_neg hl,hdoc,Option.bind_some,if_pos rfl,sapperlaw13_SuffixKinds.j2,if_neg (by simp)]
  have:=kinds_l0 h1 (rrF s x.f2 least s.length 0) r2 (rrF s x.f2 least s.length 0).length 0 (by omega) k (by omega)
  rw [List.length_map]
  exact this
end
theorem SuffixKinds : sapperlaw13_SuffixKinds.Pure:=by
 intro s a1 a2 _ _ hw h1w _
 obtain ⟨K1,h1⟩:=lives_f
 have hb:=bl_of_wf hw
 by_cases hs : s.length≤16777216
 ·have hbyt : Byt s:=fun q hq=>by
   have:=hb (s[q]) (List.getElem_mem _)
   unfold ch
   rw [List.getD_eq_getElem?_getD,List.getElem?_eq_getElem hq]
   exact this
  obtain ⟨K2,x,h2,hx⟩:=New_ok hs hbyt
  have ha : a1 < 9223372036854775808:=by
   have:=(wf_i64 h1w).2
   omega
  obtain ⟨K3,u,b,hu,hn,h3⟩:=kth_both hs hb hx a1 ha
  obtain ⟨K4,h4⟩:=kinds_j1 hs hb hx h1 a2
  refine ⟨K2 + K3 + K4 + 1,?_⟩
  have g3:=h3 (K2 + K3 + K4) (by omega)
  unfold sapperlaw13_SuffixKinds.f
  rw [h2 _ (by omega),Option.bind_some]
  dsimp only
  rw [if_neg (by omega),if_pos rfl,show (([x].length : Int) == 0) = false from rfl,sapperlaw13_SuffixKinds.j0,if_neg (by decide),g3.1,Option.bind_some,Option.bind_some,g3.2,Option.bind_some]
  cases b with
  | true =>
   dsimp only
   rw [if_neg (by decide),if_pos rfl,same01_f,Option.bind_some,if_pos rfl,Option.bind_some,if_pos rfl,own_f (by omega),Option.bind_some]
   exact h4 _ (by omega)
  | false =>
   dsimp only
   rw [if_neg (by decide),if_neg (by decide),if_pos (by decide),same01_f,Option.bind_some,if_pos rfl,Option.bind_some,if_pos rfl,own_f (by omega),Option.bind_some]
   exact h4 _ (by omega)
 ·refine ⟨0,?_⟩
  unfold sapperlaw13_SuffixKinds.f
  rw [New_many (by omega),Option.bind_some,if_pos (by omega)]
  rfl
end Go.Proofs.Ythcnnfahlhklgaa.Pure
