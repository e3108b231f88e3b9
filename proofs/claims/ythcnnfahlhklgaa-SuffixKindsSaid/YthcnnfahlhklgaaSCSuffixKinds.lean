import Derived.Test.YthcnnfahlhklgaaSB
import Derived.Test.YthcnnfahlhklgaaXK
import Derived.Test.YthcnnfahlhklgaaXx14
import Derived.Test.YthcnnfahlhklgaaXx24
import Derived.Test.YthcnnfahlhklgaaXx50
import Derived.Test.YthcnnfahlhklgaaXx51
import Derived.Test.YthcnnfahlhklgaaXx52
import Derived.Test.YthcnnfahlhklgaaXRp
import Derived.Test.YthcnnfahlhklgaaXx25
import Derived.Test.YthcnnfahlhklgaaXx26
import Derived.Test.YthcnnfahlhklgaaXx27
import Derived.Test.YthcnnfahlhklgaaXx21
section
/- The printed functions sorted, same, New and the accessors of package suffix, and build: an index of any bytes (at most 2^24) has their order, the ranks, and what neighbours have in common. -/
namespace Go.Proofs.Ythcnnfahlhklgaa.SD
open Go.RowKit Go.Proofs.Ythcnnfahlhklgaa Go.Proofs.Ythcnnfahlhklgaa.X Go.Proofs.Ythcnnfahlhklgaa.SM Go.Proofs.YthcnnfahlhklgaaW.PrintWords Go.Proofs.YthcnnfahlhklgaaW.PrintLast

section
variable {s : List Int}
attribute [local irreducible] cn cv fr tov rk3 loc2 ch rank

theorem byte_wf' {x : Int} (h : (Lit.int .u8 x).wf = true) : 0≤x∧x < 256:=by
 simp [Lit.wf,IntKind.min,IntKind.max,IntKind.signed,IntKind.bits] at h
 omega
def Byt (s : List Int) : Prop:=∀ q,q < s.length→0≤ch s q∧ch s q < 256
def P (sa : List Int) (r : Nat) : Nat:=(ch sa r).toNat
theorem P_rank {sa : List Int} (h : IsSA s sa) {i : Nat} (hi : i < s.length) : P sa (rank s.length (ch s) i) = i:=by
 unfold P; rw [h.2 i hi]; omega
theorem sa_at {sa : List Int} (h : IsSA s sa) {r : Nat} (hr : r < s.length) : ch sa r = (P sa r : Int)∧P sa r < s.length∧rank s.length (ch s) (P sa r) = r:=by
 obtain ⟨i,hi,hir⟩:=rank_onto (c:=ch s) hr
 have h1:=h.2 i hi
 rw [hir] at h1
 have h2 : P sa r = i:=by unfold P; rw [h1]; omega
 rw [h2,h1]
 exact ⟨rfl,hi,hir⟩
def lcv (s sa : List Int) (r : Nat) : Nat:=if r = 0 then 0 else com s.length (ch s) (P sa (r - 1)) (P sa r)
def IsIx (s : List Int) (x : S82) : Prop :=
 x.f0 = true∧x.f1 = s∧IsSA s x.f2∧x.f3.length = s.length∧(∀ i,i < s.length→ch x.f3 i = (rank s.length (ch s) i : Int)) ∧
 x.f4.length = s.length∧∀ r,r < s.length→ch x.f4 r = (lcv s x.f2 r : Int)

theorem sorted_loop (hs : s.length≤16777216) (hb : Byt s) (d : Nat) : ∀ q (o : List Int),s.length - q = d→q≤s.length→o.length = s.length→(∀ j,j < q→ch o j = ch s j)→∀ k,suffix_sorted.l0 (k + d + 1) o s (s.length : Int) (q : Int) = (sais_Array.f (k + d - (s.length - q)) 256 s).bind fun b=>some (b.1,b.2):=by
 induction d with
 | zero =>
  intro q o hd hq ho hp k
  have e : o = s:=by
   apply List.ext_getElem?
   intro j
   rcases Nat.lt_or_ge j s.length with hj | hj
   ·have h1:=hp j (by omega)
    unfold ch at h1
    rw [List.getD_eq_getElem?_getD,List.getD_eq_getElem?_getD,List.getElem?_eq_getElem (by omega),List.getElem?_eq_getElem hj] at h1
    rw [List.getElem?_eq_getElem (by omega),List.getElem?_eq_getElem hj]
    simpa using h1
   ·rw [List.getElem?_eq_none (by omega),List.getElem?_eq_none hj]
  rw [show k + 0 + 1 = k + 1 by omega,suffix_sorted.l0,if_neg (by omega),e,show k + 0 - (s.length - q) = k by omega]
 | succ d ih =>
  intro q o hd hq ho hp k
  have hv:=hb q (by omega)
  have next:=ih (q + 1) (o.set q (ch s q)) (by omega) (by omega) (by rw [List.length_set]; exact ho) (fun j hj=>by
   rw [ch_set _ _ _ _ (by omega)]
   by_cases e : q = j
   ·rw [if_pos e,← e]
   ·rw [if_neg e]; exact hp j (by omega)) k
  rw [show k + (d + 1) + 1 = k + d + 1 + 1 by omega,suffix_sorted.l0,if_pos (by omega),if_pos (by omega),if_pos (by omega),if_pos (by omega),rd_nat,wp (x:=ch s q) rfl (by omega) (by omega),wp (x:=(q : Int) + 1) (y:=((q + 1 : Nat) : Int)) (by omega) (by omega) (by omega),Int.toNat_natCast,next,show k + d - (s.length - (q + 1)) = k + (d + 1) - (s.length - q) by omega]
theorem sorted_ok (hs : s.length≤16777216) (hb : Byt s) : ∃ K sa,(∀ k,K≤k→suffix_sorted.f k s = some (sa,0))∧IsSA s sa:=by
 obtain ⟨K,sa,h1,h2⟩:=Array_ok (k0:=256) (s:=s) ⟨by omega,by omega,hs,hb⟩
 refine ⟨K + s.length + 1,sa,fun k hk=>?_,h2⟩
 unfold suffix_sorted.f
 rw [if_neg (by omega),if_pos (by omega),if_pos (by omega),Int.toNat_natCast]
 have:=sorted_loop hs hb s.length 0 (List.replicate s.length 0) (by omega) (by omega) (by simp) (fun j hj=>by omega) (k - s.length - 1)
 rw [show k - s.length - 1 + s.length + 1 = k by omega] at this
 rw [show ((0 : Nat) : Int) = 0 from rfl] at this
 rw [this,h1 _ (by omega)]; rfl
theorem sorted_many (hs : 16777216 < s.length) (k : Nat) : suffix_sorted.f k s = some ([],130):=by
 unfold suffix_sorted.f
 rw [if_pos (by omega)]
theorem sameIx_loop {y : S82} (hy : y.f1 = s) (hs : s.length≤16777216) {i j : Nat} (hi : i≤s.length) (hj : j≤s.length) (d : Nat) : ∀ q,com s.length (ch s) i j - q = d→q≤com s.length (ch s) i j→∀ k,suffix_Index_same.l0 (k + d + 1) [y] (i : Int) (j : Int) (q : Int) = some (com s.length (ch s) i j : Int):=by
 have hrd : rd_T82 [y] 0 = y:=rfl
 have hle:=com_le (n:=s.length) (c:=ch s) i j
 have w1 : ∀ q : Nat,q≤s.length→wrap64 ((i : Int) + (q : Int)) = ((i + q : Nat) : Int):=fun q hq=>wp (by omega) (by omega) (by omega)
 have w2 : ∀ q : Nat,q≤s.length→wrap64 ((j : Int) + (q : Int)) = ((j + q : Nat) : Int):=fun q hq=>wp (by omega) (by omega) (by omega)
 induction d with
 | zero =>
  intro q hd hq k
  have hqe : q = com s.length (ch s) i j:=by omega
  have he:=com_end (n:=s.length) (c:=ch s) (i:=i) (j:=j)
  rw [← hqe] at he ⊢
  rw [show k + 0 + 1 = k + 1 by omega,suffix_Index_same.l0,hrd,hy,w1 q (by omega),w2 q (by omega),if_pos (by simp)]
  by_cases h1 : i + q < s.length
  ·rw [if_pos (by omega)]
   by_cases h2 : j + q < s.length
   ·rw [if_pos (by omega),if_pos (by omega),if_pos (by omega),rd_nat,rd_nat,if_neg (fun h3=>he ⟨h1,h2,h3⟩)]
   ·rw [if_neg (by omega)]
  ·rw [if_neg (by omega)]
 | succ d ih =>
  intro q hd hq k
  have hg:=com_get (n:=s.length) (c:=ch s) (i:=i) (j:=j) (q:=q) (by omega)
  rw [show k + (d + 1) + 1 = k + d + 1 + 1 by omega,suffix_Index_same.l0,hrd,hy,w1 q (by omega),w2 q (by omega),if_pos (by simp),if_pos (by omega),if_pos (by omega),if_pos (by omega),if_pos (by omega),rd_nat,rd_nat,if_pos hg.2.2,wp (x:=(q : Int) + 1) (y:=((q + 1 : Nat) : Int)) (by omega) (by omega) (by omega)]
  exact ih (q + 1) (by omega) (by omega) k
theorem sameIx_f {y : S82} (hy : y.f1 = s) (hs : s.length≤16777216) {i j : Nat} (hi : i≤s.length) (hj : j≤s.length) {k : Nat} (hk : com s.length (ch s) i j + 1≤k) : suffix_Index_same.f k [y] (i : Int) (j : Int) = some (com s.length (ch s) i j : Int):=by
 unfold suffix_Index_same.f
 have:=sameIx_loop hy hs hi hj (com s.length (ch s) i j) 0 (by omega) (by omega) (k - com s.length (ch s) i j - 1)
 rw [show k - com s.length (ch s) i j - 1 + com s.length (ch s) i j + 1 = k by omega] at this
 exact this

theorem build_r_ok (hs : s.length≤16777216) {sa : List Int} (hsa : IsSA s sa) (d : Nat) : ∀ q (o : List Int),s.length - q = d→q≤s.length→o.length = s.length→(∀ i,i < s.length→rank s.length (ch s) i < q→ch o i = (rank s.length (ch s) i : Int)) →
  ∃ o',o'.length = s.length∧(∀ i,i < s.length→ch o' i = (rank s.length (ch s) i : Int))∧∀ k,build_r (k + d + 1) s.length sa o (q : Int) = some o':=by
 induction d with
 | zero =>
  intro q o hd hq ho hp
  refine ⟨o,ho,fun i hi=>hp i hi (by have:=rank_lt (c:=ch s) hi; omega),fun k=>?_⟩
  rw [show k + 0 + 1 = k + 1 by omega,build_r,if_neg (by omega)]
 | succ d ih =>
  intro q o hd hq ho hp
  obtain ⟨h1,h2,h3⟩:=sa_at hsa (show q < s.length by omega)
  obtain ⟨o',g1,g2,g3⟩:=ih (q + 1) (o.set (P sa q) (q : Int)) (by omega) (by omega) (by rw [List.length_set]; exact ho) (fun i hi hr=>by
   rw [ch_set _ _ _ _ (by omega)]
   by_cases e : P sa q = i
   ·rw [if_pos e,← e,h3]
   ·rw [if_neg e]
    refine hp i hi ?_
    have : rank s.length (ch s) i ≠ q:=fun e2=>e (rank_inj h2 hi (by rw [h3,e2]))
    omega)
  refine ⟨o',g1,g2,fun k=>?_⟩
  rw [show k + (d + 1) + 1 = k + d + 1 + 1 by omega,build_r,if_pos (by omega),if_pos (by omega),rd_nat,h1,if_pos (by omega),if_pos (by omega),Int.toNat_natCast,wp (x:=(q : Int) + 1) (y:=((q + 1 : Nat) : Int)) (by omega) (by omega) (by omega)]
  exact g3 k

theorem build_l_ok (hs : s.length≤16777216) {sa rk : List Int} (hsa : IsSA s sa) (hrl : rk.length = s.length) (hrk : ∀ i,i < s.length→ch rk i = (rank s.length (ch s) i : Int)) (d : Nat) : ∀ i h (l : List Int),s.length - i = d→i≤s.length→l.length = s.length→h≤s.length→(i < s.length→0 < rank s.length (ch s) i→h≤com s.length (ch s) (P sa (rank s.length (ch s) i - 1)) i) →
  (∀ j,j < s.length→j < i∨rank s.length (ch s) j = 0→ch l (rank s.length (ch s) j) = (lcv s sa (rank s.length (ch s) j) : Int)) →
  ∃ l',l'.length = s.length∧(∀ r,r < s.length→ch l' r = (lcv s sa r : Int))∧∀ k,build_l (k + d + 2) s.length s sa rk l (h : Int) (i : Int) = some l':=by
 induction d with
 | zero =>
  intro i h l hd hi hl hh hc hp
  refine ⟨l,hl,fun r hr=>?_,fun k=>?_⟩
  ·obtain ⟨j,hj,hjr⟩:=rank_onto (c:=ch s) hr
   rw [← hjr]; exact hp j hj (.inl (by omega))
  ·rw [show k + 0 + 2 = k + 1 + 1 by omega,build_l,if_neg (by omega)]
 | succ d ih =>
  intro i h l hd hi hl hh hc hp
  have hi' : i < s.length:=by omega
  have hrlt:=rank_lt (c:=ch s) hi'
  by_cases h0 : rank s.length (ch s) i = 0
  ·obtain ⟨l',g1,g2,g3⟩:=ih (i + 1) 0 l (by omega) (by omega) hl (by omega) (fun _ _=>by omega) (fun j hj hji=>hp j hj (by
    rcases hji with hji | hji
    ·by_cases e : j = i
     ·rw [e]; exact .inr h0
     ·exact .inl (by omega)
    ·exact .inr hji))
   refine ⟨l',g1,g2,fun k=>?_⟩
   rw [show k + (d + 1) + 2 = k + d + 2 + 1 by omega,build_l,if_pos (by omega),if_pos (by omega),rd_nat,hrk i hi',if_pos (by omega),wp (x:=(i : Int) + 1) (y:=((i + 1 : Nat) : Int)) (by omega) (by omega) (by omega)]
   exact g3 k
  ·obtain ⟨e1,e2,e3⟩:=sa_at hsa (show rank s.length (ch s) i - 1 < s.length by omega)
   have hc':=hc hi' (by omega)
   generalize hm : com s.length (ch s) (P sa (rank s.length (ch s) i - 1)) i = m at hc'
   generalize hj : P sa (rank s.length (ch s) i - 1) = j at *
   have hfr:=com_from (n:=s.length) (c:=ch s) h j i (by omega)
   have hle:=com_le (n:=s.length) (c:=ch s) j i
   have hcm : com s.length (ch s) (i + h) (j + h) = m - h:=by rw [com_comm]; omega
   have hP : P sa (rank s.length (ch s) i) = i:=P_rank hsa hi'
   have hl2 : ∀ r,r < s.length→ch (l.set (rank s.length (ch s) i) (m : Int)) r = if rank s.length (ch s) i = r then (m : Int) else ch l r:=by
    intro r hr; exact ch_set _ _ _ _ (by omega)
   obtain ⟨l',g1,g2,g3⟩:=ih (i + 1) (m - 1) (l.set (rank s.length (ch s) i) (m : Int)) (by omega) (by omega) (by rw [List.length_set]; exact hl) (by omega)
    (fun hi1 hr1=>by
     have:=(kasai (n:=s.length) (c:=ch s) (p:=P sa) (fun i hi=>P_rank hsa hi) hi1 (by omega)).1
     rw [hj,hm] at this
     omega)
    (fun j' hj' hji=>by
     rw [hl2 _ (rank_lt hj')]
     by_cases e : rank s.length (ch s) i = rank s.length (ch s) j'
     ·have:=rank_inj hi' hj' e
      subst this
      rw [if_pos rfl]
      unfold lcv
      rw [if_neg h0,hj,hP,hm]
     ·rw [if_neg e]
      refine hp j' hj' ?_
      rcases hji with hji | hji
      ·have : j' ≠ i:=fun e'=>e (by rw [e'])
       exact .inl (by omega)
      ·exact .inr hji)
   refine ⟨l',g1,g2,fun k=>?_⟩
   have hsm : suffix_Index_same.f (k + d + 2) [⟨true,s,sa,rk,l⟩] (((i + h : Nat) : Int)) (((j + h : Nat) : Int)) = some ((m - h : Nat) : Int):=by
    rw [sameIx_f (s:=s) (y:=⟨true,s,sa,rk,l⟩) rfl hs (by omega) (by omega) (by rw [hcm]; omega),hcm]
   rw [show k + (d + 1) + 2 = k + d + 2 + 1 by omega,build_l,if_pos (by omega),if_pos (by omega),rd_nat,hrk i hi',if_neg (by omega),wp (x:=(rank s.length (ch s) i : Int) - 1) (y:=((rank s.length (ch s) i - 1 : Nat) : Int)) (by omega) (by omega) (by omega),if_pos (by omega),if_pos (by omega),rd_nat,e1,
    wp (x:=(i : Int) + (h : Int)) (y:=((i + h : Nat) : Int)) (by omega) (by omega) (by omega),wp (x:=(j : Int) + (h : Int)) (y:=((j + h : Nat) : Int)) (by omega) (by omega) (by omega),hsm,Option.bind_some,if_pos (by omega),if_pos (by omega),Int.toNat_natCast,
    wp (x:=(h : Int) + ((m - h : Nat) : Int)) (y:=(m : Int)) (by omega) (by omega) (by omega),wp (x:=(m : Int) - 1) (y:=(m : Int) - 1) rfl (by omega) (by omega),show mx ((m : Int) - 1) 0 = ((m - 1 : Nat) : Int) by (unfold mx; split <;> omega),wp (x:=(i : Int) + 1) (y:=((i + 1 : Nat) : Int)) (by omega) (by omega) (by omega)]
   exact g3 k
theorem build_ok (hs : s.length≤16777216) {sa : List Int} (hsa : IsSA s sa) : ∃ x,suffix_build.f s sa = some [x]∧x.f2 = sa∧IsIx s x:=by
 obtain ⟨rk,r1,r2,r3⟩:=build_r_ok hs hsa s.length 0 (List.replicate s.length 0) (by omega) (by omega) (by simp) (fun i _ h=>by omega)
 obtain ⟨lc,l1,l2,l3⟩:=build_l_ok hs hsa r1 r2 s.length 0 0 (List.replicate s.length 0) (by omega) (by omega) (by simp) (by omega) (fun _ _=>by omega) (fun j hj hji=>by
  have h0 : rank s.length (ch s) j = 0:=by omega
  rw [h0]
  unfold lcv
  rw [if_pos rfl]
  unfold ch
  rw [List.getD_eq_getElem?_getD,List.getElem?_replicate]
  split <;> rfl)
 refine ⟨⟨true,s,sa,rk,lc⟩,?_,rfl,rfl,rfl,hsa,r1,r2,l1,l2⟩
 unfold suffix_build.f
 have a1:=r3 0
 have a2:=l3 0
 rw [show 0 + s.length + 1 = s.length + 1 by omega,show ((0 : Nat) : Int) = 0 from rfl] at a1
 rw [show 0 + s.length + 2 = s.length + 2 by omega,show ((0 : Nat) : Int) = 0 from rfl] at a2
 rw [if_pos hs,if_pos hsa.1,a1,Option.bind_some,a2]; rfl
theorem New_ok (hs : s.length≤16777216) (hb : Byt s) : ∃ K x,(∀ k,K≤k→suffix_New.f k s = some ([x],0))∧IsIx s x:=by
 obtain ⟨K,sa,h1,h2⟩:=sorted_ok hs hb
 obtain ⟨x,h3,_,h4⟩:=build_ok hs h2
 refine ⟨K,x,fun k hk=>?_,h4⟩
 unfold suffix_New.f
 rw [h1 k hk,Option.bind_some,if_pos rfl,h3]; rfl
theorem New_many (hs : 16777216 < s.length) (k : Nat) : suffix_New.f k s = some ([],130):=by
 unfold suffix_New.f
 rw [sorted_many hs,Option.bind_some,if_neg (by decide)]
end
end Go.Proofs.Ythcnnfahlhklgaa.SD
end

section
/- The document's Array is the suffix array. -/
namespace Go.Proofs.Ythcnnfahlhklgaa.SD
open Go.RowKit Go.Proofs.Ythcnnfahlhklgaa Go.Proofs.Ythcnnfahlhklgaa.X Go.Proofs.Ythcnnfahlhklgaa.SM Go.Proofs.YthcnnfahlhklgaaW.PrintWords Go.Proofs.YthcnnfahlhklgaaW.PrintLast

section
variable {s : List Int}
attribute [local irreducible] cv fr tov rk3 loc2 ch rank
theorem ext_ch {l l' : List Int} (hl : l.length = l'.length) (h : ∀ q,q < l.length→ch l q = ch l' q) : l = l':=by
 apply List.ext_getElem?
 intro q
 rcases Nat.lt_or_ge q l.length with hq | hq
 ·have h1:=h q hq
  unfold ch at h1
  rw [List.getD_eq_getElem?_getD,List.getD_eq_getElem?_getD,List.getElem?_eq_getElem hq,List.getElem?_eq_getElem (by omega)] at h1
  rw [List.getElem?_eq_getElem hq,List.getElem?_eq_getElem (by omega)]
  simpa using h1
 ·rw [List.getElem?_eq_none (by omega),List.getElem?_eq_none (by omega)]
theorem sa_one {l l' : List Int} (h : IsSA s l) (h' : IsSA s l') : l = l':=by
 refine ext_ch (by rw [h.1,h'.1]) fun q hq=>?_
 rw [h.1] at hq
 obtain ⟨i,hi,he⟩:=rank_onto (c:=ch s) hq
 have h1:=h.2 i hi
 have h2:=h'.2 i hi
 rw [he] at h1 h2
 rw [h1,h2]
theorem bl_of_wf (h : ∀ x ∈ s,(Lit.int .u8 x).wf = true) : BL s:=fun x hx=>byte_wf' (h x hx)
theorem refArray_l1 (hs : s.length≤16777216) (hb : BL s) {i : Nat} (hi : i < s.length) (o : List Int) (ho : o.length = s.length) (d : Nat) : ∀ q,s.length - q = d→q≤s.length→∀ k,sapperref13_Array.l1 (k + d + 1) s (i : Int) ((cn q fun j=>slt s.length (ch s) j i : Nat) : Int) o (s.length : Int) (i : Int) (s.length : Int) (q : Int) = sapperref13_Array.l0 k s (o.set (rank s.length (ch s) i) (i : Int)) (s.length : Int) ((i + 1 : Nat) : Int):=by
 induction d with
 | zero =>
  intro q hd hq k
  have : q = s.length:=by omega
  subst this
  have hr:=rank_lt (c:=ch s) hi
  have e : (cn s.length fun j=>slt s.length (ch s) j i) = rank s.length (ch s) i:=by unfold rank; rfl
  rw [show k + 0 + 1 = k + 1 by omega,sapperref13_Array.l1,if_neg (by omega),e,if_pos (by omega),if_pos (by omega),Int.toNat_natCast,wp (x:=(i : Int) + 1) (y:=((i + 1 : Nat) : Int)) (by omega) (by omega) (by omega)]
 | succ d ih =>
  intro q hd hq k
  have hle:=cn_le (n:=q) (fun j=>slt s.length (ch s) j i)
  have e : (cn (q + 1) fun j=>slt s.length (ch s) j i) = (cn q fun j=>slt s.length (ch s) j i) + if slt s.length (ch s) q i = true then 1 else 0:=by
   rw [cn]; try (cases slt s.length (ch s) q i <;> simp)
  rw [show k + (d + 1) + 1 = k + d + 1 + 1 by omega,sapperref13_Array.l1,if_pos (by omega),if_pos (by omega),if_pos (by omega),if_pos (by omega),if_pos (by omega),Int.toNat_natCast,Int.toNat_natCast,less_sl (hb.drop q) (hb.drop i),lessL_slt _ q i rfl,wp (x:=(q : Int) + 1) (y:=((q + 1 : Nat) : Int)) (by omega) (by omega) (by omega)]
  have next:=ih (q + 1) (by omega) (by omega) k
  rw [e] at next
  by_cases h : slt s.length (ch s) q i = true
  ·rw [if_pos h,wp (x:=((cn q fun j=>slt s.length (ch s) j i : Nat) : Int) + 1) (y:=(((cn q fun j=>slt s.length (ch s) j i) + 1 : Nat) : Int)) (by omega) (by omega) (by omega)]
   rw [if_pos h] at next
   exact next
  ·rw [if_neg h]
   rw [if_neg h,Nat.add_zero] at next
   exact next
theorem refArray_l0 (hs : s.length≤16777216) (hb : BL s) (d : Nat) : ∀ i (o : List Int),s.length - i = d→i≤s.length→o.length = s.length→(∀ j,j < i→ch o (rank s.length (ch s) j) = (j : Int))→∃ K o',IsSA s o'∧∀ k,K≤k→sapperref13_Array.l0 k s o (s.length : Int) (i : Int) = some o':=by
 induction d with
 | zero =>
  intro i o hd hi ho hp
  have : i = s.length:=by omega
  subst this
  refine ⟨1,o,⟨ho,hp⟩,fun k hk=>?_⟩
  obtain ⟨k,rfl⟩ : ∃ k',k = k' + 1:=⟨k - 1,by omega⟩
  rw [sapperref13_Array.l0,if_neg (by omega)]
 | succ d ih =>
  intro i o hd hi ho hp
  have hi' : i < s.length:=by omega
  have hr:=rank_lt (c:=ch s) hi'
  obtain ⟨K,o',h1,h2⟩:=ih (i + 1) (o.set (rank s.length (ch s) i) (i : Int)) (by omega) (by omega) (by rw [List.length_set]; exact ho) (fun j hj=>by
   rw [ch_set _ _ _ _ (by omega)]
   by_cases e : rank s.length (ch s) i = rank s.length (ch s) j
   ·rw [if_pos e,rank_inj hi' (by omega) e]
   ·rw [if_neg e]
    refine hp j ?_
    have : j ≠ i:=fun e2=>e (by rw [e2])
    omega)
  refine ⟨K + s.length + 2,o',h1,fun k hk=>?_⟩
  obtain ⟨k,rfl⟩ : ∃ k',k = k' + s.length + 1 + 1:=⟨k - s.length - 2,by omega⟩
  rw [sapperref13_Array.l0,if_pos (by omega)]
  have:=refArray_l1 hs hb hi' o ho s.length 0 (by omega) (by omega) k
  rw [show ((cn 0 fun j=>slt s.length (ch s) j i : Nat) : Int) = 0 from rfl,show ((0 : Nat) : Int) = 0 from rfl] at this
  rw [this]
  exact h2 k (by omega)
theorem refArray_ok (hs : s.length≤16777216) (hb : BL s) {sa : List Int} (hsa : IsSA s sa) : ∃ K,∀ k,K≤k→sapperref13_Array.f k s = some sa:=by
 obtain ⟨K,o',h1,h2⟩:=refArray_l0 hs hb s.length 0 (List.replicate s.length 0) (by omega) (by omega) (by simp) (fun j hj=>by omega)
 refine ⟨K,fun k hk=>?_⟩
 unfold sapperref13_Array.f
 have:=h2 k hk
 rw [show ((0 : Nat) : Int) = 0 from rfl] at this
 rw [if_pos (by omega),if_pos (by omega),Int.toNat_natCast,this,sa_one h1 hsa]
end
end Go.Proofs.Ythcnnfahlhklgaa.SD
end

section
/- The unlike texts of any bytes, in their order: how many, which, that they rise; and Kth tells them. -/
namespace Go.Proofs.Ythcnnfahlhklgaa.SD
open Go.RowKit Go.Proofs.Ythcnnfahlhklgaa Go.Proofs.Ythcnnfahlhklgaa.X Go.Proofs.Ythcnnfahlhklgaa.SM Go.Proofs.YthcnnfahlhklgaaW.PrintWords Go.Proofs.YthcnnfahlhklgaaW.PrintLast

section
variable {s : List Int} {sa : List Int}
attribute [local irreducible] cn cv fr tov rk3 loc2 ch rank
def fresh (s sa : List Int) (r : Nat) : Nat:=s.length - P sa r - lcv s sa r
def base (s sa : List Int) : Nat→Nat
 | 0=>0
 | r + 1=>base s sa r + fresh s sa r
def txt (s sa : List Int) (r j : Nat) : List Int:=(s.drop (P sa r)).take (lcv s sa r + 1 + j)
theorem sa_slt (h : IsSA s sa) {r : Nat} (hr : r + 1 < s.length) : slt s.length (ch s) (P sa r) (P sa (r + 1)) = true:=by
 obtain ⟨_,a1,a2⟩:=sa_at h (show r < s.length by omega)
 obtain ⟨_,b1,b2⟩:=sa_at h hr
 exact (rank_iff a1 b1).1 (by omega)
theorem lcv_at (sa : List Int) (r : Nat) : lcv s sa (r + 1) = com s.length (ch s) (P sa r) (P sa (r + 1)):=by
 unfold lcv; rw [if_neg (by omega),Nat.add_sub_cancel]
theorem fresh_pos (h : IsSA s sa) {r : Nat} (hr : r < s.length) : P sa r < s.length∧lcv s sa r < s.length - P sa r∧fresh s sa r + lcv s sa r + P sa r = s.length∧0 < fresh s sa r:=by
 have h1:=(sa_at h hr).2.1
 have h2 : lcv s sa r < s.length - P sa r:=by
  cases r with
  | zero=>unfold lcv; rw [if_pos rfl]; omega
  | succ r =>
   rw [lcv_at]
   have:=(slt_com.1 (sa_slt h hr)).1
   omega
 refine ⟨h1,h2,?_,?_⟩ <;> (unfold fresh; omega)
theorem base_mono (s sa : List Int) {a b : Nat} (h : a≤b) : base s sa a≤base s sa b:=by
 obtain ⟨d,rfl⟩:=Nat.exists_eq_add_of_le h
 clear h
 induction d with
 | zero=>exact Nat.le_refl _
 | succ d ih =>
  have : base s sa (a + (d + 1)) = base s sa (a + d) + fresh s sa (a + d):=rfl
  omega
theorem base_one {r r2 j j2 : Nat} (h : base s sa r + j = base s sa r2 + j2) (h1 : j < fresh s sa r) (h2 : j2 < fresh s sa r2) : r = r2∧j = j2:=by
 rcases Nat.lt_trichotomy r r2 with g | g | g
 ·have:=base_mono s sa (show r + 1≤r2 by omega)
  have e : base s sa (r + 1) = base s sa r + fresh s sa r:=rfl
  omega
 ·subst g; exact ⟨rfl,by omega⟩
 ·have:=base_mono s sa (show r2 + 1≤r by omega)
  have e : base s sa (r2 + 1) = base s sa r2 + fresh s sa r2:=rfl
  omega
theorem txt_len (h : IsSA s sa) {r j : Nat} (hr : r < s.length) (hj : j < fresh s sa r) : (txt s sa r j).length = lcv s sa r + 1 + j:=by
 have:=fresh_pos h hr
 unfold txt
 rw [List.length_take,List.length_drop]
 omega
theorem rise_in (h : IsSA s sa) {r j : Nat} (hr : r < s.length) (hj : j + 1 < fresh s sa r) : lessL (txt s sa r j) (txt s sa r (j + 1)) = true:=by
 have l1:=txt_len h hr (show j < fresh s sa r by omega)
 have l2:=txt_len h hr hj
 refine lessL_of (lcv s sa r + 1 + j) (by omega) (fun q hq=>⟨by omega,?_⟩) (.inl (by omega))
 unfold txt
 rw [ch_take,ch_take,if_pos hq,if_pos (by omega)]
theorem rise_next (h : IsSA s sa) {r j : Nat} (hr : r + 1 < s.length) (hj : j + 1 = fresh s sa r) : lessL (txt s sa r j) (txt s sa (r + 1) 0) = true:=by
 have f1:=fresh_pos h (show r < s.length by omega)
 have f2:=fresh_pos h hr
 have l1:=txt_len h (show r < s.length by omega) (show j < fresh s sa r by omega)
 have l2:=txt_len h hr f2.2.2.2
 have hc:=slt_com.1 (sa_slt h hr)
 have hl:=lcv_at (s:=s) sa r
 have hle:=com_le (n:=s.length) (c:=ch s) (P sa r) (P sa (r + 1))
 refine lessL_of (lcv s sa (r + 1)) (by omega) (fun q hq=>⟨by omega,?_⟩) ?_
 ·have:=com_get (n:=s.length) (c:=ch s) (i:=P sa r) (j:=P sa (r + 1)) (q:=q) (by omega)
  unfold txt
  rw [ch_take,ch_take,if_pos (by omega),if_pos (by omega),ch_drop,ch_drop]
  exact this.2.2
 ·by_cases g : (txt s sa r j).length≤lcv s sa (r + 1)
  ·exact .inl g
  ·refine .inr ?_
   unfold txt
   rw [ch_take,ch_take,if_pos (by omega),if_pos (by omega),ch_drop,ch_drop,hl]
   exact hc.2 (by omega)
def Prev (s sa : List Int) (m : Nat) (last : List Int) : Prop:=m = 0∧last = []∨∃ r j,r < s.length∧j < fresh s sa r∧m = base s sa r + j + 1∧last = txt s sa r j
theorem rise (h : IsSA s sa) {r j : Nat} (hr : r < s.length) (hj : j < fresh s sa r) {last : List Int} (hp : Prev s sa (base s sa r + j) last) : lessL last (txt s sa r j) = true:=by
 rcases hp with ⟨_,rfl⟩ | ⟨r',j',h1,h2,h3,rfl⟩
 ·have:=txt_len h hr hj
  cases he : txt s sa r j with
  | nil=>rw [he,List.length_nil] at this; omega
  | cons a l=>rfl
 ·by_cases g : j' + 1 < fresh s sa r'
  ·obtain ⟨rfl,rfl⟩:=base_one (j2:=j' + 1) (r2:=r') (by omega) hj g
   exact rise_in h h1 g
  ·have e : base s sa (r' + 1) = base s sa r' + fresh s sa r':=rfl
   by_cases g2 : r' + 1 < s.length
   ·obtain ⟨rfl,rfl⟩:=base_one (j2:=0) (r2:=r' + 1) (by omega) hj (fresh_pos h g2).2.2.2
    exact rise_next h g2 (by omega)
   ·have:=base_mono s sa (show r + 1≤r' + 1 by omega)
    have e2 : base s sa (r + 1) = base s sa r + fresh s sa r:=rfl
    omega
theorem places (h : IsSA s sa) : ((List.range s.length).map (P sa)).Perm (List.range s.length):=by
 refine (List.perm_ext_iff_of_nodup ?_ List.nodup_range).2 fun x=>?_
 ·refine List.pairwise_map.2 (List.Pairwise.imp_of_mem (R:=fun a b=>a < b) (fun {a b} ha hb hab=>?_) List.pairwise_lt_range)
  have ha:=List.mem_range.1 ha
  have hb:=List.mem_range.1 hb
  have h1:=(sa_at h ha).2.2
  have h2:=(sa_at h hb).2.2
  intro e
  rw [e] at h1
  omega
 ·rw [List.mem_map,List.mem_range]
  constructor
  ·rintro ⟨a,ha,rfl⟩
   exact (sa_at h (List.mem_range.1 ha)).2.1
  ·intro hx
   exact ⟨rank s.length (ch s) x,List.mem_range.2 (rank_lt hx),P_rank h hx⟩

end
end Go.Proofs.Ythcnnfahlhklgaa.SD
end

section
/- Plain mathematics of turning back: rows of a turn lead from each suffix to the one that is longer by one; what is read so has the rows' order as its suffixes' order. No program is in sight. -/
namespace Go.Proofs.Ythcnnfahlhklgaa.SM
section
theorem cn_countP (n : Nat) (T : Nat→Bool) : cn n T = (List.range n).countP T:=by
 induction n with
 | zero=>rfl
 | succ n ih =>
  rw [List.range_succ,List.countP_append,← ih,cn]
  cases hT : T n <;> simp [hT]
theorem cn_bij {n : Nat} (f : Nat→Nat) (hf : ∀ i,i < n→f i < n) (inj : ∀ i j,i < n→j < n→f i = f j→i = j) (T : Nat→Bool) : cn n (fun i=>T (f i)) = cn n T:=by
 have hp : ((List.range n).map f).Perm (List.range n):=by
  refine (List.perm_ext_iff_of_nodup ?_ List.nodup_range).2 fun x=>?_
  ·refine List.pairwise_map.2 (List.Pairwise.imp_of_mem (R:=fun a b=>a < b) (fun {a b} ha hb hab=>?_) List.pairwise_lt_range)
   have ha:=List.mem_range.1 ha
   have hb:=List.mem_range.1 hb
   intro h
   have:=inj a b ha hb h
   omega
  ·rw [List.mem_map,List.mem_range]
   constructor
   ·rintro ⟨a,ha,rfl⟩
    exact hf a (List.mem_range.1 ha)
   ·intro hx
    obtain ⟨i,hi,h⟩:=pigeon n f hf inj x hx
    exact ⟨i,List.mem_range.2 hi,h⟩
 rw [cn_countP,cn_countP,← hp.countP_eq T,List.countP_map]; rfl
variable {n : Nat} {b c : Nat→Int} {e : Nat}
def ahd (b : Nat→Int) (k j : Nat) : Bool:=decide (b j < b k) || (decide (b j = b k) && decide (j < k))
def pos (n : Nat) (b : Nat→Int) (k : Nat) : Nat:=cn n (ahd b k) + 1
def idx (e r : Nat) : Nat:=if r < e then r else r - 1
def row (n : Nat) (b : Nat→Int) (e : Nat) : Nat→Nat
 | 0=>0
 | k + 1=>pos n b (idx e (row n b e k))
end
end Go.Proofs.Ythcnnfahlhklgaa.SM
end

section
/- Plain: the stack of Repeats: behind each rank it is the run-length form of what the ranks ahead have in common with the boundary; what is popped is just the stretches that end there. No program is in sight. -/
namespace Go.Proofs.Ythcnnfahlhklgaa.SK
def ml (L : Nat→Int) (i : Nat) : Nat→Int
 | 0=>L (i + 1)
 | d + 1=>if L (i + (d + 1) + 1) < ml L i d then L (i + (d + 1) + 1) else ml L i d
def mn (L : Nat→Int) (i r : Nat) : Int:=ml L i (r - i - 1)
section
variable {L : Nat→Int}
theorem mn_one (i : Nat) : mn L i (i + 1) = L (i + 1):=by unfold mn; rw [show i + 1 - i - 1 = 0 by omega]; rfl
theorem mn_succ {i r : Nat} (h : i < r) : mn L i (r + 1) = if L (r + 1) < mn L i r then L (r + 1) else mn L i r:=by
 unfold mn
 obtain ⟨d,rfl⟩ : ∃ d,r = i + d + 1:=⟨r - i - 1,by omega⟩
 rw [show i + d + 1 + 1 - i - 1 = d + 1 by omega,show i + d + 1 - i - 1 = d by omega,ml,show i + (d + 1) + 1 = i + d + 1 + 1 by omega]
theorem mn_front {i r : Nat} (h : i + 1 < r) : mn L i r = if L (i + 1) < mn L (i + 1) r then L (i + 1) else mn L (i + 1) r:=by
 obtain ⟨d,rfl⟩ : ∃ d,r = i + 2 + d:=⟨r - i - 2,by omega⟩
 clear h
 induction d with
 | zero =>
  rw [show i + 2 + 0 = i + 1 + 1 by omega,mn_succ (show i < i + 1 by omega),mn_one,mn_one]
  by_cases z : L (i + 1 + 1) < L (i + 1)
  ·rw [if_pos z,if_neg (by omega)]
  ·rw [if_neg z]
   by_cases y : L (i + 1) < L (i + 1 + 1)
   ·rw [if_pos y]
   ·rw [if_neg y]; omega
 | succ d ih =>
  rw [show i + 2 + (d + 1) = i + 2 + d + 1 by omega,mn_succ (show i < i + 2 + d by omega),mn_succ (show i + 1 < i + 2 + d by omega),ih]
  repeat' split
  all_goals omega
theorem mn_mono {i r : Nat} (h : i + 1 < r) : mn L i r≤mn L (i + 1) r:=by
 rw [mn_front h]; split <;> omega
theorem mn_up {r : Nat} : ∀ (d i : Nat),i + d < r→mn L i r≤mn L (i + d) r
 | 0,_,_=>Int.le_refl _
 | d + 1,i,h=>by
  have h1:=mn_up (r:=r) d i (by omega)
  have h2:=mn_mono (L:=L) (i:=i + d) (r:=r) (by omega)
  rw [show i + (d + 1) = i + d + 1 by omega]
  omega
theorem mn_le {i j r : Nat} (h1 : i≤j) (h2 : j < r) : mn L i r≤mn L j r:=by
 have:=mn_up (L:=L) (r:=r) (j - i) i (by omega)
 rw [show i + (j - i) = j by omega] at this
 exact this
end
def St (M : Nat→Int) : List (Int × Nat)→Nat→Prop
 | [],hi=>hi = 0
 | (v,f) :: S,hi=>f < hi∧(∀ i,f≤i→i < hi→M i = v)∧(0 < f→M (f - 1) < v)∧St M S f
def pop (c : Int) : List (Int × Nat)→Nat→List (Int × Nat) × Nat × List (Nat × Int)
 | [],now=>([],now,[])
 | (v,f) :: S,now=>if c < v then ((pop c S f).1,(pop c S f).2.1,(f,v) :: (pop c S f).2.2) else ((v,f) :: S,now,[])
theorem pop_ok {M : Nat→Int} {c : Int} : ∀ {S : List (Int × Nat)} {hi : Nat},(∀ i j,i≤j→j < hi→M i≤M j)→St M S hi →
  St M (pop c S hi).1 (pop c S hi).2.1∧(pop c S hi).2.1≤hi∧(∀ i,(pop c S hi).2.1≤i→i < hi→c < M i)∧(0 < (pop c S hi).2.1→M ((pop c S hi).2.1 - 1)≤c) ∧
   (∀ f v,(f,v) ∈ (pop c S hi).2.2↔f < hi∧c < v∧M f = v∧(0 < f→M (f - 1) < v))∧(pop c S hi).2.2.Pairwise (fun x y=>y.1 < x.1)
 | [],hi,_,h=>by
  have h : hi = 0:=h
  subst h
  exact ⟨rfl,Nat.le_refl _,fun i _ hi=>absurd hi (by omega),fun h=>absurd h (by simp [pop]),fun f v=>⟨fun h=>(by cases h),fun h=>absurd h.1 (by omega)⟩,List.Pairwise.nil⟩
 | (v,f) :: S,hi,hM,h=>by
  obtain ⟨h1,h2,h3,h4⟩:=h
  by_cases z : c < v
  ·obtain ⟨i1,i2,i3,i4,i5,i6⟩:=pop_ok (c:=c) (fun i j a b=>hM i j a (by omega)) h4
   rw [pop,if_pos z]
   refine ⟨i1,by show (pop c S f).2.1≤hi; omega,fun i a1 a2=>?_,i4,fun f' v'=>?_,List.pairwise_cons.2 ⟨fun y hy=>((i5 y.1 y.2).1 hy).1,i6⟩⟩
   ·rcases Nat.lt_or_ge i f with y | y
    ·exact i3 i a1 y
    ·rw [h2 i y a2]; exact z
   ·constructor
    ·intro hm
     rcases List.mem_cons.1 hm with e | hm
     ·injection e with e1 e2
      subst e1 e2
      exact ⟨h1,z,h2 _ (Nat.le_refl _) h1,h3⟩
     ·obtain ⟨b1,b2⟩:=(i5 f' v').1 hm
      exact ⟨by omega,b2⟩
    ·rintro ⟨b1,b2,b3,b4⟩
     rcases Nat.lt_or_ge f' f with y | y
     ·exact List.mem_cons_of_mem _ ((i5 f' v').2 ⟨y,b2,b3,b4⟩)
     ·have e1:=h2 f' y b1
      by_cases w : f' = f
      ·subst w
       rw [← b3,e1]; exact List.mem_cons_self
      ·have:=b4 (by omega)
       rw [h2 (f' - 1) (by omega) (by omega)] at this
       omega
  ·rw [pop,if_neg z]
   refine ⟨⟨h1,h2,h3,h4⟩,Nat.le_refl _,fun i a1 a2=>absurd a2 (by show ¬ i < hi; have : hi≤i:=a1; omega),fun _=>?_,fun f' v'=>⟨fun h=>(by cases h),fun ⟨b1,b2,b3,b4⟩=>?_⟩,List.Pairwise.nil⟩
   ·show M (hi - 1)≤c
    rw [h2 (hi - 1) (by omega) (by omega)]; omega
   ·rcases Nat.lt_or_ge f' f with y | y
    ·have:=hM f' f (by omega) h1
     rw [h2 f (Nat.le_refl _) h1] at this
     omega
    ·rw [h2 f' y b1] at b3; omega
def push (c : Int) (S : List (Int × Nat)) (now : Nat) : List (Int × Nat) :=
 match S with
 | []=>[(c,now)]
 | (v,f) :: S=>if v = c then (v,f) :: S else (c,now) :: (v,f) :: S
theorem St_congr {M M' : Nat→Int} : ∀ {S : List (Int × Nat)} {hi : Nat},(∀ i,i < hi→M i = M' i)→St M S hi→St M' S hi
 | [],_,_,h=>h
 | (v,f) :: S,hi,e,⟨h1,h2,h3,h4⟩=>⟨h1,fun i a b=>by rw [← e i b]; exact h2 i a b,fun a=>by rw [← e (f - 1) (by omega)]; exact h3 a,St_congr (fun i hi'=>e i (by omega)) h4⟩
theorem push_ok {M M' : Nat→Int} {c : Int} {S : List (Int × Nat)} {now r : Nat} (hS : St M S now) (hr : now≤r) (h1 : ∀ i,i < now→M i = M' i∧M i≤c) (h2 : ∀ i,now≤i→i≤r→M' i = c) : St M' (push c S now) (r + 1):=by
 cases S with
 | nil =>
  have hS : now = 0:=hS
  subst hS
  exact ⟨by omega,fun i a b=>h2 i a (by omega),fun a=>absurd a (by omega),rfl⟩
 | cons x S =>
  obtain ⟨v,f⟩:=x
  have hS':=St_congr (fun i hi=>(h1 i hi).1) hS
  obtain ⟨g1,g2,g3,g4⟩:=hS
  have g2' : ∀ i,f≤i→i < now→M' i = v:=fun i a b=>by rw [← (h1 i b).1]; exact g2 i a b
  unfold push
  dsimp only
  by_cases z : v = c
  ·rw [if_pos z]
   obtain ⟨_,_,k3,k4⟩:=hS'
   refine ⟨by omega,fun i a b=>?_,k3,k4⟩
   rcases Nat.lt_or_ge i now with y | y
   ·exact g2' i a y
   ·rw [h2 i y (by omega)]; exact z.symm
  ·rw [if_neg z]
   refine ⟨by omega,fun i a b=>h2 i a (by omega),fun a=>?_,hS'⟩
   have e:=(h1 (now - 1) (by omega)).2
   rw [g2 (now - 1) (by omega) (by omega)] at e
   rw [g2' (now - 1) (by omega) (by omega)]; omega
theorem step_ok {L : Nat→Int} {r : Nat} {S : List (Int × Nat)} (c : Int) (h : St (fun i=>mn L i r) S r) :
  (∀ f v,(f,v) ∈ (pop c S r).2.2↔f < r∧c < v∧mn L f r = v∧(0 < f→mn L (f - 1) r < v))∧(pop c S r).2.2.Pairwise (fun x y=>y.1 < x.1) ∧
   (c = L (r + 1)→St (fun i=>mn L i (r + 1)) (push c (pop c S r).1 (pop c S r).2.1) (r + 1)):=by
 obtain ⟨i1,i2,i3,i4,i5,i6⟩:=pop_ok (M:=fun i=>mn L i r) (c:=c) (fun i j a b=>mn_le a b) h
 refine ⟨i5,i6,fun hc=>push_ok i1 i2 (fun i hi=>?_) (fun i a b=>?_)⟩
 ·have h1 : mn L i r≤mn L ((pop c S r).2.1 - 1) r:=mn_le (by omega) (by omega)
  have h2:=i4 (by omega)
  have h3 : mn L i r≤c:=by
   have h2 : mn L ((pop c S r).2.1 - 1) r≤c:=h2
   omega
  exact ⟨by show mn L i r = mn L i (r + 1); rw [mn_succ (show i < r by omega),if_neg (by omega)],h3⟩
 ·show mn L i (r + 1) = c
  by_cases z : i = r
  ·subst z; rw [mn_one]; exact hc.symm
  ·have h1 : c < mn L i r:=i3 i a (by omega)
   rw [mn_succ (show i < r by omega),if_pos (by omega)]; exact hc.symm
end Go.Proofs.Ythcnnfahlhklgaa.SK
end

section
/- The document's count: at how many places a text stands. -/
namespace Go.Proofs.Ythcnnfahlhklgaa.SD
open Go.RowKit Go.Proofs.Ythcnnfahlhklgaa Go.Proofs.Ythcnnfahlhklgaa.X Go.Proofs.Ythcnnfahlhklgaa.SM Go.Proofs.YthcnnfahlhklgaaW.PrintWords Go.Proofs.YthcnnfahlhklgaaW.PrintLast

section
variable {s p : List Int}
def occ (s p : List Int) (i : Nat) : Bool:=decide (i + p.length≤s.length) && decide ((s.take (i + p.length)).drop i = p)
theorem occ_iff {i : Nat} : occ s p i = true↔i + p.length≤s.length∧(s.take (i + p.length)).drop i = p:=by
 unfold occ; rw [Bool.and_eq_true,decide_eq_true_iff,decide_eq_true_iff]
theorem cn_beyond {n : Nat} {T : Nat→Bool} {q : Nat} (h : q≤n) (h2 : ∀ i,q≤i→i < n→T i = false) : cn n T = cn q T:=by
 induction n with
 | zero =>
  have : q = 0:=by omega
  subst this; rfl
 | succ n ih =>
  by_cases e : q = n + 1
  ·rw [e]
  ·rw [cn,ih (by omega) (fun i a b=>h2 i a (by omega)),h2 n (by omega) (by omega)]; rfl
theorem count_l0 (hs : s.length≤16777216) (hb : BL s) (hp : BL p) (h0 : 0 < p.length) (hp2 : p.length≤16777216) (d : Nat) : ∀ q,s.length - q = d→q≤s.length→∀ k,sapperref13_count.l0 (k + d + 1) s p (cn q (occ s p) : Int) (q : Int) = some (cn s.length (occ s p) : Int):=by
 induction d with
 | zero =>
  intro q hd hq k
  have : q = s.length:=by omega
  subst this
  rw [show k + 0 + 1 = k + 1 by omega,sapperref13_count.l0,wp (x:=(s.length : Int) + (p.length : Int)) (y:=((s.length + p.length : Nat) : Int)) (by omega) (by omega) (by omega),if_neg (by omega)]
 | succ d ih =>
  intro q hd hq k
  have next:=ih (q + 1) (by omega) (by omega) k
  have hle:=cn_le (n:=q) (occ s p)
  rw [show k + (d + 1) + 1 = k + d + 1 + 1 by omega,sapperref13_count.l0,wp (x:=(q : Int) + (p.length : Int)) (y:=((q + p.length : Nat) : Int)) (by omega) (by omega) (by omega),wp (x:=(q : Int) + 1) (y:=((q + 1 : Nat) : Int)) (by omega) (by omega) (by omega)]
  by_cases c : q + p.length≤s.length
  ·rw [if_pos (by omega),if_pos (by omega),if_pos (by omega),Int.toNat_natCast,Int.toNat_natCast]
   rw [cn] at next
   by_cases e : (s.take (q + p.length)).drop q = p
   ·rw [if_pos (occ_iff.2 ⟨c,e⟩)] at next
    rw [if_pos (by rw [e]),wp (x:=(cn q (occ s p) : Int) + 1) (y:=((cn q (occ s p) + 1 : Nat) : Int)) (by omega) (by omega) (by omega)]
    exact next
   ·rw [if_neg (by rw [occ_iff]; exact fun h=>e h.2),Nat.add_zero] at next
    rw [if_neg (fun h=>e ((eq_sl (BL.drop (BL.take hb _) _) hp).1 h))]
    exact next
  ·rw [if_neg (by omega),cn_beyond hq (fun i a b=>by
    cases z : occ s p i with
    | false=>rfl
    | true=>have:=(occ_iff.1 z).1; omega)]
theorem count_f (hs : s.length≤16777216) (hb : BL s) (hp : BL p) (h0 : 0 < p.length) (hp2 : p.length≤16777216) {k : Nat} (hk : s.length + 1≤k) : sapperref13_count.f k s p = some (cn s.length (occ s p) : Int):=by
 unfold sapperref13_count.f
 have:=count_l0 hs hb hp h0 hp2 s.length 0 (by omega) (by omega) (k - s.length - 1)
 rw [show k - s.length - 1 + s.length + 1 = k by omega,show ((0 : Nat) : Int) = 0 from rfl,show ((cn 0 (occ s p) : Nat) : Int) = 0 from rfl] at this
 exact this
end
end Go.Proofs.Ythcnnfahlhklgaa.SD
end

section
/- At how many places a text stands, by rank: the ranks from its first one on, as long as neighbours have as much in common. -/
namespace Go.Proofs.Ythcnnfahlhklgaa.SD
open Go.RowKit Go.Proofs.Ythcnnfahlhklgaa Go.Proofs.Ythcnnfahlhklgaa.X Go.Proofs.Ythcnnfahlhklgaa.SM Go.Proofs.YthcnnfahlhklgaaW.PrintWords Go.Proofs.YthcnnfahlhklgaaW.PrintLast

section
variable {s sa : List Int}
attribute [local irreducible] cv fr tov rk3 loc2 rank
theorem occ_com {a i n : Nat} (h0 : 0 < n) (ha : a + n≤s.length) : occ s ((s.drop a).take n) i = true↔n≤com s.length (ch s) i a:=by
 have hl : ((s.drop a).take n).length = n:=by rw [List.length_take,List.length_drop]; omega
 rw [occ_iff,hl]
 constructor
 ·rintro ⟨h1,h2⟩
  refine com_ge n i a (fun q hq=>⟨by omega,by omega,?_⟩)
  have:=congrArg (fun l=>ch l q) h2
  rw [ch_drop,ch_take,if_pos (by omega),ch_take,if_pos hq,ch_drop] at this
  exact this
 ·intro h
  have h1:=com_le (n:=s.length) (c:=ch s) i a
  refine ⟨by omega,?_⟩
  apply List.ext_getElem?
  intro q
  by_cases hq : q < n
  ·have h2:=(com_get (n:=s.length) (c:=ch s) (i:=i) (j:=a) (q:=q) (by omega)).2.2
   unfold ch at h2
   rw [List.getD_eq_getElem?_getD,List.getD_eq_getElem?_getD,List.getElem?_eq_getElem (by omega),List.getElem?_eq_getElem (by omega)] at h2
   rw [List.getElem?_drop,List.getElem?_take,if_pos (by omega),List.getElem?_take,if_pos hq,List.getElem?_drop,List.getElem?_eq_getElem (by omega),List.getElem?_eq_getElem (by omega)]
   exact congrArg some h2
  ·rw [List.getElem?_eq_none (by rw [List.length_drop,List.length_take]; omega),List.getElem?_eq_none (by omega)]
theorem stand_ranks (h : IsSA s sa) {r n : Nat} (hr : r < s.length) (h1 : lcv s sa r < n) (h2 : P sa r + n≤s.length) {q : Nat} (hq : q < s.length) :
  n≤com s.length (ch s) (P sa q) (P sa r)↔r≤q∧∀ j,r < j→j≤q→n≤lcv s sa j:=by
 have hp : ∀ i,i < s.length→P sa (rank s.length (ch s) i) = i:=fun i hi=>P_rank h hi
 rcases Nat.lt_or_ge q r with c | c
 ·refine ⟨fun hb=>?_,fun hb=>absurd hb.1 (by omega)⟩
  obtain ⟨m,rfl⟩ : ∃ m,r = q + (m + 1):=⟨r - q - 1,by omega⟩
  have h3:=com_range hp m q hr m (Nat.le_refl _)
  rw [show q + (m + 1) = q + m + 1 by omega] at h1
  rw [lcv_at] at h1
  omega
 ·rcases (by omega : q = r∨r < q) with z | z
  ·subst z
   rw [com_self (by omega)]
   exact ⟨fun _=>⟨Nat.le_refl _,fun j a b=>absurd a (by omega)⟩,fun _=>by omega⟩
  ·obtain ⟨m,rfl⟩ : ∃ m,q = r + (m + 1):=⟨q - r - 1,by omega⟩
   rw [com_comm]
   constructor
   ·intro hb
    refine ⟨by omega,fun j a b=>?_⟩
    have h3:=com_range hp m r hq (j - r - 1) (by omega)
    rw [← lcv_at,show r + (j - r - 1) + 1 = j by omega] at h3
    omega
   ·intro hb
    obtain ⟨k,hk,h3⟩:=com_range_min hp m r hq
    have:=hb.2 (r + k + 1) (by omega) (by omega)
    rw [h3,← lcv_at]; exact this
theorem cn_stretch {n r e : Nat} {T : Nat→Bool} (hr : r≤e) (he : e < n) (h : ∀ q,q < n→(T q = true↔r≤q∧q≤e)) : cn n T = e + 1 - r:=by
 have h1 : cn r T = 0:=cn_false fun j hj=>by
  cases z : T j with
  | false=>rfl
  | true=>have:=(h j (by omega)).1 z; omega
 have h2 : ∀ d,r + d≤e + 1→cn (r + d) T = d:=by
  intro d
  induction d with
  | zero=>intro _; exact h1
  | succ d ih =>
   intro hd
   rw [show r + (d + 1) = r + d + 1 by omega,cn,ih (by omega),if_pos ((h (r + d) (by omega)).2 ⟨by omega,by omega⟩)]
 rw [cn_beyond (q:=e + 1) (by omega) (fun i a b=>by
  cases z : T i with
  | false=>rfl
  | true=>have:=(h i b).1 z; omega)]
 have:=h2 (e + 1 - r) (by omega)
 rw [show r + (e + 1 - r) = e + 1 by omega] at this
 exact this
theorem count_ranks (h : IsSA s sa) {r e n : Nat} (hre : r≤e) (he : e < s.length) (h1 : lcv s sa r < n) (h2 : P sa r + n≤s.length) (h3 : ∀ j,r < j→j≤e→n≤lcv s sa j) (h4 : e + 1 < s.length→lcv s sa (e + 1) < n) :
  cn s.length (occ s ((s.drop (P sa r)).take n)) = e + 1 - r∧∀ q,q < s.length→(occ s ((s.drop (P sa r)).take n) (P sa q) = true↔r≤q∧q≤e):=by
 have hq : ∀ q,q < s.length→(occ s ((s.drop (P sa r)).take n) (P sa q) = true↔r≤q∧q≤e):=fun q hq=>by
  rw [occ_com (by omega) h2,stand_ranks h (by omega) h1 h2 hq]
  constructor
  ·rintro ⟨a,b⟩
   refine ⟨a,?_⟩
   rcases Nat.lt_or_ge e q with z | z
   ·have:=b (e + 1) (by omega) (by omega)
    have:=h4 (by omega)
    omega
   ·exact z
  ·rintro ⟨a,b⟩
   exact ⟨a,fun j x y=>h3 j x (by omega)⟩
 refine ⟨?_,hq⟩
 rw [← cn_bij (n:=s.length) (P sa) (fun i hi=>(sa_at h hi).2.1) (fun i j hi hj e=>by
  have a:=(sa_at h hi).2.2
  have b:=(sa_at h hj).2.2
  rw [e] at a
  omega) (occ s ((s.drop (P sa r)).take n))]
 exact cn_stretch hre he hq
end
end Go.Proofs.Ythcnnfahlhklgaa.SD
end

section
/- The document's repeat: a text is refused where one of its places can go on, at either end, as often as it stands. -/
namespace Go.Proofs.Ythcnnfahlhklgaa.SD
open Go.RowKit Go.Proofs.Ythcnnfahlhklgaa Go.Proofs.Ythcnnfahlhklgaa.X Go.Proofs.Ythcnnfahlhklgaa.SM Go.Proofs.YthcnnfahlhklgaaW.PrintWords Go.Proofs.YthcnnfahlhklgaaW.PrintLast

section
variable {s p : List Int}
def txA (s p : List Int) (i : Nat) : List Int:=(s.take (i + p.length)).drop (i - 1)
def txB (s p : List Int) (i : Nat) : List Int:=(s.take (i + p.length + 1)).drop i
def Rf (s p : List Int) (c i : Nat) : Prop:=(0 < i∧c≤cn s.length (occ s (txA s p i)))∨(i + p.length < s.length∧c≤cn s.length (occ s (txB s p i)))
theorem txA_cnt (hs : s.length≤16777216) (hb : BL s) (h0 : 0 < p.length) {i k : Nat} (hi : 0 < i) (h : i + p.length≤s.length) (hk : s.length + 1≤k) : sapperref13_count.f k s (txA s p i) = some (cn s.length (occ s (txA s p i)) : Int):=by
 have hl : (txA s p i).length = p.length + 1:=by unfold txA; rw [List.length_drop,List.length_take]; omega
 exact count_f hs hb (show BL (txA s p i) from BL.drop (BL.take hb _) _) (by omega) (by omega) hk
theorem txB_cnt (hs : s.length≤16777216) (hb : BL s) {i k : Nat} (h : i + p.length < s.length) (hk : s.length + 1≤k) : sapperref13_count.f k s (txB s p i) = some (cn s.length (occ s (txB s p i)) : Int):=by
 have hl : (txB s p i).length = p.length + 1:=by unfold txB; rw [List.length_drop,List.length_take]; omega
 exact count_f hs hb (show BL (txB s p i) from BL.drop (BL.take hb _) _) (by omega) (by omega) hk
theorem rep_j1 (hs : s.length≤16777216) (hb : BL s) (h0 : 0 < p.length) {i k c : Nat} (h : i + p.length≤s.length) (hk : s.length + 1≤k) (x8 : Int) :
  (Rf s p c i→sapperref13_repeat.j1 (k + 1) s p (c : Int) x8 (i : Int) = some (0,0,0,false))∧(¬ Rf s p c i→sapperref13_repeat.j1 (k + 1) s p (c : Int) x8 (i : Int) = sapperref13_repeat.l0 k s p (c : Int) x8 ((i + 1 : Nat) : Int)):=by
 have w1:=wp (x:=(i : Int) + (p.length : Int)) (y:=((i + p.length : Nat) : Int)) (by omega) (by omega) (by omega)
 have w2:=wp (x:=((i + p.length : Nat) : Int) + 1) (y:=((i + p.length + 1 : Nat) : Int)) (by omega) (by omega) (by omega)
 have w3:=wp (x:=(i : Int) + 1) (y:=((i + 1 : Nat) : Int)) (by omega) (by omega) (by omega)
 have right : (i + p.length < s.length∧c≤cn s.length (occ s (txB s p i))→(if ((i + p.length : Nat) : Int) < (s.length : Int) then (if 0≤(i : Int) then (if (i : Int)≤((i + p.length + 1 : Nat) : Int) then (if ((i + p.length + 1 : Nat) : Int)≤(s.length : Int) then ((sapperref13_count.f k s ((s.take (((i + p.length + 1 : Nat) : Int)).toNat).drop ((i : Int)).toNat)).bind fun t=>(if t ≥ (c : Int) then (some ((0 : Int),(0 : Int),(0 : Int),false)) else (sapperref13_repeat.l0 k s p (c : Int) x8 ((i + 1 : Nat) : Int)))) else (none)) else (none)) else (none)) else (sapperref13_repeat.l0 k s p (c : Int) x8 ((i + 1 : Nat) : Int))) = some (0,0,0,false)) ∧
   (¬ (i + p.length < s.length∧c≤cn s.length (occ s (txB s p i)))→(if ((i + p.length : Nat) : Int) < (s.length : Int) then (if 0≤(i : Int) then (if (i : Int)≤((i + p.length + 1 : Nat) : Int) then (if ((i + p.length + 1 : Nat) : Int)≤(s.length : Int) then ((sapperref13_count.f k s ((s.take (((i + p.length + 1 : Nat) : Int)).toNat).drop ((i : Int)).toNat)).bind fun t=>(if t ≥ (c : Int) then (some ((0 : Int),(0 : Int),(0 : Int),false)) else (sapperref13_repeat.l0 k s p (c : Int) x8 ((i + 1 : Nat) : Int)))) else (none)) else (none)) else (none)) else (sapperref13_repeat.l0 k s p (c : Int) x8 ((i + 1 : Nat) : Int))) = sapperref13_repeat.l0 k s p (c : Int) x8 ((i + 1 : Nat) : Int)):=by
  by_cases z : i + p.length < s.length
  ·have hc:=txB_cnt hs hb z hk
   unfold txB at hc
   rw [if_pos (by omega),if_pos (by omega),if_pos (by omega),if_pos (by omega),Int.toNat_natCast,Int.toNat_natCast,hc,Option.bind_some]
   exact ⟨fun h=>by rw [if_pos (by have:=h.2; unfold txB at this; omega)],fun h=>by rw [if_neg (fun hh=>h ⟨z,by unfold txB; omega⟩)]⟩
  ·rw [if_neg (by omega)]
   exact ⟨fun h=>absurd h.1 z,fun _=>rfl⟩
 rw [sapperref13_repeat.j1,w1,w2,w3]
 by_cases y : 0 < i
 ·have hc:=txA_cnt hs hb h0 y h hk
  unfold txA at hc
  rw [if_pos (by omega),wp (x:=(i : Int) - 1) (y:=((i - 1 : Nat) : Int)) (by omega) (by omega) (by omega),if_pos (by omega),if_pos (by omega),if_pos (by omega),Int.toNat_natCast,Int.toNat_natCast,hc,Option.bind_some]
  by_cases x : c≤cn s.length (occ s (txA s p i))
  ·have x':=x
   unfold txA at x'
   rw [if_pos (by omega)]
   exact ⟨fun _=>rfl,fun h=>absurd (.inl ⟨y,x⟩) h⟩
  ·have x':=x
   unfold txA at x'
   rw [if_neg (by omega)]
   exact ⟨fun h=>right.1 (h.resolve_left (fun z=>x z.2)),fun h=>right.2 (fun z=>h (.inr z))⟩
 ·rw [if_neg (by omega)]
  exact ⟨fun h=>right.1 (h.resolve_left (fun z=>y z.1)),fun h=>right.2 (fun z=>h (.inr z))⟩
theorem rep_step (hs : s.length≤16777216) (hb : BL s) (hp : BL p) (h0 : 0 < p.length) (hpl : p.length≤s.length) {q k c : Nat} (hq : q≤s.length) (x8 : Int) :
  (occ s p q = true→sapperref13_repeat.l0 (k + 1 + 1) s p (c : Int) x8 (q : Int) = sapperref13_repeat.j1 (k + 1) s p (c : Int) (if x8 < 0 then (q : Int) else x8) (q : Int)) ∧
  (occ s p q = false→q + p.length≤s.length→sapperref13_repeat.l0 (k + 1 + 1) s p (c : Int) x8 (q : Int) = sapperref13_repeat.l0 (k + 1) s p (c : Int) x8 ((q + 1 : Nat) : Int)):=by
 rw [sapperref13_repeat.l0,wp (x:=(q : Int) + (p.length : Int)) (y:=((q + p.length : Nat) : Int)) (by omega) (by omega) (by omega),wp (x:=(q : Int) + 1) (y:=((q + 1 : Nat) : Int)) (by omega) (by omega) (by omega)]
 constructor
 ·intro ho
  obtain ⟨o1,o2⟩:=occ_iff.1 ho
  rw [if_pos (by omega),if_pos (by omega),if_pos (by omega),Int.toNat_natCast,Int.toNat_natCast,if_pos (by rw [o2])]
  by_cases z : x8 < 0
  ·rw [if_pos z,if_pos z]
  ·rw [if_neg z,if_neg z]
 ·intro ho hl
  have e : ¬ (s.take (q + p.length)).drop q = p:=fun e=>by
   have:=occ_iff.2 ⟨hl,e⟩
   rw [ho] at this; cases this
  rw [if_pos (by omega),if_pos (by omega),if_pos (by omega),Int.toNat_natCast,Int.toNat_natCast,if_neg (fun h=>e ((eq_sl (BL.drop (BL.take hb _) _) hp).1 h))]
theorem repeat_no (hs : s.length≤16777216) (hb : BL s) (hp : BL p) (h0 : 0 < p.length) (hpl : p.length≤s.length) {c i : Nat} (ho : occ s p i = true) (hr : Rf s p c i) (d : Nat) : ∀ q,i - q = d→q≤i→∀ k x8,s.length + 1≤k→sapperref13_repeat.l0 (k + 2 * d + 2) s p (c : Int) x8 (q : Int) = some (0,0,0,false):=by
 have hil:=(occ_iff.1 ho).1
 induction d with
 | zero =>
  intro q hd hq k x8 hk
  have : q = i:=by omega
  subst this
  rw [show k + 2 * 0 + 2 = k + 1 + 1 by omega,(rep_step hs hb hp h0 hpl (by omega) x8).1 ho]
  exact (rep_j1 hs hb h0 hil hk _).1 hr
 | succ d ih =>
  intro q hd hq k x8 hk
  rw [show k + 2 * (d + 1) + 2 = k + 2 * d + 2 + 1 + 1 by omega]
  cases z : occ s p q with
  | true =>
   rw [(rep_step hs hb hp h0 hpl (by omega) x8).1 z]
   by_cases y : Rf s p c q
   ·exact (rep_j1 hs hb h0 (by omega) (by omega) _).1 y
   ·rw [(rep_j1 hs hb h0 (by omega) (by omega) _).2 y]
    exact ih (q + 1) (by omega) (by omega) k _ hk
  | false =>
   rw [(rep_step hs hb hp h0 hpl (by omega) x8).2 z (by omega)]
   have:=ih (q + 1) (by omega) (by omega) (k + 1) x8 (by omega)
   rw [show k + 1 + 2 * d + 2 = k + 2 * d + 2 + 1 by omega] at this
   exact this
theorem repeat_yes (hs : s.length≤16777216) (hb : BL s) (hp : BL p) (h0 : 0 < p.length) (hpl : p.length≤s.length) {c lo : Nat} (ho : occ s p lo = true) (hlo : ∀ i,i < lo→occ s p i = false) (hr : ∀ i,occ s p i = true→¬ Rf s p c i) (d : Nat) :
  ∀ q,s.length - q = d→q≤s.length→∀ k,s.length + 1≤k→sapperref13_repeat.l0 (k + 2 * d + 2) s p (c : Int) (if lo < q then (lo : Int) else -1) (q : Int) = some ((lo : Int),(p.length : Int),(c : Int),true):=by
 have hll:=(occ_iff.1 ho).1
 have hend : ∀ q k,q≤s.length→s.length < q + p.length→sapperref13_repeat.l0 (k + 1) s p (c : Int) (if lo < q then (lo : Int) else -1) (q : Int) = some ((lo : Int),(p.length : Int),(c : Int),true):=fun q k h1 h2=>by
  rw [sapperref13_repeat.l0,wp (x:=(q : Int) + (p.length : Int)) (y:=((q + p.length : Nat) : Int)) (by omega) (by omega) (by omega),if_neg (by omega),if_pos (by omega)]
 induction d with
 | zero =>
  intro q hd hq k hk
  exact hend q _ hq (by omega)
 | succ d ih =>
  intro q hd hq k hk
  rw [show k + 2 * (d + 1) + 2 = k + 2 * d + 2 + 1 + 1 by omega]
  rcases Nat.lt_or_ge s.length (q + p.length) with w | w
  ·exact hend q _ hq w
  cases z : occ s p q with
  | true =>
   rw [(rep_step hs hb hp h0 hpl (by omega) _).1 z,(rep_j1 hs hb h0 w (by omega) _).2 (hr q z)]
   have next:=ih (q + 1) (by omega) (by omega) k hk
   have hle : lo≤q:=by
    rcases Nat.lt_or_ge q lo with y | y
    ·have:=hlo q y; rw [z] at this; cases this
    ·exact y
   rw [if_pos (by omega)] at next
   by_cases y : lo < q
   ·rw [if_pos y,if_neg (by omega)]; exact next
   ·have : q = lo:=by omega
    subst this
    rw [if_neg y,if_pos (by decide)]; exact next
  | false =>
   rw [(rep_step hs hb hp h0 hpl (by omega) _).2 z w]
   have next:=ih (q + 1) (by omega) (by omega) (k + 1) (by omega)
   rw [show k + 1 + 2 * d + 2 = k + 2 * d + 2 + 1 by omega] at next
   by_cases y : lo < q
   ·rw [if_pos (by omega)] at next
    rw [if_pos y]; exact next
   ·have : lo ≠ q:=fun e=>by subst e; rw [ho] at z; cases z
    rw [if_neg (by omega)] at next
    rw [if_neg y]; exact next
end
end Go.Proofs.Ythcnnfahlhklgaa.SD
end

section
/- Where a text of a stretch of ranks can go on to the right as often: just where all neighbours in the stretch have more in common. -/
namespace Go.Proofs.Ythcnnfahlhklgaa.SD
open Go.RowKit Go.Proofs.Ythcnnfahlhklgaa Go.Proofs.Ythcnnfahlhklgaa.X Go.Proofs.Ythcnnfahlhklgaa.SM Go.Proofs.YthcnnfahlhklgaaW.PrintWords Go.Proofs.YthcnnfahlhklgaaW.PrintLast

section
variable {s sa : List Int}
attribute [local irreducible] cv fr tov rk3 loc2 rank
theorem tx_len {a n : Nat} (h : a + n≤s.length) : ((s.drop a).take n).length = n:=by rw [List.length_take,List.length_drop]; omega
theorem txB_is {a n i : Nat} (h : a + n≤s.length) : txB s ((s.drop a).take n) i = (s.drop i).take (n + 1):=by
 unfold txB
 rw [tx_len h,List.drop_take,show i + n + 1 - i = n + 1 by omega]
theorem right_all (h : IsSA s sa) {r e n : Nat} (hre : r < e) (he : e < s.length) (h1 : lcv s sa r < n) (h2 : P sa r + n≤s.length) (h3 : ∀ j,r < j→j≤e→n≤lcv s sa j) (h4 : e + 1 < s.length→lcv s sa (e + 1) < n) :
  (∃ i,occ s ((s.drop (P sa r)).take n) i = true∧i + n < s.length∧e + 1 - r≤cn s.length (occ s (txB s ((s.drop (P sa r)).take n) i)))↔∀ j,r < j→j≤e→n < lcv s sa j:=by
 obtain ⟨c1,c2⟩:=count_ranks h (Nat.le_of_lt hre) he h1 h2 h3 h4
 constructor
 ·rintro ⟨i,o1,o2,o3⟩ j a b
  rcases Nat.lt_or_ge n (lcv s sa j) with z | z
  ·exact z
  ·exfalso
   have hj : lcv s sa j = n:=by have:=h3 j a b; omega
   obtain ⟨m,rfl⟩ : ∃ m,j = m + 1:=⟨j - 1,by omega⟩
   rw [lcv_at] at hj
   obtain ⟨_,m1,_⟩:=sa_at h (show m < s.length by omega)
   obtain ⟨_,m2,_⟩:=sa_at h (show m + 1 < s.length by omega)
   have k1:=(c2 m (by omega)).2 ⟨by omega,by omega⟩
   have k2:=(c2 (m + 1) (by omega)).2 ⟨by omega,by omega⟩
   rw [txB_is h2] at o3
   have sub : ∀ x,x < s.length→occ s ((s.drop i).take (n + 1)) x = true→occ s ((s.drop (P sa r)).take n) x = true:=fun x _ hx=>by
    rw [occ_com (by omega) (by omega)] at hx
    rw [occ_com (by omega) h2] at o1 ⊢
    refine com_ge n x (P sa r) (fun q hq=>?_)
    have a1:=com_get (n:=s.length) (c:=ch s) (i:=x) (j:=i) (q:=q) (by omega)
    have a2:=com_get (n:=s.length) (c:=ch s) (i:=i) (j:=P sa r) (q:=q) (by omega)
    exact ⟨a1.1,a2.2.1,a1.2.2.trans a2.2.2⟩
   have miss : ∃ x,x < s.length∧occ s ((s.drop (P sa r)).take n) x = true∧occ s ((s.drop i).take (n + 1)) x = false:=by
    cases y1 : occ s ((s.drop i).take (n + 1)) (P sa m) with
    | false=>exact ⟨_,m1,k1,y1⟩
    | true =>
     cases y2 : occ s ((s.drop i).take (n + 1)) (P sa (m + 1)) with
     | false=>exact ⟨_,m2,k2,y2⟩
     | true =>
      exfalso
      rw [occ_com (by omega) (by omega)] at y1 y2
      have:=com_ge (n:=s.length) (c:=ch s) (n + 1) (P sa m) (P sa (m + 1)) (fun q hq=>by
       have a1:=com_get (n:=s.length) (c:=ch s) (i:=P sa m) (j:=i) (q:=q) (by omega)
       have a2:=com_get (n:=s.length) (c:=ch s) (i:=P sa (m + 1)) (j:=i) (q:=q) (by omega)
       exact ⟨a1.1,a2.1,a1.2.2.trans a2.2.2.symm⟩)
      omega
   obtain ⟨x,x1,x2,x3⟩:=miss
   have:=cn_lt sub x1 x2 x3
   omega
 ·intro hall
  have hn:=hall (r + 1) (by omega) (by omega)
  rw [lcv_at] at hn
  have hle:=com_le (n:=s.length) (c:=ch s) (P sa r) (P sa (r + 1))
  obtain ⟨d1,_⟩:=count_ranks h (Nat.le_of_lt hre) he (n:=n + 1) (by omega) (by omega) (fun j a b=>hall j a b) (fun z=>by have:=h4 z; omega)
  refine ⟨P sa r,(c2 r (by omega)).2 ⟨Nat.le_refl _,by omega⟩,by omega,?_⟩
  rw [txB_is h2,d1]; exact Nat.le_refl _
end
end Go.Proofs.Ythcnnfahlhklgaa.SD
end

section
/- Where a text of a stretch of ranks can go on to the left as often: just where all its places have one and the same byte ahead. -/
namespace Go.Proofs.Ythcnnfahlhklgaa.SD
open Go.RowKit Go.Proofs.Ythcnnfahlhklgaa Go.Proofs.Ythcnnfahlhklgaa.X Go.Proofs.Ythcnnfahlhklgaa.SM Go.Proofs.YthcnnfahlhklgaaW.PrintWords Go.Proofs.YthcnnfahlhklgaaW.PrintLast

section
variable {s sa : List Int}
attribute [local irreducible] cv fr tov rk3 loc2 rank
theorem txA_is {a n i : Nat} (h : a + n≤s.length) (hi : 0 < i) : txA s ((s.drop a).take n) i = (s.drop (i - 1)).take (n + 1):=by
 unfold txA
 rw [tx_len h,List.drop_take,show i + n - (i - 1) = n + 1 by omega]
theorem cn_shift {T : Nat→Bool} : ∀ n,cn (n + 1) (fun y=>decide (0 < y) && T (y - 1)) = cn n T
 | 0=>rfl
 | n + 1=>by
  rw [cn,cn_shift n,cn,Nat.add_sub_cancel,decide_eq_true (show 0 < n + 1 by omega),Bool.true_and]
theorem cn_shift_end {T : Nat→Bool} {n : Nat} (h : n = 0∨T (n - 1) = false) : cn n (fun y=>decide (0 < y) && T (y - 1)) = cn n T:=by
 cases n with
 | zero=>rfl
 | succ n =>
  rw [cn_shift,cn]
  have h : T n = false:=by
   rcases h with h | h
   ·omega
   ·exact h
  rw [h]; rfl
theorem left_all (h : IsSA s sa) {r e n : Nat} (hre : r≤e) (he : e < s.length) (hn : 0 < n) (h1 : lcv s sa r < n) (h2 : P sa r + n≤s.length) (h3 : ∀ j,r < j→j≤e→n≤lcv s sa j) (h4 : e + 1 < s.length→lcv s sa (e + 1) < n) :
  (∃ i,occ s ((s.drop (P sa r)).take n) i = true∧0 < i∧e + 1 - r≤cn s.length (occ s (txA s ((s.drop (P sa r)).take n) i)))↔∃ b,∀ q,r≤q→q≤e→0 < P sa q∧ch s (P sa q - 1) = b:=by
 obtain ⟨c1,c2⟩:=count_ranks h hre he h1 h2 h3 h4
 have hT : ∀ i,0 < i→i + n≤s.length→cn s.length (fun y=>decide (0 < y) && occ s ((s.drop (i - 1)).take (n + 1)) (y - 1)) = cn s.length (occ s ((s.drop (i - 1)).take (n + 1))):=fun i a b=>by
  refine cn_shift_end (.inr ?_)
  cases z : occ s ((s.drop (i - 1)).take (n + 1)) (s.length - 1) with
  | false=>rfl
  | true =>
   have:=(occ_iff.1 z).1
   rw [tx_len (by omega)] at this
   omega
 constructor
 ·rintro ⟨i,o1,o2,o3⟩
  have o4:=(occ_iff.1 o1).1
  rw [tx_len h2] at o4
  rw [txA_is h2 o2,← hT i o2 o4] at o3
  refine ⟨ch s (i - 1),fun q a b=>?_⟩
  have kq:=(c2 q (by omega)).2 ⟨a,b⟩
  have mq:=(sa_at h (show q < s.length by omega)).2.1
  have ok : (decide (0 < P sa q) && occ s ((s.drop (i - 1)).take (n + 1)) (P sa q - 1)) = true:=by
   cases z : (decide (0 < P sa q) && occ s ((s.drop (i - 1)).take (n + 1)) (P sa q - 1)) with
   | true=>rfl
   | false =>
    exfalso
    have:=cn_lt (n:=s.length) (P:=fun y=>decide (0 < y) && occ s ((s.drop (i - 1)).take (n + 1)) (y - 1)) (Q:=occ s ((s.drop (P sa r)).take n)) (fun y _ hy=>by
     rw [Bool.and_eq_true,decide_eq_true_iff,occ_com (by omega) (by omega)] at hy
     obtain ⟨y1,y2⟩:=hy
     rw [occ_com hn h2] at o1 ⊢
     have y3:=com_pred (n:=s.length) (c:=ch s) (i:=y - 1) (j:=i - 1) (by omega)
     rw [show y - 1 + 1 = y by omega,show i - 1 + 1 = i by omega] at y3
     refine com_ge n y (P sa r) (fun x hx=>?_)
     have a1:=com_get (n:=s.length) (c:=ch s) (i:=y) (j:=i) (q:=x) (by omega)
     have a2:=com_get (n:=s.length) (c:=ch s) (i:=i) (j:=P sa r) (q:=x) (by omega)
     exact ⟨a1.1,a2.2.1,a1.2.2.trans a2.2.2⟩) mq kq z
    omega
  rw [Bool.and_eq_true,decide_eq_true_iff,occ_com (by omega) (by omega)] at ok
  obtain ⟨ok1,ok2⟩:=ok
  exact ⟨ok1,(com_pos (n:=s.length) (c:=ch s) (i:=P sa q - 1) (j:=i - 1) (by omega)).2.2⟩
 ·rintro ⟨b,hb⟩
  obtain ⟨b1,b2⟩:=hb r (Nat.le_refl _) hre
  refine ⟨P sa r,(c2 r (by omega)).2 ⟨Nat.le_refl _,hre⟩,b1,?_⟩
  rw [txA_is h2 b1,← hT (P sa r) b1 h2,← c1]
  refine cn_mono fun y hy ho=>?_
  have hrk:=rank_lt (c:=ch s) hy
  have hp:=P_rank h hy
  have:=(c2 (rank s.length (ch s) y) hrk).1 (by rw [hp]; exact ho)
  obtain ⟨d1,d2⟩:=hb _ this.1 this.2
  rw [hp] at d1 d2
  rw [occ_com hn h2] at ho
  rw [Bool.and_eq_true,decide_eq_true_iff,occ_com (by omega) (by omega)]
  refine ⟨d1,?_⟩
  have:=com_step (n:=s.length) (c:=ch s) (i:=y - 1) (j:=P sa r - 1) (by omega) (by omega) (by rw [d2,b2])
  rw [show y - 1 + 1 = y by omega,show P sa r - 1 + 1 = P sa r by omega] at this
  omega
end
end Go.Proofs.Ythcnnfahlhklgaa.SD
end

section
/- What the document's repeat tells of a text that stands at a stretch of ranks. -/
namespace Go.Proofs.Ythcnnfahlhklgaa.SD
open Go.RowKit Go.Proofs.Ythcnnfahlhklgaa Go.Proofs.Ythcnnfahlhklgaa.X Go.Proofs.Ythcnnfahlhklgaa.SM Go.Proofs.YthcnnfahlhklgaaW.PrintWords Go.Proofs.YthcnnfahlhklgaaW.PrintLast

section
variable {s sa : List Int}
attribute [local irreducible] cv fr tov rk3 loc2 rank
theorem run_end (n d : Nat) : ∀ r,s.length - r = d→r < s.length→∃ e,r≤e∧e < s.length∧(∀ j,r < j→j≤e→n≤lcv s sa j)∧(e + 1 < s.length→lcv s sa (e + 1) < n):=by
 induction d with
 | zero=>intro r h1 h2; omega
 | succ d ih =>
  intro r h1 h2
  by_cases c : r + 1 < s.length∧n≤lcv s sa (r + 1)
  ·obtain ⟨e,e1,e2,e3,e4⟩:=ih (r + 1) (by omega) c.1
   refine ⟨e,by omega,e2,fun j a b=>?_,e4⟩
   by_cases z : j = r + 1
   ·rw [z]; exact c.2
   ·exact e3 j (by omega) b
  ·exact ⟨r,Nat.le_refl _,h2,fun j a b=>absurd a (by omega),fun z=>by
    rcases Nat.lt_or_ge (lcv s sa (r + 1)) n with y | y
    ·exact y
    ·exact absurd ⟨z,y⟩ c⟩
theorem least_of {T : Nat→Bool} : ∀ n,T n = true→∃ lo,lo≤n∧T lo = true∧∀ i,i < lo→T i = false:=by
 intro n
 induction n using Nat.strongRecOn with
 | ind n ih =>
  intro h
  by_cases c : ∃ i,i < n∧T i = true
  ·obtain ⟨i,hi,ht⟩:=c
   obtain ⟨lo,a,b,d⟩:=ih i hi ht
   exact ⟨lo,by omega,b,d⟩
  ·refine ⟨n,Nat.le_refl _,h,fun i hi=>?_⟩
   cases z : T i with
   | false=>rfl
   | true=>exact absurd ⟨i,hi,z⟩ c
def Rep (s sa : List Int) (r e n : Nat) : Prop:=(∃ j,r < j∧j≤e∧lcv s sa j = n)∧¬ ∃ b,∀ q,r≤q→q≤e→0 < P sa q∧ch s (P sa q - 1) = b
theorem repeat_told (hs : s.length≤16777216) (hb : BL s) (h : IsSA s sa) {r e n : Nat} (hre : r < e) (he : e < s.length) (h1 : lcv s sa r < n) (h2 : P sa r + n≤s.length) (h3 : ∀ j,r < j→j≤e→n≤lcv s sa j) (h4 : e + 1 < s.length→lcv s sa (e + 1) < n) :
  ∃ lo,(∃ q,r≤q∧q≤e∧P sa q = lo)∧(∀ q,r≤q→q≤e→lo≤P sa q) ∧
   (Rep s sa r e n→∀ k,4 * s.length + 10≤k→sapperref13_repeat.f k s ((s.drop (P sa r)).take n) ((e + 1 - r : Nat) : Int) = some ((lo : Int),(n : Int),((e + 1 - r : Nat) : Int),true)) ∧
   (¬ Rep s sa r e n→∀ k,4 * s.length + 10≤k→sapperref13_repeat.f k s ((s.drop (P sa r)).take n) ((e + 1 - r : Nat) : Int) = some (0,0,0,false)):=by
 obtain ⟨c1,c2⟩:=count_ranks h (Nat.le_of_lt hre) he h1 h2 h3 h4
 have ra:=right_all h hre he h1 h2 h3 h4
 have la:=left_all h (Nat.le_of_lt hre) he (by omega) h1 h2 h3 h4
 have hl:=tx_len (s:=s) h2
 have hp : BL ((s.drop (P sa r)).take n):=BL.take (BL.drop hb _) _
 have hn : ¬ Rep s sa r e n↔∃ i,occ s ((s.drop (P sa r)).take n) i = true∧Rf s ((s.drop (P sa r)).take n) (e + 1 - r) i:=by
  unfold Rf
  rw [hl]
  constructor
  ·intro hr
   by_cases z : ∃ b,∀ q,r≤q→q≤e→0 < P sa q∧ch s (P sa q - 1) = b
   ·obtain ⟨i,a,b,c⟩:=la.2 z
    exact ⟨i,a,.inl ⟨b,c⟩⟩
   ·obtain ⟨i,a,b,c⟩:=ra.2 (fun j a b=>by
     have:=h3 j a b
     rcases Nat.lt_or_ge n (lcv s sa j) with y | y
     ·exact y
     ·exact absurd ⟨⟨j,a,b,by omega⟩,z⟩ hr)
    exact ⟨i,a,.inr ⟨b,c⟩⟩
  ·rintro ⟨i,a,b | b⟩ ⟨⟨j,j1,j2,j3⟩,hr⟩
   ·exact hr (la.1 ⟨i,a,b.1,b.2⟩)
   ·have:=ra.1 ⟨i,a,b.1,b.2⟩ j j1 j2
    omega
 have hr0:=(c2 r (by omega)).2 ⟨Nat.le_refl _,by omega⟩
 obtain ⟨lo,l1,l2,l3⟩:=least_of _ hr0
 have hlo : lo < s.length:=by have:=(sa_at h (show r < s.length by omega)).2.1; omega
 refine ⟨lo,?_,fun q a b=>?_,fun hR k hk=>?_,fun hR k hk=>?_⟩
 ·have hrk:=rank_lt (c:=ch s) hlo
  have hpr:=P_rank h hlo
  have:=(c2 _ hrk).1 (by rw [hpr]; exact l2)
  exact ⟨_,this.1,this.2,hpr⟩
 ·rcases Nat.lt_or_ge (P sa q) lo with z | z
  ·have y:=l3 _ z
   rw [(c2 q (by omega)).2 ⟨a,b⟩] at y; cases y
  ·exact z
 ·have:=repeat_yes hs hb hp (by omega) (by omega) l2 l3 (fun i hi hf=>(hn.2 ⟨i,hi,hf⟩) hR) s.length 0 (by omega) (by omega) (k - 2 * s.length - 2) (by omega)
  rw [if_neg (by omega),show k - 2 * s.length - 2 + 2 * s.length + 2 = k by omega,show ((0 : Nat) : Int) = 0 from rfl,hl] at this
  unfold sapperref13_repeat.f
  exact this
 ·obtain ⟨i,i1,i2⟩:=hn.1 hR
  have hi:=(occ_iff.1 i1).1
  have:=repeat_no hs hb hp (by omega) (by omega) i1 i2 i 0 (by omega) (by omega) (k - 2 * i - 2) (-1) (by omega)
  rw [show k - 2 * i - 2 + 2 * i + 2 = k by omega,show ((0 : Nat) : Int) = 0 from rfl] at this
  unfold sapperref13_repeat.f
  exact this
end
end Go.Proofs.Ythcnnfahlhklgaa.SD
end

section
/- The document's Repeats: the texts in their order, those that are repeats. -/
namespace Go.Proofs.Ythcnnfahlhklgaa.SD
open Go.RowKit Go.Proofs.Ythcnnfahlhklgaa Go.Proofs.Ythcnnfahlhklgaa.X Go.Proofs.Ythcnnfahlhklgaa.SM Go.Proofs.YthcnnfahlhklgaaW.PrintWords Go.Proofs.YthcnnfahlhklgaaW.PrintLast

section
variable {s sa : List Int}
attribute [local irreducible] cv fr tov rk3 loc2 rank
structure Stretch (s sa : List Int) (r e n : Nat) : Prop where
 le : r≤e
 lt : e < s.length
 new : lcv s sa r < n
 fit : P sa r + n≤s.length
 run : ∀ j,r < j→j≤e→n≤lcv s sa j
 stop : e + 1 < s.length→lcv s sa (e + 1) < n
theorem Stretch.one {r e e' n : Nat} (h : Stretch s sa r e n) (h' : Stretch s sa r e' n) : e = e':=by
 have a : ∀ {e e' : Nat},Stretch s sa r e n→Stretch s sa r e' n→e≤e':=fun {e e'} h h'=>by
  rcases Nat.lt_or_ge e' e with z | z
  ·have:=h.run (e' + 1) (by have:=h'.le; omega) (by omega)
   have:=h'.stop (by have:=h.lt; omega)
   omega
  ·exact z
 exact Nat.le_antisymm (a h h') (a h' h)
theorem stretch_of {r n : Nat} (hr : r < s.length) (h1 : lcv s sa r < n) (h2 : P sa r + n≤s.length) : ∃ e,Stretch s sa r e n:=by
 obtain ⟨e,e1,e2,e3,e4⟩:=run_end (s:=s) (sa:=sa) n (s.length - r) r rfl hr
 exact ⟨e,e1,e2,h1,h2,e3,e4⟩
def minP (sa : List Int) (r : Nat) : Nat→Nat
 | 0=>P sa r
 | d + 1=>min (minP sa r d) (P sa (r + (d + 1)))
theorem minP_ok (sa : List Int) (r d : Nat) : (∃ q,r≤q∧q≤r + d∧P sa q = minP sa r d)∧∀ q,r≤q→q≤r + d→minP sa r d≤P sa q:=by
 induction d with
 | zero=>exact ⟨⟨r,Nat.le_refl _,Nat.le_refl _,rfl⟩,fun q a b=>by rw [show q = r by omega]; exact Nat.le_refl _⟩
 | succ d ih =>
  obtain ⟨⟨q,a,b,c⟩,i2⟩:=ih
  rw [minP]
  refine ⟨?_,fun q a b=>?_⟩
  ·rcases Nat.le_total (minP sa r d) (P sa (r + (d + 1))) with z | z
   ·exact ⟨q,a,by omega,by rw [c,Nat.min_eq_left z]⟩
   ·exact ⟨r + (d + 1),by omega,Nat.le_refl _,by rw [Nat.min_eq_right z]⟩
  ·by_cases y : q = r + (d + 1)
   ·rw [y]; exact Nat.min_le_right _ _
   ·have:=i2 q a (by omega)
    have:=Nat.min_le_left (minP sa r d) (P sa (r + (d + 1)))
    omega
open Classical in
noncomputable def En (s sa : List Int) (least : Int) (r n : Nat) : List S79 :=
 if h : least≤(n : Int)∧∃ e,Stretch s sa r e n∧r < e∧Rep s sa r e n then [⟨(minP sa r (h.2.choose - r) : Int),(n : Int),((h.2.choose + 1 - r : Nat) : Int)⟩] else []
noncomputable def restN (s sa : List Int) (least : Int) (r : Nat) : Nat→Nat→List S79
 | 0,_=>[]
 | d + 1,n=>En s sa least r n ++ restN s sa least r d (n + 1)
noncomputable def restR (s sa : List Int) (least : Int) : Nat→Nat→List S79
 | 0,_=>[]
 | d + 1,r=>restN s sa least r (s.length - P sa r - lcv s sa r) (lcv s sa r + 1) ++ restR s sa least d (r + 1)
theorem En_step (hs : s.length≤16777216) (hb : BL s) (h : IsSA s sa) (least : Int) {r n : Nat} (hr : r < s.length) (h1 : lcv s sa r < n) (h2 : P sa r + n≤s.length) (lc : List Int) {x5 : List S79} (hx : (x5 ++ En s sa least r n).length≤16777216) {k : Nat} (hk : 4 * s.length + 10≤k) :
  sapperref13_Repeats.l1 (k + 1 + 1) s least x5 (P sa r : Int) (n : Int) sa lc (s.length : Int) (r : Int) = sapperref13_Repeats.l1 k s least (x5 ++ En s sa least r n) (P sa r : Int) ((n + 1 : Nat) : Int) sa lc (s.length : Int) (r : Int):=by
 obtain ⟨e,st⟩:=stretch_of hr h1 h2
 obtain ⟨c1,_⟩:=count_ranks h st.le st.lt h1 h2 st.run st.stop
 have hl:=tx_len (s:=s) h2
 have hcut : (s.take (P sa r + n)).drop (P sa r) = (s.drop (P sa r)).take n:=by rw [List.drop_take,Nat.add_sub_cancel_left]
 have hcf:=count_f hs hb (p:=(s.drop (P sa r)).take n) (BL.take (BL.drop hb _) _) (by omega) (by omega) (k:=k + 1) (by omega)
 rw [c1] at hcf
 have hle:=st.le
 have hlt:=st.lt
 rw [sapperref13_Repeats.l1,wp (x:=(s.length : Int) - (P sa r : Int)) (y:=((s.length - P sa r : Nat) : Int)) (by omega) (by omega) (by omega),wp (x:=(P sa r : Int) + (n : Int)) (y:=((P sa r + n : Nat) : Int)) (by omega) (by omega) (by omega),if_pos (by omega),if_pos (by omega),if_pos (by omega),if_pos (by omega),Int.toNat_natCast,Int.toNat_natCast,hcut,hcf,Option.bind_some]
 have skip : ∀ b : Bool,b = true→(En s sa least r n = [])→sapperref13_Repeats.j2 (k + 1) s least x5 (P sa r : Int) (n : Int) ((s.drop (P sa r)).take n) ((e + 1 - r : Nat) : Int) sa lc (s.length : Int) (r : Int) b = sapperref13_Repeats.l1 k s least (x5 ++ En s sa least r n) (P sa r : Int) ((n + 1 : Nat) : Int) sa lc (s.length : Int) (r : Int):=fun b hb' he=>by
  rw [sapperref13_Repeats.j2,if_pos hb',wp (x:=(n : Int) + 1) (y:=((n + 1 : Nat) : Int)) (by omega) (by omega) (by omega),he,List.append_nil]
 by_cases z1 : (n : Int) < least
 ·rw [if_pos z1]
  exact skip true rfl (by unfold En; rw [dif_neg (fun hh=>by have:=hh.1; omega)])
 ·rw [if_neg z1]
  by_cases z2 : r < e
  ·rw [decide_eq_false (by omega),sapperref13_Repeats.j2,if_neg (by decide),wp (x:=(n : Int) + 1) (y:=((n + 1 : Nat) : Int)) (by omega) (by omega) (by omega)]
   obtain ⟨lo,⟨q,q1,q2,q3⟩,l2,l3,l4⟩:=repeat_told hs hb h z2 hlt h1 h2 st.run st.stop
   by_cases z3 : Rep s sa r e n
   ·have hh : least≤(n : Int)∧∃ e,Stretch s sa r e n∧r < e∧Rep s sa r e n:=⟨by omega,e,st,z2,z3⟩
    have hch : hh.2.choose = e:=(hh.2.choose_spec.1).one st
    have hE : En s sa least r n = [⟨(lo : Int),(n : Int),((e + 1 - r : Nat) : Int)⟩]:=by
     unfold En
     rw [dif_pos hh,hch]
     obtain ⟨⟨q',a1,a2,a3⟩,a4⟩:=minP_ok sa r (e - r)
     have b1:=l2 q' a1 (by omega)
     have b2:=a4 q q1 (by omega)
     rw [show minP sa r (e - r) = lo by omega]
    rw [l3 z3 k (by omega),Option.bind_some,if_pos rfl]
    rw [hE] at hx ⊢
    rw [List.length_append,List.length_singleton] at hx
    rw [if_pos (by omega)]
   ·have hE : En s sa least r n = []:=by
     unfold En
     rw [dif_neg (fun hh=>by
      obtain ⟨_,e',st',_,r'⟩:=hh
      exact z3 ((st'.one st) ▸ r'))]
    rw [l4 z3 k (by omega),Option.bind_some,if_neg (by decide),hE,List.append_nil]
  ·refine skip _ (decide_eq_true (by omega)) ?_
   unfold En
   rw [dif_neg (fun hh=>by
    obtain ⟨_,e',st',lt',_⟩:=hh
    have:=st'.one st
    omega)]
end
end Go.Proofs.Ythcnnfahlhklgaa.SD
end

section
/- The document's Repeats: its two loops put the list restR together. -/
namespace Go.Proofs.Ythcnnfahlhklgaa.SD
open Go.RowKit Go.Proofs.Ythcnnfahlhklgaa Go.Proofs.Ythcnnfahlhklgaa.X Go.Proofs.Ythcnnfahlhklgaa.SM Go.Proofs.YthcnnfahlhklgaaW.PrintWords Go.Proofs.YthcnnfahlhklgaaW.PrintLast

section
variable {s sa lc : List Int}
attribute [local irreducible] cv fr tov rk3 loc2 rank
theorem l1_all (hs : s.length≤16777216) (hb : BL s) (h : IsSA s sa) (least : Int) {r : Nat} (hr : r < s.length) (lc : List Int) : ∀ (d n : Nat) (x5 : List S79) (k : Nat),n + d = s.length - P sa r + 1→lcv s sa r < n→(x5 ++ restN s sa least r d n).length≤16777216→4 * s.length + 10≤k →
  sapperref13_Repeats.l1 (k + 2 * d + 1) s least x5 (P sa r : Int) (n : Int) sa lc (s.length : Int) (r : Int) = sapperref13_Repeats.l0 k s least (x5 ++ restN s sa least r d n) sa lc (s.length : Int) ((r + 1 : Nat) : Int)
 | 0,n,x5,k,hd,h1,hx,hk=>by
  have hp:=(sa_at h hr).2.1
  rw [show k + 2 * 0 + 1 = k + 1 by omega,sapperref13_Repeats.l1,wp (x:=(s.length : Int) - (P sa r : Int)) (y:=((s.length - P sa r : Nat) : Int)) (by omega) (by omega) (by omega),if_neg (by omega),wp (x:=(r : Int) + 1) (y:=((r + 1 : Nat) : Int)) (by omega) (by omega) (by omega),restN,List.append_nil]
 | d + 1,n,x5,k,hd,h1,hx,hk=>by
  have hp:=(sa_at h hr).2.1
  rw [restN] at hx ⊢
  rw [← List.append_assoc] at hx ⊢
  rw [show k + 2 * (d + 1) + 1 = (k + 2 * d + 1) + 1 + 1 by omega,En_step hs hb h least hr h1 (by omega) lc (by rw [List.length_append] at hx; omega) (by omega)]
  exact l1_all hs hb h least hr lc d (n + 1) (x5 ++ En s sa least r n) k (by omega) (by omega) hx hk
theorem l0_all (hs : s.length≤16777216) (hb : BL s) (h : IsSA s sa) (hl : lc.length = s.length) (hlc : ∀ q,q < s.length→ch lc q = (lcv s sa q : Int)) (least : Int) : ∀ (d r : Nat) (x5 : List S79),r + d = s.length→(x5 ++ restR s sa least d r).length≤16777216 →
  ∃ K,∀ k,K≤k→sapperref13_Repeats.l0 k s least x5 sa lc (s.length : Int) (r : Int) = some (x5 ++ restR s sa least d r)
 | 0,r,x5,hd,hx=>⟨1,fun k hk=>by
  obtain ⟨k,rfl⟩ : ∃ k',k = k' + 1:=⟨k - 1,by omega⟩
  rw [sapperref13_Repeats.l0,if_neg (by omega),restR,List.append_nil]⟩
 | d + 1,r,x5,hd,hx=>by
  have hr : r < s.length:=by omega
  obtain ⟨a1,a2,_⟩:=sa_at h hr
  have hle:=h.1
  rw [restR] at hx ⊢
  rw [← List.append_assoc] at hx ⊢
  have hcl : lcv s sa r≤s.length - P sa r:=by
   unfold lcv
   split
   ·omega
   ·exact (com_le _ _).2
  obtain ⟨K,hK⟩:=l0_all hs hb h hl hlc least d (r + 1) (x5 ++ restN s sa least r (s.length - P sa r - lcv s sa r) (lcv s sa r + 1)) (by omega) hx
  refine ⟨K + (4 * s.length + 10) + 2 * (s.length - P sa r - lcv s sa r) + 1 + 1,fun k hk=>?_⟩
  obtain ⟨k,rfl⟩ : ∃ k',k = k' + 2 * (s.length - P sa r - lcv s sa r) + 1 + 1:=⟨k - 2 * (s.length - P sa r - lcv s sa r) - 1 - 1,by omega⟩
  rw [sapperref13_Repeats.l0,if_pos (by omega),if_pos (by omega),if_pos (by omega),if_pos (by omega),rd_nat,rd_nat,a1,hlc r hr,wp (x:=(lcv s sa r : Int) + 1) (y:=((lcv s sa r + 1 : Nat) : Int)) (by omega) (by omega) (by omega),l1_all hs hb h least hr lc _ _ x5 k (by omega) (by omega) (by rw [List.length_append] at hx; omega) (by omega)]
  exact hK k (by omega)
end
end Go.Proofs.Ythcnnfahlhklgaa.SD
end

section
/- Plain: the run of Repeats (popS, pushS, runS of XRp) against the stack of SKa: what is put into the list. -/
set_option linter.unusedVariables false
namespace Go.Proofs.Ythcnnfahlhklgaa.SK
open Go.RowKit Go.Proofs.Ythcnnfahlhklgaa Go.Proofs.Ythcnnfahlhklgaa.X Go.Proofs.YthcnnfahlhklgaaW.PrintWords Go.Proofs.YthcnnfahlhklgaaW.PrintLast

section
variable {p a : Nat→Int}
def MA (p : Nat→Int) (f hi : Nat) (x : Int) : Prop:=(∃ q,f≤q∧q < hi∧p q = x)∧∀ q,f≤q→q < hi→x≤p q
def CA (a : Nat→Int) (f hi : Nat) (x : Int) : Prop:=(0≤x→∀ q,f≤q→q < hi→a q = x)∧(x < 0→x = -1∧¬ ∃ b : Int,0≤b∧∀ q,f≤q→q < hi→a q = b)
theorem MA_merge {f m hi : Nat} {x y : Int} (h1 : MA p f m x) (h2 : MA p m hi y) (hf : f≤m) (hm : m≤hi) : MA p f hi (if y < x then y else x):=by
 obtain ⟨⟨q,q1,q2,q3⟩,l⟩:=h1
 obtain ⟨⟨t,t1,t2,t3⟩,k⟩:=h2
 refine ⟨?_,fun z z1 z2=>?_⟩
 ·split
  ·exact ⟨t,by omega,t2,t3⟩
  ·exact ⟨q,q1,by omega,q3⟩
 ·rcases Nat.lt_or_ge z m with c | c
  ·have:=l z z1 c; split <;> omega
  ·have:=k z c z2; split <;> omega
theorem CA_merge {f m hi : Nat} {x y : Int} (h1 : CA a f m x) (h2 : CA a m hi y) (hf : f < m) (hm : m < hi) : CA a f hi (if x = y then x else -1):=by
 by_cases c : x = y
 ·rw [if_pos c]
  subst c
  refine ⟨fun h0 q q1 q2=>?_,fun h0=>⟨(h1.2 h0).1,fun ⟨b,b0,hb⟩=>(h1.2 h0).2 ⟨b,b0,fun q q1 q2=>hb q q1 (by omega)⟩⟩⟩
  rcases Nat.lt_or_ge q m with z | z
  ·exact h1.1 h0 q q1 z
  ·exact h2.1 h0 q z q2
 ·rw [if_neg c]
  refine ⟨fun h=>absurd h (by decide),fun _=>⟨rfl,fun ⟨b,b0,hb⟩=>?_⟩⟩
  have hx : x = b:=by
   by_cases x0 : 0≤x
   ·rw [← h1.1 x0 f (Nat.le_refl _) hf]; exact hb f (Nat.le_refl _) (by omega)
   ·exact absurd ⟨b,b0,fun q q1 q2=>hb q q1 (by omega)⟩ (h1.2 (by omega)).2
  have hy : y = b:=by
   by_cases y0 : 0≤y
   ·rw [← h2.1 y0 m (Nat.le_refl _) hm]; exact hb m (by omega) hm
   ·exact absurd ⟨b,b0,fun q q1 q2=>hb q (by omega) q2⟩ (h2.2 (by omega)).2
  exact c (hx.trans hy.symm)
structure Grp (p a : Nat→Int) (g : Gp) (f hi : Nat) : Prop where
 fi : g.fi = (f : Int)
 lt : f < hi
 ma : MA p f hi g.at_
 ca : CA a f hi g.ah
def GSt (p a : Nat→Int) : List Gp→List (Int × Nat)→Nat→Prop
 | [],S,_=>S = []
 | g :: st,S,hi=>∃ f S',S = (g.co,f) :: S'∧Grp p a g f hi∧GSt p a st S' f
theorem tk_grp {g now : Gp} {f m hi : Nat} (h1 : Grp p a g f m) (h2 : Grp p a now m hi) : Grp p a (tk g now) f hi :=
 ⟨h1.fi,Nat.lt_trans h1.lt h2.lt,MA_merge h1.ma h2.ma (Nat.le_of_lt h1.lt) (Nat.le_of_lt h2.lt),CA_merge h1.ca h2.ca h1.lt h2.lt⟩
open Classical in
noncomputable def It (p a : Nat→Int) (least : Int) (r : Nat) (x : Nat × Int) : List X.Fd :=
 if h : least≤x.2∧(¬ ∃ b : Int,0≤b∧∀ q,x.1≤q→q < r + 1→a q = b)∧∃ m,MA p x.1 (r + 1) m then [⟨(x.1 : Int),⟨h.2.2.choose,x.2,((r + 1 - x.1 : Nat) : Int)⟩⟩] else []
theorem MA_one {f hi : Nat} {x y : Int} (h1 : MA p f hi x) (h2 : MA p f hi y) : x = y:=by
 obtain ⟨⟨q,q1,q2,q3⟩,l⟩:=h1
 obtain ⟨⟨t,t1,t2,t3⟩,k⟩:=h2
 have:=l t t1 t2
 have:=k q q1 q2
 omega
theorem popS_is {r : Nat} (hr : r < 16777216) {c least : Int} : ∀ {st : List Gp} {S : List (Int × Nat)} {hi : Nat} {now : Gp} {l : List X.Fd},GSt p a st S hi→Grp p a now hi (r + 1) →
  GSt p a (popS (r : Int) c least st now l).1 (pop c S hi).1 (pop c S hi).2.1∧Grp p a (popS (r : Int) c least st now l).2.1 (pop c S hi).2.1 (r + 1)∧(popS (r : Int) c least st now l).2.2 = l ++ (pop c S hi).2.2.flatMap (It p a least r)
 | [],S,hi,now,l,hs,hn=>by
  have hs : S = []:=hs
  subst hs
  exact ⟨rfl,hn,by simp [popS,pop]⟩
 | g :: st,S,hi,now,l,hs,hn=>by
  obtain ⟨f,S',rfl,hg,hs'⟩:=hs
  by_cases z : c < g.co
  ·have ht:=tk_grp hg hn
   have hfr : f < r + 1:=ht.lt
   obtain ⟨i1,i2,i3⟩:=popS_is hr (c:=c) (least:=least) (l:=if least≤g.co∧(tk g now).ah < 0 then l ++ [⟨g.fi,⟨(tk g now).at_,g.co,wrap64 (wrap64 ((r : Int) + 1) - g.fi)⟩⟩] else l) hs' ht
   rw [popS,if_pos z,pop,if_pos z]
   refine ⟨i1,i2,?_⟩
   rw [i3]
   show _ = l ++ (It p a least r (f,g.co) ++ (pop c S' f).2.2.flatMap (It p a least r))
   rw [← List.append_assoc]
   congr 1
   by_cases y : least≤g.co∧(tk g now).ah < 0
   ·have hh : least≤(f,g.co).2∧(¬ ∃ b : Int,0≤b∧∀ q,(f,g.co).1≤q→q < r + 1→a q = b)∧∃ m,MA p (f,g.co).1 (r + 1) m:=⟨y.1,(ht.ca.2 y.2).2,_,ht.ma⟩
    rw [if_pos y]
    unfold It
    rw [dif_pos hh,MA_one hh.2.2.choose_spec ht.ma,hg.fi]
    have e1 : wrap64 ((r : Int) + 1) = ((r + 1 : Nat) : Int):=by unfold wrap64; omega
    have e2 : wrap64 (((r + 1 : Nat) : Int) - (f : Int)) = ((r + 1 - f : Nat) : Int):=by unfold wrap64; omega
    rw [e1,e2]
   ·rw [if_neg y]
    unfold It
    rw [dif_neg (fun hh=>y ⟨hh.1,by
     by_cases x : (tk g now).ah < 0
     ·exact x
     ·exact absurd ⟨_,by omega,ht.ca.1 (by omega)⟩ hh.2.1⟩),List.append_nil]
  ·rw [popS,if_neg z,pop,if_neg z]
   exact ⟨⟨f,S',rfl,hg,hs'⟩,hn,by simp⟩
theorem pushS_is {r f : Nat} {c : Int} (hc : 0≤c) {st : List Gp} {S : List (Int × Nat)} {now : Gp} (hs : GSt p a st S f) (hn : Grp p a now f (r + 1)) : GSt p a (pushS c now st) (push c S f) (r + 1):=by
 cases st with
 | nil =>
  have hs : S = []:=hs
  subst hs
  simp only [pushS]
  rw [if_pos hc]
  exact ⟨f,[],rfl,⟨hn.fi,hn.lt,hn.ma,hn.ca⟩,rfl⟩
 | cons g st =>
  obtain ⟨f',S',rfl,hg,hs'⟩:=hs
  simp only [pushS,push]
  by_cases z : g.co = c
  ·rw [if_pos z,if_pos z]
   exact ⟨f',S',rfl,tk_grp hg hn,hs'⟩
  ·rw [if_neg z,if_neg z,if_pos hc]
   exact ⟨f,_,rfl,⟨hn.fi,hn.lt,hn.ma,hn.ca⟩,f',S',rfl,hg,hs'⟩
end
end Go.Proofs.Ythcnnfahlhklgaa.SK
end

section
/- Plain: the whole run of Repeats: what is in its list. -/
set_option linter.unusedVariables false
namespace Go.Proofs.Ythcnnfahlhklgaa.SK
open Go.RowKit Go.Proofs.Ythcnnfahlhklgaa Go.Proofs.Ythcnnfahlhklgaa.X Go.Proofs.YthcnnfahlhklgaaW.PrintWords Go.Proofs.YthcnnfahlhklgaaW.PrintLast

section
variable {L p a : Nat→Int}
def cq (L : Nat→Int) (n q : Nat) : Int:=if q + 1 < n then L (q + 1) else -1
def stk (L : Nat→Int) : Nat→List (Int × Nat)
 | 0=>[]
 | r + 1=>push (L (r + 1)) (pop (L (r + 1)) (stk L r) r).1 (pop (L (r + 1)) (stk L r) r).2.1
theorem stk_ok : ∀ r,St (fun i=>mn L i r) (stk L r) r
 | 0=>rfl
 | r + 1=>(step_ok (L (r + 1)) (stk_ok r)).2.2 rfl
noncomputable def itq (L p a : Nat→Int) (least : Int) (n q : Nat) : List X.Fd:=(pop (cq L n q) (stk L q) q).2.2.flatMap (It p a least q)
theorem run_is {l0 : List S82} {least : Int} {n : Nat} (hn : n≤16777216) (hL : ∀ q,0≤L q) (ha : ∀ q,0≤a q∨a q = -1) (hlf : ∀ q,q < n→lfG l0 (q : Int) = ⟨0,(q : Int),p q,a q⟩) (hc : ∀ q,q < n→cAt l0 (q : Int) = cq L n q) :
  ∀ (d r : Nat) (st : List Gp) (l : List X.Fd),r + d = n→GSt p a st (stk L r) r→runS l0 least d (r : Int) st l = l ++ (List.range' r d).flatMap (itq L p a least n)
 | 0,r,st,l,_,_=>by simp [runS]
 | d + 1,r,st,l,hd,hs=>by
  have hr : r < n:=by omega
  have hg : Grp p a (lfG l0 (r : Int)) r (r + 1):=by
   rw [hlf r hr]
   refine ⟨rfl,by omega,⟨⟨r,by omega,by omega,rfl⟩,fun q q1 q2=>by rw [show q = r by omega]; exact Int.le_refl _⟩,fun _ q q1 q2=>by rw [show q = r by omega],fun h=>?_⟩
   have h : a r < 0:=h
   rcases ha r with x | x
   ·omega
   ·exact ⟨x,fun ⟨b,b0,hb⟩=>by have:=hb r (by omega) (by omega); omega⟩
  obtain ⟨i1,i2,i3⟩:=popS_is (least:=least) (c:=cAt l0 (r : Int)) (l:=l) (by omega) hs hg
  rw [runS,List.range'_succ,List.flatMap_cons,← List.append_assoc,i3,hc r hr]
  rw [hc r hr] at i1 i2
  show runS l0 least d ((r : Int) + 1) _ (l ++ itq L p a least n r) = _
  by_cases z : r + 1 < n
  ·have ec : cq L n r = L (r + 1):=by unfold cq; rw [if_pos z]
   rw [ec] at i1 i2 ⊢
   have:=pushS_is (hL (r + 1)) i1 i2
   exact run_is hn hL ha hlf hc d (r + 1) _ _ (by omega) this
  ·rw [show d = 0 by omega]
   simp [runS]
theorem mem_itq {least : Int} {n q : Nat} {x : X.Fd} : x ∈ itq L p a least n q↔∃ f v,(f < q∧cq L n q < v∧mn L f q = v∧(0 < f→mn L (f - 1) q < v))∧x ∈ It p a least q (f,v):=by
 unfold itq
 rw [List.mem_flatMap]
 constructor
 ·rintro ⟨⟨f,v⟩,h1,h2⟩
  exact ⟨f,v,((step_ok (cq L n q) (stk_ok q)).1 f v).1 h1,h2⟩
 ·rintro ⟨f,v,h1,h2⟩
  exact ⟨(f,v),((step_ok (cq L n q) (stk_ok q)).1 f v).2 h1,h2⟩
theorem mem_It {least : Int} {q f : Nat} {v : Int} {x : X.Fd} : x ∈ It p a least q (f,v)↔least≤v∧(¬ ∃ b : Int,0≤b∧∀ i,f≤i→i < q + 1→a i = b)∧∃ m,MA p f (q + 1) m∧x = ⟨(f : Int),⟨m,v,((q + 1 - f : Nat) : Int)⟩⟩:=by
 unfold It
 split
 ·rename_i h
  rw [List.mem_singleton]
  constructor
  ·intro e
   exact ⟨h.1,h.2.1,_,h.2.2.choose_spec,e⟩
  ·rintro ⟨_,_,m,hm,e⟩
   rw [e,MA_one hm h.2.2.choose_spec]
 ·rename_i h
  constructor
  ·intro hx; cases hx
  ·rintro ⟨h1,h2,m,hm,_⟩
   exact absurd ⟨h1,h2,m,hm⟩ h
theorem It_nodup {least : Int} {q : Nat} (x : Nat × Int) : (It p a least q x).Nodup:=by
 unfold It
 split <;> simp
theorem run_nodup {least : Int} {n : Nat} (d r : Nat) : ((List.range' r d).flatMap (itq L p a least n)).Nodup:=by
 unfold List.Nodup
 rw [List.pairwise_flatMap]
 refine ⟨fun q _=>?_,?_⟩
 ·unfold itq
  rw [List.pairwise_flatMap]
  refine ⟨fun x _=>It_nodup x,((step_ok (cq L n q) (stk_ok q)).2.1).imp fun {x y} h u hu v hv e=>?_⟩
  obtain ⟨x1,x2⟩:=x
  obtain ⟨y1,y2⟩:=y
  obtain ⟨_,_,m,_,e1⟩:=mem_It.1 hu
  obtain ⟨_,_,m',_,e2⟩:=mem_It.1 hv
  rw [e1,e2] at e
  injection e with e3 e4
  have h : y1 < x1:=h
  omega
 ·refine (List.pairwise_lt_range' (s:=r) (n:=d)).imp fun {x y} h u hu v hv e=>?_
  obtain ⟨f,c,h1,h2⟩:=mem_itq.1 hu
  obtain ⟨f',c',h1',h2'⟩:=mem_itq.1 hv
  obtain ⟨_,_,m,_,e1⟩:=mem_It.1 h2
  obtain ⟨_,_,m',_,e2⟩:=mem_It.1 h2'
  rw [e1,e2] at e
  injection e with e3 e4
  injection e4 with e5 e6 e7
  omega
theorem mn_spec {f : Nat} : ∀ {q : Nat},f < q→(∀ j,f < j→j≤q→mn L f q≤L j)∧∃ j,f < j∧j≤q∧L j = mn L f q
 | 0,h=>absurd h (by omega)
 | q + 1,h=>by
  by_cases z : f = q
  ·subst z
   rw [mn_one]
   exact ⟨fun j a b=>by rw [show j = f + 1 by omega]; exact Int.le_refl _,f + 1,by omega,by omega,rfl⟩
  ·obtain ⟨i1,j,j1,j2,j3⟩:=mn_spec (f:=f) (q:=q) (by omega)
   rw [mn_succ (by omega)]
   refine ⟨fun k a b=>?_,?_⟩
   ·by_cases y : k = q + 1
    ·rw [y]; split <;> omega
    ·have:=i1 k a (by omega)
     split <;> omega
   ·split
    ·exact ⟨q + 1,by omega,by omega,rfl⟩
    ·exact ⟨j,j1,by omega,j3⟩
theorem mn_iff {f q : Nat} (h : f < q) {v : Int} : mn L f q = v↔(∀ j,f < j→j≤q→v≤L j)∧∃ j,f < j∧j≤q∧L j = v:=by
 obtain ⟨i1,j,j1,j2,j3⟩:=mn_spec (L:=L) h
 constructor
 ·intro e
  rw [← e]
  exact ⟨i1,j,j1,j2,j3⟩
 ·rintro ⟨h1,k,k1,k2,k3⟩
  have:=i1 k k1 k2
  have:=h1 j j1 j2
  omega
theorem mn_new {f q : Nat} (h : f < q) {v : Int} (e : mn L f q = v) : (0 < f→mn L (f - 1) q < v)↔(0 < f→L f < v):=by
 by_cases z : 0 < f
 ·have:=mn_front (L:=L) (i:=f - 1) (r:=q) (by omega)
  rw [show f - 1 + 1 = f by omega] at this
  rw [this,e]
  constructor
  ·intro h1 _
   have:=h1 z
   split at this <;> omega
  ·intro h1 _
   have:=h1 z
   rw [if_pos this]; exact this
 ·exact ⟨fun _ h=>absurd h z,fun _ h=>absurd h z⟩
end
end Go.Proofs.Ythcnnfahlhklgaa.SK
end

section
/- Plain: what Repeats puts together, and the document's list, hold the same. -/
set_option linter.unusedVariables false
namespace Go.Proofs.Ythcnnfahlhklgaa.SD
open Go.RowKit Go.Proofs.Ythcnnfahlhklgaa Go.Proofs.Ythcnnfahlhklgaa.X Go.Proofs.Ythcnnfahlhklgaa.SM Go.Proofs.Ythcnnfahlhklgaa.SK Go.Proofs.YthcnnfahlhklgaaW.PrintWords Go.Proofs.YthcnnfahlhklgaaW.PrintLast

section
variable {s sa : List Int}
attribute [local irreducible] cv fr tov rk3 loc2 rank
def LV (s sa : List Int) (j : Nat) : Int:=(lcv s sa j : Int)
def PV (sa : List Int) (q : Nat) : Int:=(P sa q : Int)
def AV (s sa : List Int) (q : Nat) : Int:=if 0 < P sa q then ch s (P sa q - 1) else -1
theorem lcv_zero : lcv s sa 0 = 0:=by unfold lcv; rw [if_pos rfl]
theorem lcv_fit (j : Nat) : lcv s sa (j + 1)≤s.length - P sa j:=by
 unfold lcv
 rw [if_neg (by omega),Nat.add_sub_cancel]
 exact (com_le _ _).1
theorem str_iff {f q m : Nat} (hm : 1≤m) (hq : q < s.length) (hP : P sa f < s.length) : (f < q∧cq (LV s sa) s.length q < (m : Int)∧mn (LV s sa) f q = (m : Int)∧(0 < f→mn (LV s sa) (f - 1) q < (m : Int)))↔f < q∧Stretch s sa f q m∧∃ j,f < j∧j≤q∧lcv s sa j = m:=by
 constructor
 ·rintro ⟨h1,h2,h3,h4⟩
  have h5:=(mn_new h1 h3).1 h4
  obtain ⟨g1,j,j1,j2,j3⟩:=(mn_iff h1).1 h3
  have j3 : (lcv s sa j : Int) = (m : Int):=j3
  have run : ∀ j,f < j→j≤q→m≤lcv s sa j:=fun j a b=>by
   have : (m : Int)≤(lcv s sa j : Int):=g1 j a b
   omega
  refine ⟨h1,⟨by omega,hq,?_,?_,run,fun hs=>?_⟩,j,j1,j2,by omega⟩
  ·by_cases z : 0 < f
   ·have : (lcv s sa f : Int) < (m : Int):=h5 z
    omega
   ·rw [show f = 0 by omega,lcv_zero]; omega
  ·have:=run (f + 1) (by omega) (by omega)
   have:=lcv_fit (s:=s) (sa:=sa) f
   omega
  ·unfold cq at h2
   rw [if_pos hs] at h2
   have h2 : (lcv s sa (q + 1) : Int) < (m : Int):=h2
   omega
 ·rintro ⟨h1,st,j,j1,j2,j3⟩
  have h3 : mn (LV s sa) f q = (m : Int):=(mn_iff h1).2 ⟨fun j a b=>by
   show (m : Int)≤(lcv s sa j : Int)
   have:=st.run j a b
   omega,j,j1,j2,by show (lcv s sa j : Int) = _; omega⟩
  refine ⟨h1,?_,h3,(mn_new h1 h3).2 fun z=>?_⟩
  ·unfold cq
   split
   ·rename_i z
    show (lcv s sa (q + 1) : Int) < (m : Int)
    have:=st.stop z
    omega
   ·omega
  ·show (lcv s sa f : Int) < (m : Int)
   have:=st.new
   omega
theorem ahead_iff (h0 : ∀ i,0≤ch s i) {f q : Nat} (hfq : f≤q) : (∃ b : Int,0≤b∧∀ i,f≤i→i < q + 1→AV s sa i = b)↔∃ b,∀ i,f≤i→i≤q→0 < P sa i∧ch s (P sa i - 1) = b:=by
 constructor
 ·rintro ⟨b,b0,hb⟩
  refine ⟨b,fun i i1 i2=>?_⟩
  have:=hb i i1 (by omega)
  unfold AV at this
  split at this
  ·rename_i z; exact ⟨z,this⟩
  ·omega
 ·rintro ⟨b,hb⟩
  refine ⟨b,?_,fun i i1 i2=>?_⟩
  ·rw [← (hb f (Nat.le_refl _) hfq).2]; exact h0 _
  ·obtain ⟨z,e⟩:=hb i i1 (by omega)
   unfold AV
   rw [if_pos z]; exact e
theorem minP_MA {f q : Nat} (hfq : f≤q) : MA (PV sa) f (q + 1) (minP sa f (q - f) : Int):=by
 obtain ⟨⟨t,t1,t2,t3⟩,l⟩:=minP_ok sa f (q - f)
 refine ⟨⟨t,t1,by omega,by show (P sa t : Int) = _; rw [t3]⟩,fun t t1 t2=>?_⟩
 show _≤(P sa t : Int)
 have:=l t t1 (by omega)
 omega
noncomputable def enF (s sa : List Int) (least : Int) (r n : Nat) : List X.Fd:=(En s sa least r n).map fun x=>⟨(r : Int),⟨x.f0,x.f1,x.f2⟩⟩
noncomputable def rnF (s sa : List Int) (least : Int) (r : Nat) : Nat→Nat→List X.Fd
 | 0,_=>[]
 | d + 1,n=>enF s sa least r n ++ rnF s sa least r d (n + 1)
noncomputable def rrF (s sa : List Int) (least : Int) : Nat→Nat→List X.Fd
 | 0,_=>[]
 | d + 1,r=>rnF s sa least r (s.length - P sa r - lcv s sa r) (lcv s sa r + 1) ++ rrF s sa least d (r + 1)
def back (x : X.Fd) : S79:=⟨x.ag.f0,x.ag.f1,x.ag.f2⟩
theorem rnF_back (least : Int) (r : Nat) : ∀ d n,(rnF s sa least r d n).map back = restN s sa least r d n
 | 0,_=>rfl
 | d + 1,n=>by
  rw [rnF,restN,List.map_append,rnF_back least r d (n + 1)]
  congr 1
  unfold enF
  rw [List.map_map]
  exact List.map_id _
theorem rrF_back (least : Int) : ∀ d r,(rrF s sa least d r).map back = restR s sa least d r
 | 0,_=>rfl
 | d + 1,r=>by rw [rrF,restR,List.map_append,rrF_back least d (r + 1),rnF_back]
theorem mem_enF {least : Int} {r n : Nat} {x : X.Fd} : x ∈ enF s sa least r n↔least≤(n : Int)∧∃ e,Stretch s sa r e n∧r < e∧Rep s sa r e n∧x = ⟨(r : Int),⟨(minP sa r (e - r) : Int),(n : Int),((e + 1 - r : Nat) : Int)⟩⟩:=by
 unfold enF En
 split
 ·rename_i h
  rw [List.map_cons,List.map_nil,List.mem_singleton]
  have hs:=h.2.choose_spec
  constructor
  ·intro e
   exact ⟨h.1,_,hs.1,hs.2.1,hs.2.2,e⟩
  ·rintro ⟨_,e,st,lt,rp,hx⟩
   rw [hx,st.one hs.1]
 ·rename_i h
  constructor
  ·intro hx; cases hx
  ·rintro ⟨h1,e,st,lt,rp,_⟩
   exact absurd ⟨h1,e,st,lt,rp⟩ h
theorem enF_len {least : Int} {r n : Nat} : (enF s sa least r n).length≤1:=by
 unfold enF En
 split <;> simp
theorem mem_rnF {least : Int} {r : Nat} {x : X.Fd} : ∀ {d n : Nat},x ∈ rnF s sa least r d n↔∃ m,n≤m∧m < n + d∧x ∈ enF s sa least r m
 | 0,n=>⟨fun h=>(by cases h),fun ⟨m,a,b,_⟩=>absurd a (by omega)⟩
 | d + 1,n=>by
  rw [rnF,List.mem_append,mem_rnF]
  constructor
  ·rintro (h | ⟨m,a,b,c⟩)
   ·exact ⟨n,Nat.le_refl _,by omega,h⟩
   ·exact ⟨m,by omega,by omega,c⟩
  ·rintro ⟨m,a,b,c⟩
   by_cases z : m = n
   ·subst z; exact .inl c
   ·exact .inr ⟨m,by omega,by omega,c⟩
theorem mem_rrF {least : Int} {x : X.Fd} : ∀ {d r : Nat},x ∈ rrF s sa least d r↔∃ q,r≤q∧q < r + d∧∃ m,lcv s sa q < m∧m≤lcv s sa q + (s.length - P sa q - lcv s sa q)∧x ∈ enF s sa least q m
 | 0,n=>⟨fun h=>(by cases h),fun ⟨m,a,b,_⟩=>absurd a (by omega)⟩
 | d + 1,r=>by
  rw [rrF,List.mem_append,mem_rrF,mem_rnF]
  constructor
  ·rintro (⟨m,a,b,c⟩ | ⟨q,a,b,c⟩)
   ·exact ⟨r,Nat.le_refl _,by omega,m,by omega,by omega,c⟩
   ·exact ⟨q,by omega,by omega,c⟩
  ·rintro ⟨q,a,b,m,c1,c2,c3⟩
   by_cases z : q = r
   ·subst z; exact .inl ⟨m,by omega,by omega,c3⟩
   ·exact .inr ⟨q,by omega,by omega,m,c1,c2,c3⟩
def before (x y : X.Fd) : Prop:=x.fi < y.fi∨(x.fi = y.fi∧x.ag.f1 < y.ag.f1)
theorem enF_at {least : Int} {r n : Nat} {x : X.Fd} (h : x ∈ enF s sa least r n) : x.fi = (r : Int)∧x.ag.f1 = (n : Int):=by
 obtain ⟨_,e,_,_,_,rfl⟩:=mem_enF.1 h
 exact ⟨rfl,rfl⟩
theorem enF_sorted {least : Int} {r n : Nat} : (enF s sa least r n).Pairwise before:=by
 have:=enF_len (s:=s) (sa:=sa) (least:=least) (r:=r) (n:=n)
 match h : enF s sa least r n with
 | []=>exact List.Pairwise.nil
 | [x]=>exact List.pairwise_singleton _ _
 | x :: y :: l=>rw [h] at this; simp at this
theorem rnF_sorted {least : Int} {r : Nat} : ∀ d n,(rnF s sa least r d n).Pairwise before
 | 0,_=>List.Pairwise.nil
 | d + 1,n=>by
  rw [rnF,List.pairwise_append]
  refine ⟨enF_sorted,rnF_sorted d (n + 1),fun x hx y hy=>?_⟩
  obtain ⟨m,m1,m2,hm⟩:=mem_rnF.1 hy
  obtain ⟨a,b⟩:=enF_at hx
  obtain ⟨c,d⟩:=enF_at hm
  exact .inr ⟨by rw [a,c],by omega⟩
theorem rrF_sorted {least : Int} : ∀ d r,(rrF s sa least d r).Pairwise before
 | 0,_=>List.Pairwise.nil
 | d + 1,r=>by
  rw [rrF,List.pairwise_append]
  refine ⟨rnF_sorted _ _,rrF_sorted d (r + 1),fun x hx y hy=>?_⟩
  obtain ⟨m,m1,m2,hm⟩:=mem_rnF.1 hx
  obtain ⟨q,q1,q2,m',_,_,hm'⟩:=mem_rrF.1 hy
  obtain ⟨a,b⟩:=enF_at hm
  obtain ⟨c,d⟩:=enF_at hm'
  exact .inl (by omega)
theorem same_mem (h : IsSA s sa) (h0 : ∀ i,0≤ch s i) {least : Int} (hl : 1≤least) {x : X.Fd} : x ∈ (List.range' 0 s.length).flatMap (itq (LV s sa) (PV sa) (AV s sa) least s.length)↔x ∈ rrF s sa least s.length 0:=by
 rw [List.mem_flatMap,mem_rrF]
 constructor
 ·rintro ⟨q,hq,hx⟩
  rw [List.mem_range'] at hq
  obtain ⟨i,hi,rfl⟩:=hq
  obtain ⟨f,v,h1,h2⟩:=mem_itq.1 hx
  obtain ⟨g1,g2,m,g3,rfl⟩:=mem_It.1 h2
  obtain ⟨m',rfl⟩ : ∃ m' : Nat,v = (m' : Int):=⟨v.toNat,by omega⟩
  have hqn : 0 + 1 * i < s.length:=by omega
  have hP:=(sa_at h (show f < s.length by have:=h1.1; omega)).2.1
  obtain ⟨k1,st,k2⟩:=(str_iff (by omega) hqn hP).1 h1
  have hrep : Rep s sa f (0 + 1 * i) m':=⟨k2,fun hb=>g2 ((ahead_iff h0 (by omega)).2 hb)⟩
  have:=st.new
  have:=st.fit
  refine ⟨f,by omega,by omega,m',st.new,by omega,mem_enF.2 ⟨g1,_,st,k1,hrep,?_⟩⟩
  rw [MA_one g3 (minP_MA (by omega))]
 ·rintro ⟨f,_,hf,m,m1,m2,hx⟩
  obtain ⟨g1,e,st,lt,rp,rfl⟩:=mem_enF.1 hx
  have hP:=(sa_at h (show f < s.length by omega)).2.1
  refine ⟨e,by rw [List.mem_range']; exact ⟨e,st.lt,by omega⟩,mem_itq.2 ⟨f,(m : Int),(str_iff (by omega) st.lt hP).2 ⟨lt,st,rp.1⟩,mem_It.2 ⟨g1,fun hb=>rp.2 ((ahead_iff h0 (by omega)).1 hb),_,minP_MA (by omega),rfl⟩⟩⟩
end
end Go.Proofs.Ythcnnfahlhklgaa.SD
end

section
/- The document's Lcp; Kth, the code's and the document's. -/
namespace Go.Proofs.Ythcnnfahlhklgaa.SD
open Go.RowKit Go.Proofs.Ythcnnfahlhklgaa Go.Proofs.Ythcnnfahlhklgaa.X Go.Proofs.Ythcnnfahlhklgaa.SM Go.Proofs.YthcnnfahlhklgaaW.PrintWords Go.Proofs.YthcnnfahlhklgaaW.PrintLast

section
variable {s : List Int} {x : S82}
attribute [local irreducible] cn cv fr tov rk3 loc2 ch rank
theorem refCommon_loop {u v : List Int} (hu : u.length≤9223372036854775000) (d : Nat) : ∀ q,u.length - q = d→∀ k,sapperref13_Common.l0 (k + d + 1) u v (q : Int) = some (((q + cml u v q : Nat) : Int)):=by
 induction d with
 | zero =>
  intro q h k
  rw [show k + 0 + 1 = k + 1 by omega,sapperref13_Common.l0,if_neg (by omega),cml,dif_neg (by omega),Nat.add_zero]
 | succ d ih =>
  intro q h k
  rw [show k + (d + 1) + 1 = k + d + 1 + 1 by omega,sapperref13_Common.l0,if_pos (by omega),cml,dif_pos (by omega)]
  by_cases h1 : q < v.length
  ·rw [if_pos (by omega),if_pos (by omega),rd_nat,rd_nat]
   by_cases h2 : ch u q = ch v q
   ·rw [if_pos h2,if_pos ⟨h1,h2⟩,wp (x:=(q : Int) + 1) (y:=((q + 1 : Nat) : Int)) (by omega) (by omega) (by omega),ih (q + 1) (by omega),show q + 1 + cml u v (q + 1) = q + (cml u v (q + 1) + 1) by omega]
   ·rw [if_neg h2,if_neg (fun h=>h2 h.2),Nat.add_zero]
  ·rw [if_neg (by omega),if_neg (fun h=>h1 h.1),Nat.add_zero]
theorem refCommon_f {u v : List Int} (hu : u.length≤9223372036854775000) {k : Nat} (hk : u.length + 1≤k) : sapperref13_Common.f k u v = some (cml u v 0 : Int):=by
 unfold sapperref13_Common.f
 have:=refCommon_loop (v:=v) hu u.length 0 (by omega) (k - u.length - 1)
 rw [show k - u.length - 1 + u.length + 1 = k by omega,show ((0 : Nat) : Int) = 0 from rfl] at this
 rw [this,Nat.zero_add]
theorem refCommon_com (hs : s.length≤16777216) (i j : Nat) {k : Nat} (hk : s.length + 1≤k) : sapperref13_Common.f k (s.drop i) (s.drop j) = some (com s.length (ch s) i j : Int):=by
 rw [refCommon_f (by rw [List.length_drop]; omega) (by rw [List.length_drop]; omega),cml_com _ 0 rfl]; rfl
theorem refLcp_l0 (hs : s.length≤16777216) {sa : List Int} (hsa : IsSA s sa) (d : Nat) : ∀ r (o : List Int),s.length - r = d→r≤s.length→1≤r→o.length = s.length→(∀ q,q < r→q < s.length→ch o q = (lcv s sa q : Int))→∃ o',o'.length = s.length∧(∀ q,q < s.length→ch o' q = (lcv s sa q : Int))∧∀ k,s.length + 2≤k→sapperref13_Lcp.l0 (k + d + 1) s (r : Int) sa o = some o':=by
 have hl:=hsa.1
 induction d with
 | zero =>
  intro r o hd hr h1 ho hp
  refine ⟨o,ho,fun q hq=>hp q (by omega) hq,fun k hk=>?_⟩
  rw [show k + 0 + 1 = k + 1 by omega,sapperref13_Lcp.l0,if_neg (by omega)]
 | succ d ih =>
  intro r o hd hr h1 ho hp
  obtain ⟨r,rfl⟩ : ∃ r',r = r' + 1:=⟨r - 1,by omega⟩
  obtain ⟨a1,a2,_⟩:=sa_at hsa (show r < s.length by omega)
  obtain ⟨b1,b2,_⟩:=sa_at hsa (show r + 1 < s.length by omega)
  have hlc : lcv s sa (r + 1) = com s.length (ch s) (P sa r) (P sa (r + 1)):=by unfold lcv; rw [if_neg (by omega),Nat.add_sub_cancel]
  obtain ⟨o',g1,g2,g3⟩:=ih (r + 1 + 1) (o.set (r + 1) (lcv s sa (r + 1) : Int)) (by omega) (by omega) (by omega) (by rw [List.length_set]; exact ho) (fun q hq hq2=>by
   rw [ch_set _ _ _ _ (by omega)]
   by_cases e : r + 1 = q
   ·rw [if_pos e,← e]
   ·rw [if_neg e]; exact hp q (by omega) hq2)
  refine ⟨o',g1,g2,fun k hk=>?_⟩
  rw [show k + (d + 1) + 1 = k + d + 1 + 1 by omega,sapperref13_Lcp.l0,if_pos (by omega),wp (x:=((r + 1 : Nat) : Int) - 1) (y:=(r : Int)) (by omega) (by omega) (by omega),if_pos (by omega),if_pos (by omega),rd_nat,rd_nat,a1,b1,if_pos (by omega),if_pos (by omega),if_pos (by omega),if_pos (by omega),if_pos (by omega),Int.toNat_natCast,Int.toNat_natCast,refCommon_com hs _ _ (by omega),Option.bind_some,if_pos (by omega),Int.toNat_natCast,wp (x:=((r + 1 : Nat) : Int) + 1) (y:=((r + 1 + 1 : Nat) : Int)) (by omega) (by omega) (by omega),← hlc]
  exact g3 k hk
theorem refLcp_ok (hs : s.length≤16777216) (hb : BL s) {sa lc : List Int} (hsa : IsSA s sa) (hl : lc.length = s.length) (hlc : ∀ q,q < s.length→ch lc q = (lcv s sa q : Int)) : ∃ K,∀ k,K≤k→sapperref13_Lcp.f k s = some lc:=by
 obtain ⟨K,hK⟩:=refArray_ok hs hb hsa
 have hle:=hsa.1
 by_cases h0 : s.length = 0
 ·refine ⟨K + 1,fun k hk=>?_⟩
  unfold sapperref13_Lcp.f
  rw [hK _ (by omega),Option.bind_some,if_pos (by omega),if_pos (by omega)]
  obtain ⟨k,rfl⟩ : ∃ k',k = k' + 1:=⟨k - 1,by omega⟩
  have e1 : lc = []:=List.eq_nil_of_length_eq_zero (by omega)
  rw [sapperref13_Lcp.l0,if_neg (by omega),hle,h0,e1]; rfl
 obtain ⟨o',g1,g2,g3⟩:=refLcp_l0 hs hsa (s.length - 1) 1 (List.replicate s.length 0) (by omega) (by omega) (by omega) (by simp) (fun q hq hq2=>by
  have : q = 0:=by omega
  subst this
  have e : lcv s sa 0 = 0:=by unfold lcv; rw [if_pos rfl]
  rw [e]
  unfold ch
  rw [List.getD_eq_getElem?_getD,List.getElem?_replicate,if_pos (by omega)]
  rfl)
 refine ⟨K + 2 * s.length + 10,fun k hk=>?_⟩
 unfold sapperref13_Lcp.f
 have:=g3 (k - (s.length - 1) - 1) (by omega)
 rw [show k - (s.length - 1) - 1 + (s.length - 1) + 1 = k by omega,show ((1 : Nat) : Int) = 1 from rfl] at this
 rw [hK _ (by omega),Option.bind_some,if_pos (by omega),if_pos (by omega),Int.toNat_natCast,hle,this]
 exact congrArg some (ext_ch (by omega) fun q hq=>by rw [g2 q (by omega),hlc q (by omega)])
theorem cpy_take (m : Nat) (l : List Int) (h : m≤l.length) : cpy (List.replicate m 0) l = l.take m:=by
 unfold cpy
 rw [List.length_replicate,List.drop_eq_nil_of_le (by rw [List.length_replicate]; omega),List.append_nil]
def kthR (s sa : List Int) : Nat→Nat→Nat→List Int × Bool
 | 0,_,_=>([],false)
 | d + 1,q,v=>if v < fresh s sa q then (txt s sa q v,true) else kthR s sa d (q + 1) (v - fresh s sa q)
theorem kthR_len (sa : List Int) (d : Nat) : ∀ q v,(kthR s sa d q v).1.length≤s.length:=by
 induction d with
 | zero=>intro q v; exact Nat.zero_le _
 | succ d ih =>
  intro q v
  unfold kthR
  split
  ·unfold txt
   rw [List.length_take,List.length_drop]; omega
  ·exact ih _ _
theorem kthR_no (sa : List Int) (d : Nat) : ∀ q v,(kthR s sa d q v).2 = false→(kthR s sa d q v).1 = []:=by
 induction d with
 | zero=>intro q v _; rfl
 | succ d ih =>
  intro q v
  unfold kthR
  split
  ·intro h; cases h
  ·exact ih _ _
theorem kth_code (hs : s.length≤16777216) (hx : IsIx s x) (d : Nat) : ∀ q v : Nat,q + d = s.length→v < 9223372036854775808→∀ k,suffix_Index_Kth.l0 (k + d + 1) [x] (v : Int) x.f2 (s.length : Int) (q : Int) = some ((kthR s x.f2 d q v).1,if (kthR s x.f2 d q v).2 = true then 0 else 132):=by
 have hl:=hx.2.2.2.2.2.1
 have hll:=hx.2.2.1.1
 have hf1:=hx.2.1
 induction d with
 | zero =>
  intro q v hq hv k
  rw [show k + 0 + 1 = k + 1 by omega,suffix_Index_Kth.l0,if_neg (by omega)]
  rfl
 | succ d ih =>
  intro q v hq hv k
  obtain ⟨e1,e2,_⟩:=sa_at hx.2.2.1 (show q < s.length by omega)
  have g:=hx.2.2.2.2.2.2 q (by omega)
  have f:=fresh_pos hx.2.2.1 (show q < s.length by omega)
  rw [show k + (d + 1) + 1 = k + d + 1 + 1 by omega,suffix_Index_Kth.l0,if_pos (by omega),if_pos (by omega),if_pos (by omega),if_pos (by simp),show rd_T82 [x] 0 = x from rfl,if_pos (by omega),hf1,rd_nat,rd_nat,e1,g,
   wp (x:=(s.length : Int) - (P x.f2 q : Int)) (y:=((s.length - P x.f2 q : Nat) : Int)) (by omega) (by omega) (by omega),
   wp (x:=((s.length - P x.f2 q : Nat) : Int) - (lcv s x.f2 q : Int)) (y:=(fresh s x.f2 q : Int)) (by omega) (by omega) (by omega),
   wp (x:=(lcv s x.f2 q : Int) + 1) (y:=((lcv s x.f2 q + 1 : Nat) : Int)) (by omega) (by omega) (by omega),kthR]
  by_cases h : v < fresh s x.f2 q
  ·rw [if_pos h,if_pos (by omega),wp (x:=((lcv s x.f2 q + 1 : Nat) : Int) + (v : Int)) (y:=((lcv s x.f2 q + 1 + v : Nat) : Int)) (by omega) (by omega) (by omega),if_pos (by omega),if_pos (by omega),if_pos (by omega),if_pos (by omega),Int.toNat_natCast,Int.toNat_natCast]
   unfold copy_u8.f
   rw [Option.bind_some,cpy_take _ _ (by rw [List.length_drop]; omega),if_pos rfl]
   rfl
  ·rw [if_neg h,if_neg (by omega),wp (x:=(v : Int) - (fresh s x.f2 q : Int)) (y:=((v - fresh s x.f2 q : Nat) : Int)) (by omega) (by omega) (by omega),wp (x:=(q : Int) + 1) (y:=((q + 1 : Nat) : Int)) (by omega) (by omega) (by omega)]
   exact ih (q + 1) _ (by omega) (by omega) k
theorem kth_doc (hs : s.length≤16777216) {sa lc : List Int} (hsa : IsSA s sa) (hl : lc.length = s.length) (hlc : ∀ q,q < s.length→ch lc q = (lcv s sa q : Int)) (d : Nat) : ∀ q v : Nat,q + d = s.length→v < 9223372036854775808→∀ k,sapperref13_Kth.l0 (k + d + 1) s (v : Int) sa lc (s.length : Int) (q : Int) = some (kthR s sa d q v):=by
 have hll:=hsa.1
 induction d with
 | zero =>
  intro q v hq hv k
  rw [show k + 0 + 1 = k + 1 by omega,sapperref13_Kth.l0,if_neg (by omega)]
  rfl
 | succ d ih =>
  intro q v hq hv k
  obtain ⟨e1,e2,_⟩:=sa_at hsa (show q < s.length by omega)
  have g:=hlc q (by omega)
  have f:=fresh_pos hsa (show q < s.length by omega)
  rw [show k + (d + 1) + 1 = k + d + 1 + 1 by omega,sapperref13_Kth.l0,if_pos (by omega),if_pos (by omega),if_pos (by omega),if_pos (by omega),rd_nat,rd_nat,e1,g,
   wp (x:=(s.length : Int) - (P sa q : Int)) (y:=((s.length - P sa q : Nat) : Int)) (by omega) (by omega) (by omega),
   wp (x:=((s.length - P sa q : Nat) : Int) - (lcv s sa q : Int)) (y:=(fresh s sa q : Int)) (by omega) (by omega) (by omega),
   wp (x:=(P sa q : Int) + (lcv s sa q : Int)) (y:=((P sa q + lcv s sa q : Nat) : Int)) (by omega) (by omega) (by omega),
   wp (x:=((P sa q + lcv s sa q : Nat) : Int) + 1) (y:=((P sa q + lcv s sa q + 1 : Nat) : Int)) (by omega) (by omega) (by omega),kthR]
  by_cases h : v < fresh s sa q
  ·have e : (s.take (P sa q + lcv s sa q + 1 + v)).drop (P sa q) = txt s sa q v:=by
    unfold txt
    rw [List.drop_take,show P sa q + lcv s sa q + 1 + v - P sa q = lcv s sa q + 1 + v by omega]
   rw [if_pos h,if_pos (by omega),wp (x:=((P sa q + lcv s sa q + 1 : Nat) : Int) + (v : Int)) (y:=((P sa q + lcv s sa q + 1 + v : Nat) : Int)) (by omega) (by omega) (by omega),Option.bind_some,if_pos (by omega),if_pos (by omega),if_pos (by omega),Int.toNat_natCast,Int.toNat_natCast,e,List.nil_append,if_pos (by unfold txt; rw [List.length_take,List.length_drop]; simp; omega)]
  ·rw [if_neg h,if_neg (by omega),wp (x:=(v : Int) - (fresh s sa q : Int)) (y:=((v - fresh s sa q : Nat) : Int)) (by omega) (by omega) (by omega),wp (x:=(q : Int) + 1) (y:=((q + 1 : Nat) : Int)) (by omega) (by omega) (by omega)]
   exact ih (q + 1) _ (by omega) (by omega) k
theorem kix_f {x : S82} (h : x.f0 = true) : suffix_Index_is.f [x] = some true:=by
 unfold suffix_Index_is.f
 rw [if_neg (by simp),if_pos (by simp),show rd_T82 [x] 0 = x from rfl,h]
theorem kth_both (hs : s.length≤16777216) (hb : BL s) (hx : IsIx s x) (a : Int) (ha : a < 9223372036854775808) : ∃ K u b,u.length≤s.length∧(b = false→u = [])∧∀ k,K≤k→suffix_Index_Kth.f k [x] a = some (u,if b = true then 0 else 132)∧sapperref13_Kth.f k s a = some (u,b):=by
 by_cases h0 : a < 0
 ·refine ⟨0,[],false,Nat.zero_le _,fun _=>rfl,fun k _=>⟨?_,?_⟩⟩
  ·unfold suffix_Index_Kth.f
   rw [kix_f hx.1,Option.bind_some,if_pos rfl,if_pos h0]; rfl
  ·unfold sapperref13_Kth.f
   rw [if_pos h0]
 ·obtain ⟨K1,h1⟩:=refArray_ok hs hb hx.2.2.1
  obtain ⟨K2,h2⟩:=refLcp_ok hs hb hx.2.2.1 hx.2.2.2.2.2.1 hx.2.2.2.2.2.2
  obtain ⟨v,rfl⟩ : ∃ v : Nat,a = (v : Int):=⟨a.toNat,by omega⟩
  refine ⟨K1 + K2 + s.length + 1,(kthR s x.f2 s.length 0 v).1,(kthR s x.f2 s.length 0 v).2,kthR_len _ _ _ _,kthR_no _ _ _ _,fun k hk=>⟨?_,?_⟩⟩
  ·unfold suffix_Index_Kth.f
   rw [kix_f hx.1,Option.bind_some,if_pos rfl,if_neg h0,if_pos (by simp),show rd_T82 [x] 0 = x from rfl,hx.2.2.1.1]
   have:=kth_code hs hx s.length 0 v (by omega) (by omega) (k - s.length - 1)
   rw [show k - s.length - 1 + s.length + 1 = k by omega,show ((0 : Nat) : Int) = 0 from rfl] at this
   exact this
  ·unfold sapperref13_Kth.f
   rw [if_neg h0,h1 _ (by omega),Option.bind_some,h2 _ (by omega),Option.bind_some,hx.2.2.1.1]
   have:=kth_doc hs hx.2.2.1 hx.2.2.2.2.2.1 hx.2.2.2.2.2.2 s.length 0 v (by omega) (by omega) (k - s.length - 1)
   rw [show k - s.length - 1 + s.length + 1 = k by omega,show ((0 : Nat) : Int) = 0 from rfl] at this
   exact this
end
end Go.Proofs.Ythcnnfahlhklgaa.SD
end
