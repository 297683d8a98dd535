import Derived.Test.YtgkpjfbghjojoaaDoorF
import Derived.Test.YtgkpjfbghjojoaaDoorL6
/- LexerCovers, without Go: the texts of the tokens stand at their offsets, in order, and all between them is a gap. -/
namespace Go.Proofs.YtgkpjfbghjojoaaDoor.Pure
open Go.RowKit Go.Proofs.YtgkpjfbghjojoaaDoor.L Go.Proofs.YtgkpjfbghjojoaaDoorW.PrintWords
open QLex
set_option linter.unusedVariables false
set_option linter.unusedSimpArgs false
theorem covers_step (s : ByteArray) (all : List S31) (k : Nat) (o i a : Int) (b : ByteArray) (c d : Int) (x : ByteArray) (hi0 : 0 ≤ i) (hi : i < (all.length : Int)) (hz : rd_T31 all i = ⟨a, b, c, d⟩)
    (hT : queuelabref01_Text.f k a b c d = some x) (hG : queuelabref01_Gap.f k s o = some d) (hx : ¬ x.toList = []) (h1 : ¬ d < o) (h2 : ¬ d > wrap64 ((s.size : Int) - (x.size : Int))) (h3 : 0 ≤ d)
    (h4 : d ≤ wrap64 (d + (x.size : Int))) (h5 : wrap64 (d + (x.size : Int)) ≤ (s.size : Int)) (he : s.extract d.toNat (wrap64 (d + (x.size : Int))).toNat = x) :
    queuelablaw01_LexerCovers.l0 (k + 1) s true all o i = queuelablaw01_LexerCovers.j1 k s true all i x false := by
  simp only [queuelablaw01_LexerCovers.l0]
  rw [if_pos hi, if_pos hi0, hz]
  dsimp only
  rw [hT]
  simp only [Option.bind_some]
  rw [if_neg hx, if_neg h1, if_neg h2, hG]
  simp only [Option.bind_some]
  rw [if_pos trivial, if_pos h3, if_pos h4, if_pos h5, he]
  have hb : (x.toList != x.toList) = false := by simp
  rw [hb]
theorem covers_next (s : ByteArray) (all : List S31) (k : Nat) (i a : Int) (b : ByteArray) (c d : Int) (x : ByteArray) (hi0 : 0 ≤ i) (hi : i < (all.length : Int)) (hz : rd_T31 all i = ⟨a, b, c, d⟩) :
    queuelablaw01_LexerCovers.j1 (k + 1) s true all i x false = queuelablaw01_LexerCovers.l0 k s true all (wrap64 (d + (x.size : Int))) (wrap64 (i + 1)) := by
  simp only [queuelablaw01_LexerCovers.j1]
  rw [if_neg (by simp), if_pos hi0, if_pos hi, hz]
theorem covers_go {s : ByteArray} (hs : s.size ≤ 10000) {off : Nat} {l : List UInt8} {ts : List (PT × Nat)} {off' : Nat} {l' : List UInt8} (h : Run off l ts off' l') :
    l' = [] → ∀ pre : List S31, l = (bl s).drop off → off ≤ s.size → pre.length + ts.length ≤ 3000 →
      Ev (fun k => queuelablaw01_LexerCovers.l0 k s true (pre ++ ts.map toS) (off : Int) (pre.length : Int)) true := by
  induction h with
  | nil off l =>
    intro hn pre hl ho hlen
    have hg : off + gapL false l = s.size := by
      have h1 := List.drop_eq_nil_iff.mp hn
      have h2 := gapL_le false l
      have h3 : l.length = s.size - off := by rw [hl, List.length_drop, bl_len]
      omega
    have hgap := Gap_ev s (by omega) off ho
    rw [← hl, hg] at hgap
    refine Ev.step (f := fun k => (queuelabref01_Gap.f k s (off : Int)).bind fun t => some (t == (s.size : Int))) (fun k => ?_) (Ev.bind hgap ⟨0, fun k _ => by simp⟩)
    simp only [queuelablaw01_LexerCovers.l0, List.map_nil, List.append_nil]
    rw [if_neg (by omega), if_pos trivial]
  | @cons off l t n ts off' l' ht hr ih =>
    intro hn pre hl ho hlen
    have hd : l.drop (gapL false l) = (bl s).drop (off + gapL false l) := by rw [← List.drop_drop, ← hl]
    have hne := tok_ne ht
    have hlt : off + gapL false l < s.size := by have := drop_lt (by rw [← hd]; exact hne); rw [bl_len] at this; exact this
    have hpos := tokL_pos ht
    have hnl : n ≤ s.size - (off + gapL false l) := by have h2 := hpos.2; rw [hd, List.length_drop, bl_len] at h2; exact h2
    have hd2 : (l.drop (gapL false l)).drop n = (bl s).drop (off + gapL false l + n) := by rw [hd, List.drop_drop]
    simp only [List.length_cons] at hlen
    have ih' := ih hn (pre ++ [toS (t, off + gapL false l)]) hd2 (by omega) (by simp; omega)
    have e1 : pre ++ [toS (t, off + gapL false l)] ++ ts.map toS = pre ++ ((t, off + gapL false l) :: ts).map toS := by simp
    have e2 : ((pre ++ [toS (t, off + gapL false l)]).length : Int) = (pre.length : Int) + 1 := by simp
    rw [e1, e2] at ih'
    have hrd : rd_T31 (pre ++ ((t, off + gapL false l) :: ts).map toS) (pre.length : Int) = (⟨t.1, ⟨t.2.1.toArray⟩, t.2.2, ((off + gapL false l : Nat) : Int)⟩ : S31) := by
      rw [rd_get _ _ (by simp)]; simp [toS]
    have htx := Text_ev ht ((off + gapL false l : Nat) : Int)
    have hsz : (⟨((l.drop (gapL false l)).take n).toArray⟩ : ByteArray).size = n := by
      show ((l.drop (gapL false l)).take n).length = n
      have := hpos.2; simp at this ⊢; omega
    have hli : (⟨((l.drop (gapL false l)).take n).toArray⟩ : ByteArray).toList = (l.drop (gapL false l)).take n := ByteArray.toList_mk _
    have hgap := Gap_ev s (by omega) off ho
    rw [← hl] at hgap
    generalize hx : (⟨((l.drop (gapL false l)).take n).toArray⟩ : ByteArray) = x at htx hsz hli
    have hexs : s.extract (off + gapL false l) (off + gapL false l + n) = x := by rw [ext_take, ← hd, hx]
    obtain ⟨K1, hT⟩ := htx
    obtain ⟨K2, hG⟩ := hgap
    obtain ⟨K3, hI⟩ := ih'
    refine ⟨K1 + K2 + K3 + 2, fun k hk => ?_⟩
    obtain ⟨m, rfl⟩ : ∃ m, k = m + 2 := ⟨k - 2, by omega⟩
    have hT' := hT (m + 1) (by omega)
    have hG' := hG (m + 1) (by omega)
    have hI' := hI m (by omega)
    simp only [] at hT' hG' hI'
    have hlt2 : (pre.length : Int) < ((pre ++ ((t, off + gapL false l) :: ts).map toS).length : Int) := by rw [List.length_append, List.length_map, List.length_cons]; omega
    have w1 : Aside0 (wrap64 ((s.size : Int) - (x.size : Int)) = (s.size : Int) - n) := ⟨by rw [hsz, w64 (by omega) (by omega)]⟩
    have w2 : Aside0 (wrap64 (((off + gapL false l : Nat) : Int) + (x.size : Int)) = ((off + gapL false l + n : Nat) : Int)) := ⟨by rw [hsz, w64 (by omega) (by omega)]; omega⟩
    have hne2 : ¬ x.toList = [] := by
      rw [hli]; intro h0
      have : ((l.drop (gapL false l)).take n).length = 0 := by rw [h0]; rfl
      have h2 := hpos.2; rw [List.length_take] at this; omega
    have i0 : (0 : Int) ≤ (pre.length : Int) := Int.natCast_nonneg _
    have q1 : ¬ ((off + gapL false l : Nat) : Int) < (off : Int) := by omega
    have q2 : ¬ ((off + gapL false l : Nat) : Int) > wrap64 ((s.size : Int) - (x.size : Int)) := by rw [w1.out]; omega
    have q3 : (0 : Int) ≤ ((off + gapL false l : Nat) : Int) := Int.natCast_nonneg _
    have q4 : ((off + gapL false l : Nat) : Int) ≤ wrap64 (((off + gapL false l : Nat) : Int) + (x.size : Int)) := by rw [w2.out]; omega
    have q5 : wrap64 (((off + gapL false l : Nat) : Int) + (x.size : Int)) ≤ (s.size : Int) := by rw [w2.out]; omega
    have q6 : s.extract ((off + gapL false l : Nat) : Int).toNat (wrap64 (((off + gapL false l : Nat) : Int) + (x.size : Int))).toNat = x := by rw [w2.out]; exact hexs
    generalize ((off + gapL false l : Nat) : Int) = d at *
    refine (covers_step s _ (m + 1) (off : Int) (pre.length : Int) t.1 ⟨t.2.1.toArray⟩ t.2.2 d x i0 hlt2 hrd hT' hG' hne2 q1 q2 q3 q4 q5 q6).trans ?_
    rw [covers_next s _ m (pre.length : Int) t.1 ⟨t.2.1.toArray⟩ t.2.2 d x i0 hlt2 hrd, w2.out, w64 (n := (pre.length : Int) + 1) (by omega) (by omega)]
    exact hI'
theorem LexerCovers : queuelablaw01_LexerCovers.Pure := by
  intro s hs
  refine Ev.rounds ?_
  unfold queuelablaw01_LexerCovers.f
  refine Ev.bind head_ev ?_
  by_cases hl : (s.size : Int) > 10000
  · simp only [if_pos hl]; exact Ev.now _
  simp only [if_neg hl]
  rcases ok_or_bad_from (bl s).length (bl s) (Nat.le_refl _) 0 0 (by omega) with ⟨ts, off', hr, hc⟩ | ⟨ts, e, at_, l', hr, hne, hx⟩
  · refine Ev.bind (Lex_good (by omega) ⟨off', hr, by omega⟩) ?_
    simp only [if_true]
    exact covers_go (by omega) hr rfl [] (by simp) (by omega) (by simpa using hc)
  · have he : e ≠ 0 := by
      rcases hx with ⟨_, rfl⟩ | ⟨_, h⟩
      · omega
      · have := tokL_err h; omega
    refine Ev.bind (Lex_bad (by omega) ⟨hr, hne, by simpa using hx⟩ he) ?_
    simp only [if_neg he, if_true]
    exact Ev.now _
end Go.Proofs.YtgkpjfbghjojoaaDoor.Pure
