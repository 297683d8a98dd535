import Derived.Test.YtgkpjfbghjojoaaDoorC
import Derived.Test.YtgkpjfbghjojoaaDoorL2
namespace Go.Proofs.YtgkpjfbghjojoaaDoor.L
open Go.RowKit Go.Proofs.YtgkpjfbghjojoaaDoorW.PrintWords Go.Proofs.YtgkpjfbghjojoaaDoorW.PrintLast Go.Proofs.YtgkpjfbghjojoaaDoorW.PrintMore
open QLex
set_option linter.unusedVariables false
set_option linter.unusedSimpArgs false

/-- a run, computed -/
def runF : Nat → Nat → List UInt8 → Option (List (PT × Nat) × Nat × List UInt8)
  | 0, _, _ => none
  | k + 1, off, l =>
    match l.drop (gapL false l) with
    | [] => some ([], off + gapL false l, [])
    | c :: r => match tokL (c :: r) with
      | .error _ => some ([], off + gapL false l, c :: r)
      | .ok (t, n) => (runF k (off + gapL false l + n) ((c :: r).drop n)).map fun x => ((t, off + gapL false l) :: x.1, x.2)
theorem runF_run : ∀ (k off : Nat) (l : List UInt8) (x : List (PT × Nat) × Nat × List UInt8), runF k off l = some x → Run off l x.1 x.2.1 x.2.2 := by
  intro k
  induction k with
  | zero => intro off l x h; cases h
  | succ k ih =>
    intro off l x h
    simp only [runF] at h
    split at h
    · rename_i hd
      obtain rfl := Option.some.inj h
      have := Run.nil off l; rw [hd] at this; exact this
    · rename_i c r hd
      split at h
      · obtain rfl := Option.some.inj h
        have := Run.nil off l; rw [hd] at this; exact this
      · rename_i t n ht
        obtain ⟨y, hy, rfl⟩ := Option.map_eq_some_iff.mp h
        have h1 := ih _ _ _ hy
        rw [← hd] at h1
        exact Run.cons (by rw [hd]; exact ht) h1
theorem good_of {l : List UInt8} {ts : List (PT × Nat)} {o : Nat} (k : Nat) (h : runF k 0 l = some (ts, o, [])) (hn : ts.length ≤ 3000) : Good l ts := ⟨o, runF_run k 0 l _ h, hn⟩
theorem bad_of {l : List UInt8} {ts : List (PT × Nat)} {o : Nat} {c : UInt8} {r : List UInt8} {e : Int} (k : Nat) (h : runF k 0 l = some (ts, o, c :: r)) (hn : ts.length < 3000) (he : tokL (c :: r) = .error e) : Bad l ts e o (c :: r) :=
  ⟨runF_run k 0 l _ h, by simp, .inr ⟨hn, he⟩⟩
theorem fails_ev {s : ByteArray} (hs : s.size ≤ 10000) {ts : List (PT × Nat)} {e : Int} {at_ : Nat} {l' : List UInt8} (h : Bad (bl s) ts e at_ l') (he : e ≠ 0) :
    Ev (fun k => queuelablaw01_fails.f k s e (at_ : Int)) true := by
  refine Ev.bind (f := fun k (x : List S31 × Int × Int) => if (x.1.length : Int) = 0 then (if x.2.1 = e then some (x.2.2 == (at_ : Int)) else some false) else some false) (Lex_bad hs h he) ?_
  refine ⟨0, fun k _ => ?_⟩
  simp
theorem head_ev : Ev (fun k => queuelablaw01_head.f k) true := by
  have g1 : Good (bl ⟨#[119, 60, 61, 51, 59, 35, 32, 120]⟩) [((1, [119], 0), 0), ((3, [60, 61], 0), 1), ((2, [], 3), 3), ((3, [59], 0), 4)] := good_of (o := 8) 10 rfl (by decide)
  have g2 : Good (bl ⟨#[97, 61, 61, 33, 61, 98]⟩) [((1, [97], 0), 0), ((3, [61, 61], 0), 1), ((3, [33, 61], 0), 3), ((1, [98], 0), 5)] := good_of (o := 6) 10 rfl (by decide)
  have b1 : Bad (bl ⟨#[97, 32, 33, 32, 98]⟩) [((1, [97], 0), 0)] 7 2 [33, 32, 98] := bad_of 10 rfl (by decide) rfl
  have b2 : Bad (bl ⟨#[120, 32, 48, 48, 55]⟩) [((1, [120], 0), 0)] 7 2 [48, 48, 55] := bad_of 10 rfl (by decide) rfl
  have b3 : Bad (bl ⟨#[120, 32, 49, 48, 48, 48, 48, 48, 48, 48, 48, 49]⟩) [((1, [120], 0), 0)] 3 2 [49, 48, 48, 48, 48, 48, 48, 48, 48, 49] := bad_of 10 rfl (by decide) rfl
  have b4 : Bad (bl ⟨#[97, 98, 99, 100, 101, 102, 103, 104, 105, 106, 107, 108, 109]⟩) [] 3 0 [97, 98, 99, 100, 101, 102, 103, 104, 105, 106, 107, 108, 109] := bad_of 10 rfl (by decide) rfl
  have l1 := Lex_good (by decide) g1
  have l2 := Lex_good (by decide) g2
  have f1 := fails_ev (by decide) b1 (by decide)
  have f2 := fails_ev (by decide) b2 (by decide)
  have f3 := fails_ev (by decide) b3 (by decide)
  have f4 := fails_ev (by decide) b4 (by decide)
  have s1 := Same_self [((1, [119], 0), 0), ((3, [60, 61], 0), 1), ((2, [], 3), 3), ((3, [59], 0), 4)] (by decide) (by simp)
  have s2 := Same_self [((1, [97], 0), 0), ((3, [61, 61], 0), 1), ((3, [33, 61], 0), 3), ((1, [98], 0), 5)] (by decide) (by simp)
  unfold queuelablaw01_head.f
  refine Ev.bind l1 (Ev.bind l2 ?_)
  simp only [if_true]
  refine Ev.bind f1 ?_
  simp only [if_true]
  refine Ev.bind f2 ?_
  simp only [if_true]
  refine Ev.bind f3 ?_
  simp only [if_true]
  refine Ev.bind f4 ?_
  refine Ev.step (fun k => by simp only [queuelablaw01_head.j0, if_true]; rfl) ?_
  refine Ev.bind s1 ?_
  simp only [if_true]
  exact Ev.bind s2 (Ev.now true)
end Go.Proofs.YtgkpjfbghjojoaaDoor.L
