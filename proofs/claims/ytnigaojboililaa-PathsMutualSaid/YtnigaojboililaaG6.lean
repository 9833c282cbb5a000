/- Lemmas for the statement: the walks of the functions that it reaches, and plain laws. -/
import Derived.Test.YtnigaojboililaaG4
import Derived.Test.YtnigaojboililaaG5
import Derived.Test.YtnigaojboililaaG3
import Derived.Test.YtnigaojboililaaG1
import Derived.Test.YtnigaojboililaaG2
set_option linter.unusedVariables false
set_option linter.unusedSimpArgs false
set_option maxHeartbeats 8000000
set_option maxRecDepth 100000
namespace Go.Proofs.Ytnigaojboililaa.A
open Go Go.RowKit Go.Proofs.YtnigaojboililaaW.PrintWords Go.Proofs.YtnigaojboililaaW.PrintLast Go.Proofs.YtnigaojboililaaW.PrintMore
attribute [local go_sem] max2_int min2_int max_two min_two max_three min_three max_four min_four
open Go.Proofs.YtnigaojboililaaW.PrintWords.Kd renaming R_alloc → zRa, R_drewN → zRn, R_drew → zRd, C_alloc → zCa, C_drewN → zCn, C_drew → zCd, R_mono → zRm, at_int → zAi, R_elder' → zRe, R_lower → zRl, R_new' → zRw, R_lt → zRt, R_below → zRb, R_base → zRz, R_reads' → zRr, R_slice → zRs
open Go.Proofs.YtnigaojboililaaW.PrintWords renaming pw_below_drewN → zBn, below_alloc → zBa, below_drew1 → zBd, below_size → zBs, below_step → zBt, blk_drewN → zKn, blk_drew → zKd, blk_alloc → zKa, blk_below → zKb, blk_cell → zKc, blk_frozen → zKf
open List renaming setIfInBounds_toArray → zSa, set_cons_zero → zSb, set_cons_succ → zSc, length_drop → zLd, length_take → zLt, map_toArray → zMa, map_cons → zMc, map_nil → zMn, length_cons → zLc
open Go.Proofs.YtnigaojboililaaW.PrintWords.Aside0 renaming mk → zMk
open Option renaming bind_eq_some_iff → zBi, bind_some → zOb
open Option.some renaming inj → zOi
open Int renaming toNat_natCast → zTn
section
variable {v n : Int} {E : List S39} {d via : List Int}
end
section
variable {v n : Int} {E : List S39} {d p : List Int} {rk : Int → Nat}
theorem Inv.big (hn : 0 ≤ n ∧ n ≤ 40) (I : Inv v n E d p [] rk (fun _ _ => True)) : ∀ x, 0 ≤ x → x < n → -1 ≤ rd d x ∧ rd d x ≤ 1000000000000000 := by
  intro x h0 h1
  have a := I.dlo x h0 h1
  by_cases hs : 0 ≤ rd d x
  · have b := (I.st x ⟨h0, h1, hs⟩).2
    have c := nset_le d
    have e := I.dl
    omega
  · omega
end
section
variable {v n : Int} {E : List S39} {d via : List Int}
theorem other_good {k : Nat} {i x : Int} (h0 : 0 ≤ i) (h1 : i < E.length) (hi : inc (rd_T39 E i) x) : paths_other.f (k + 1) n E i x = some (oth (rd_T39 E i) x, true) := by
  unfold paths_other.f
  rw [if_neg (by omega), decide_eq_false (by omega)]
  simp only [paths_other.j0]
  rw [if_neg (by decide), if_pos h0, if_pos h1]
  unfold inc at hi
  unfold oth
  by_cases h : x = (rd_T39 E i).f1
  · rw [if_pos h]; congr 2; omega
  · rw [if_neg h, if_pos (by omega)]; congr 2; omega
end

def filigreelaw04_Light.f (a0_0 : Int) (l0_1 : List (S39)) (a1 : Int) : Option (Bool) := if a0_0 ≤ a1 then (some (decide ((l0_1.length : Int) ≤ (wrap64 (4 * a1))))) else (some false)
theorem filigreelaw04_Light.calls (a0_0 : Int) (A0_1 : Option Addr) (c0_1 : Nat) (l0_1 : List (S39)) (a1 : Int) (r : Bool) (w : World) (hr0_1 : Kd.C k39 w A0_1 l0_1.length l0_1) (hc0_1 : l0_1.length ≤ c0_1) (h : filigreelaw04_Light.f a0_0 l0_1 a1 = some r) :
    Calls Try.prog 10 #[.agg #[.int .i64 a0_0, .slice A0_1 l0_1.length c0_1], .int .i64 a1] w fun e w' => e = .returned (.bool r) ∧ Below w.heap.size w w' := by
  have hu24 := Try.underlying24
  have HR0_1 := zMk hr0_1
  have HC0_1 := zMk hc0_1
  clear hr0_1 hc0_1
  have HB := zMk (Below.refl w.heap.size w)
  have H : (if a0_0 ≤ a1 then (some (decide ((l0_1.length : Int) ≤ (wrap64 (4 * a1))))) else (some false)) = some r := h
  clear h
  by_cases c3 : a0_0 ≤ a1
  · rw [if_pos c3] at H
    have c3b0 : decide (a0_0 ≤ a1) = true := decide_eq_true c3
    clear c3
    obtain rfl := zOi H
    go_enter Try.func10, Try.ntmps10
    go_wp2_with (first | ((with_reducible refine gate_dst (N := 2) rfl ?_); (try (refine gate_guard (by rfl) ?_; dsimp only)); refine box_event ?hg (N := 2) ?hd (cs := #[.int .i64 a0_0, .slice A0_1 l0_1.length c0_1]) (t := 24) ?hr ?_; (case hd => rfl); (case hg => rfl); (case hr => first | (go_simp; done)|(go_simp; rfl)|(go_simp; rw [show ∀ x : Int, IntKind.u32.wrap (IntKind.u8.wrap x) = x % 256 from fun x => (by show (x % 256) % 4294967296 = x % 256; omega)])); intro gb185 hg w4 hbox hb; have BK185 := zMk (hbox); have GW185 := zMk ((by rw [hg]; exact (zBs (by exact uT HB.out)) : w.heap.size ≤ gb185)); have GE185 := zMk ((by rw [hg]; exact (zBs (by exact uT HB.out)) : w.heap.size ≤ gb185)); have IGE185 := ownGe GE185.out; replace HB := zMk (zBt (by exact uT HB.out) hb); clear hb hbox hg; have hcz5_0 : w4.cell? ⟨gb185, 0, none⟩ = some (.int .i64 a0_0) := (zKc BK185.out 0).trans rfl; have hcz5_1 : w4.cell? ⟨gb185, 1, none⟩ = some (.slice A0_1 l0_1.length c0_1) := (zKc BK185.out 1).trans rfl; have hfz5_0 := zKf BK185.out 0; have hfz5_1 := zKf BK185.out 1))
    go_ret
    exact ⟨by first | rfl | (simp [errW_none, errW_some] <;> rfl) | (simp [*, errW_none, errW_some] <;> rfl), by exact uT HB.out⟩
  · rw [if_neg c3] at H
    have c3b0 : decide (a0_0 ≤ a1) = false := decide_eq_false c3
    clear c3
    obtain rfl := zOi H
    go_enter Try.func10, Try.ntmps10
    go_wp2_with (first | ((with_reducible refine gate_dst (N := 2) rfl ?_); (try (refine gate_guard (by rfl) ?_; dsimp only)); refine box_event ?hg (N := 2) ?hd (cs := #[.int .i64 a0_0, .slice A0_1 l0_1.length c0_1]) (t := 24) ?hr ?_; (case hd => rfl); (case hg => rfl); (case hr => first | (go_simp; done)|(go_simp; rfl)|(go_simp; rw [show ∀ x : Int, IntKind.u32.wrap (IntKind.u8.wrap x) = x % 256 from fun x => (by show (x % 256) % 4294967296 = x % 256; omega)])); intro gb185 hg w6 hbox hb; have BK185 := zMk (hbox); have GW185 := zMk ((by rw [hg]; exact (zBs (by exact uT HB.out)) : w.heap.size ≤ gb185)); have GE185 := zMk ((by rw [hg]; exact (zBs (by exact uT HB.out)) : w.heap.size ≤ gb185)); have IGE185 := ownGe GE185.out; replace HB := zMk (zBt (by exact uT HB.out) hb); clear hb hbox hg; have hcz7_0 : w6.cell? ⟨gb185, 0, none⟩ = some (.int .i64 a0_0) := (zKc BK185.out 0).trans rfl; have hcz7_1 : w6.cell? ⟨gb185, 1, none⟩ = some (.slice A0_1 l0_1.length c0_1) := (zKc BK185.out 1).trans rfl; have hfz7_0 := zKf BK185.out 0; have hfz7_1 := zKf BK185.out 1))
    go_ret
    exact ⟨by first | rfl | (simp [errW_none, errW_some] <;> rfl) | (simp [*, errW_none, errW_some] <;> rfl), by exact uT HB.out⟩


def mEdge (d : List Int) (e : S39) : Bool :=
  decide (0 ≤ e.f0 ∧ e.f0 < (d.length : Int) ∧ 0 ≤ e.f1 ∧ e.f1 < (d.length : Int) ∧ ((rd d e.f0 < 0 ∧ rd d e.f1 < 0) ∨ (0 ≤ rd d e.f0 ∧ 0 ≤ rd d e.f1 ∧ wrap64 (rd d e.f0 - rd d e.f1) ≤ e.f2 ∧ wrap64 (rd d e.f1 - rd d e.f0) ≤ e.f2)))
def sumW (E : List S39) (acc : Int) (l : List Int) : Int := l.foldl (fun a j => wrap64 (a + (rd_T39 E j).f2)) acc
def mMain (k : Nat) (n : Int) (E : List S39) (a b : Int) : Option Bool :=
  (paths_From.f k n E a).bind fun s => (paths_From.f k n E b).bind fun t =>
    if (E.length : Int) ≤ 1000 ∧ s.2.2 = 0 ∧ t.2.2 = 0 ∧ (s.1.length : Int) = n ∧ (t.1.length : Int) = n ∧ rd s.1 b = rd t.1 a ∧ rd s.1 a = 0 ∧ E.all (mEdge s.1) = true then
      (paths_Way.f k n E s.2.1 b).bind fun l => if l.all (fun j => decide (0 ≤ j ∧ j < (E.length : Int))) = true ∧ (rd s.1 b < 0 ∨ sumW E 0 l = rd s.1 b) then filigreelaw12_alive.f k else none
    else none
def filigreelaw12_PathsMutual.f (k : Nat) (a0_0 : Int) (l0_1 : List (S39)) (a1 : Int) (a2 : Int) : Option Bool :=
  (filigreelaw04_Light.f a0_0 l0_1 40).bind fun t => if t = true then (filigreeref12_Right.f k a0_0 l0_1).bind fun q => if q = 0 then (if 0 ≤ a1 ∧ 0 ≤ a2 ∧ a1 < a0_0 ∧ a2 < a0_0 then mMain k a0_0 l0_1 a1 a2 else filigreelaw12_alive.f k) else filigreelaw12_alive.f k else filigreelaw12_alive.f k
theorem sumW_take (E : List S39) (l : List Int) (j : Int) (h0 : 0 ≤ j) (h1 : j < (l.length : Int)) : sumW E 0 (l.take (j + 1).toNat) = wrap64 (sumW E 0 (l.take j.toNat) + (rd_T39 E (rd l j)).f2) := by
  have hi : j.toNat < l.length := by omega
  have e : (j + 1).toNat = j.toNat + 1 := by omega
  unfold sumW rd
  rw [e, List.take_add_one, List.foldl_append, List.getD_eq_getElem?_getD, List.getElem?_eq_getElem hi]
  rfl
theorem R_len {α : Type} {d : Kd α} {e : Nat} {w : World} {base : Nat} {ok : Nat → Prop} {v : Value} {xs : List α} (h : d.R e w base ok v xs) : xs.length ≤ maxLen := by
  obtain ⟨inner, h1, h2⟩ := Kd.R_own h
  rcases h2 with ⟨h0, _⟩ | ⟨g, cap, cur, _, _, _, hnc, hcm, _⟩ <;> omega
structure MS (w W : World) (gm : Nat) (M : Array Value) (v7 v8 v10 : Value) (d p d2 : List Int) : Prop where
  hB : Below w.heap.size w W
  hM : W.heap[gm]? = some (.cells M 24 (0, 0))
  h7 : Kd.R (Kd.int .i64) 2 W w.heap.size (fun _ => True) v7 d
  h8 : Kd.R (Kd.int .i64) 3 W w.heap.size (fun _ => True) v8 p
  h10 : Kd.R (Kd.int .i64) 2 W w.heap.size (fun _ => True) v10 d2
theorem MS.below {w W W' : World} {gm : Nat} {M : Array Value} {v7 v8 v10 : Value} {d p d2 : List Int} (h : MS w W gm M v7 v8 v10 d p d2) (hb : Below W.heap.size W W') : MS w W' gm M v7 v8 v10 d p d2 :=
  ⟨zBt h.hB hb, zKb h.hM hb, zRb h.h7 hb, zRb h.h8 hb, zRb h.h10 hb⟩
theorem filigreelaw12_PathsMutual.calls (k : Nat) (a0_0 : Int) (A0_1 : Option Addr) (c0_1 : Nat) (l0_1 : List (S39)) (a1 : Int) (a2 : Int) (r : Bool) (w : World) (hr0_1 : Kd.C k39 w A0_1 l0_1.length l0_1) (hc0_1 : l0_1.length ≤ c0_1) (h : filigreelaw12_PathsMutual.f k a0_0 l0_1 a1 a2 = some r) (hr_ : r = true) :
    Calls Try.prog 6 #[.agg #[.int .i64 a0_0, .slice A0_1 l0_1.length c0_1], .int .i64 a1, .int .i64 a2] w fun e w' => e = .returned (.bool r) ∧ Below w.heap.size w w' := by
  subst hr_
  have hu24 := Try.underlying24
  have hu39 := Try.underlying39
  have HR := zMk hr0_1
  have HC := zMk hc0_1
  clear hr0_1 hc0_1
  have H : ((filigreelaw04_Light.f a0_0 l0_1 40).bind fun t => if t = true then (filigreeref12_Right.f k a0_0 l0_1).bind fun q => if q = 0 then (if 0 ≤ a1 ∧ 0 ≤ a2 ∧ a1 < a0_0 ∧ a2 < a0_0 then mMain k a0_0 l0_1 a1 a2 else filigreelaw12_alive.f k) else filigreelaw12_alive.f k else filigreelaw12_alive.f k) = some true := h
  clear h
  replace H := bnd H
  obtain ⟨t, hL, H⟩ := H
  have LC := zMk (fun (W : World) (hb : Below w.heap.size w W) => filigreelaw04_Light.calls a0_0 A0_1 c0_1 l0_1 40 t W (Kd.C_below HR.out hb) HC.out hL)
  clear hL
  have HH := zMk H
  clear H
  go_enter Try.func6, Try.ntmps6
  go_upto_region 1 with (first | ((with_reducible refine gate_dst (N := 3) rfl ?_); refine box_event ?hg (N := 3) ?hd (cs := #[.int .i64 a0_0, .slice A0_1 l0_1.length c0_1]) (t := 24) ?hr ?_; (case hd => rfl); (case hg => rfl); (case hr => first | (go_simp; done) | (go_simp; rfl)); intro gm hg w6 hbox hb; have BM := zMk hbox; have HB := zMk hb; clear hg hbox hb))
  have z0 : w6.cell? ⟨gm, 0, none⟩ = some (.int .i64 a0_0) := (zKc BM.out 0).trans rfl
  have z1 : w6.cell? ⟨gm, 1, none⟩ = some (.slice A0_1 l0_1.length c0_1) := (zKc BM.out 1).trans rfl
  have H := HH.out
  clear HH
  by_cases ht : t = true
  rotate_left
  · rw [if_neg ht] at H
    obtain rfl : t = false := Bool.eq_false_iff.mpr ht
    have HA := zMk H
    clear H ht
    go_wp2_with (fail)
    refine (LC.out _ HB.out).mono ?_
    rintro e w7 ⟨rfl, hb7⟩
    have HB7 := zMk (zBt HB.out hb7)
    clear hb7 z0 z1
    go_wp2_with (fail)
    refine (filigreelaw12_alive.calls k true w7 HA.out).mono ?_
    rintro e w9 ⟨rfl, hb9⟩
    have HB9 := zMk (zBt HB7.out hb9)
    clear hb9
    go_wp2
    go_ret
    exact ⟨rfl, HB9.out⟩
  subst ht
  rw [if_pos rfl] at H
  replace H := bnd H
  obtain ⟨q, hQ, H⟩ := H
  have RC := zMk (fun (W : World) (hb : Below w.heap.size w W) => filigreeref12_Right.calls k a0_0 A0_1 c0_1 l0_1 q W (Kd.C_below HR.out hb) HC.out hQ)
  clear hQ
  have HH := zMk H
  clear H
  go_wp2_with (fail)
  refine (LC.out _ HB.out).mono ?_
  rintro e w7 ⟨rfl, hb7⟩
  have HB7 := zMk (zBt HB.out hb7)
  have BM7 := zMk (zKb BM.out hb7)
  clear hb7 z0 z1 HB BM LC
  have z0 : w7.cell? ⟨gm, 0, none⟩ = some (.int .i64 a0_0) := (zKc BM7.out 0).trans rfl
  have z1 : w7.cell? ⟨gm, 1, none⟩ = some (.slice A0_1 l0_1.length c0_1) := (zKc BM7.out 1).trans rfl
  go_wp2_with (fail)
  refine (RC.out _ HB7.out).mono ?_
  rintro e w8 ⟨rfl, hb8⟩
  have HB8 := zMk (zBt HB7.out hb8)
  have BM8 := zMk (zKb BM7.out hb8)
  clear hb8 z0 z1 HB7 BM7 RC
  have z0 : w8.cell? ⟨gm, 0, none⟩ = some (.int .i64 a0_0) := (zKc BM8.out 0).trans rfl
  have z1 : w8.cell? ⟨gm, 1, none⟩ = some (.slice A0_1 l0_1.length c0_1) := (zKc BM8.out 1).trans rfl
  have H := HH.out
  clear HH
  by_cases hall : q = 0 ∧ 0 ≤ a1 ∧ 0 ≤ a2 ∧ a1 < a0_0 ∧ a2 < a0_0
  rotate_left
  · have HA := zMk (show filigreelaw12_alive.f k = some true by
      by_cases hq : q = 0
      · rw [if_pos hq, if_neg (fun hh => hall ⟨hq, hh⟩)] at H; exact H
      · rw [if_neg hq] at H; exact H)
    clear H
    have HN := zMk hall
    clear hall
    by_cases g1 : q = 0
    case' neg => have p1 : (q != 0) = true := by rw [bne_iff_ne]; exact g1
    case' pos =>
      subst g1
      have p1 : ((0 : Int) != 0) = false := rfl
      by_cases g2 : a1 < 0
      case' pos => have p2 : decide (a1 < 0) = true := decide_eq_true g2
      case' neg =>
        have p2 : decide (a1 < 0) = false := decide_eq_false g2
        by_cases g3 : a2 < 0
        case' pos => have p3 : decide (a2 < 0) = true := decide_eq_true g3
        case' neg =>
          have p3 : decide (a2 < 0) = false := decide_eq_false g3
          by_cases g4 : a1 ≥ a0_0
          case' pos => have p4 : decide (a1 ≥ a0_0) = true := decide_eq_true g4
          case' neg =>
            have p4 : decide (a1 ≥ a0_0) = false := decide_eq_false g4
            have p5 : decide (a2 ≥ a0_0) = true := decide_eq_true (by have := HN.out; omega)
    all_goals
      clear HN
      go_wp2_with (fail)
      refine (filigreelaw12_alive.calls k true w8 HA.out).mono ?_
      rintro e w9 ⟨rfl, hb9⟩
      have HB9 := zMk (zBt HB8.out hb9)
      clear hb9
      go_wp2
      go_ret
      exact ⟨rfl, HB9.out⟩
  obtain ⟨rfl, g1, g2, g3, g4⟩ := hall
  rw [if_pos rfl, if_pos ⟨g1, g2, g3, g4⟩] at H
  have p2 : decide (a1 < 0) = false := decide_eq_false (by omega)
  have p3 : decide (a2 < 0) = false := decide_eq_false (by omega)
  have p4 : decide (a1 ≥ a0_0) = false := decide_eq_false (by omega)
  have p5 : decide (a2 ≥ a0_0) = false := decide_eq_false (by omega)
  have HG := zMk (And.intro g1 (And.intro g2 (And.intro g3 g4)))
  clear g1 g2 g3 g4
  unfold mMain at H
  replace H := bnd H
  obtain ⟨⟨d, p, s3⟩, hF1, H⟩ := H
  replace H := bnd H
  obtain ⟨⟨d2, pp2, t3⟩, hF2, H⟩ := H
  dsimp only at H
  by_cases hc : (l0_1.length : Int) ≤ 1000 ∧ s3 = 0 ∧ t3 = 0 ∧ (d.length : Int) = a0_0 ∧ (d2.length : Int) = a0_0 ∧ rd d a2 = rd d2 a1 ∧ rd d a1 = 0 ∧ l0_1.all (mEdge d) = true
  rotate_left
  · rw [if_neg hc] at H; exact absurd H (by simp)
  rw [if_pos hc] at H
  replace H := bnd H
  obtain ⟨l, hW, H⟩ := H
  by_cases hc2 : l.all (fun j => decide (0 ≤ j ∧ j < (l0_1.length : Int))) = true ∧ (rd d a2 < 0 ∨ sumW l0_1 0 l = rd d a2)
  rotate_left
  · rw [if_neg hc2] at H; exact absurd H (by simp)
  rw [if_pos hc2] at H
  obtain ⟨eN, rfl, rfl, e1, e2, e3, e4, e5⟩ := hc
  have HN := zMk eN
  clear eN
  have HA := zMk H
  have HE := zMk (And.intro e1 (And.intro e2 (And.intro e3 (And.intro e4 e5))))
  have HC2 := zMk hc2
  have F1 := zMk (fun (W : World) (hb : Below w.heap.size w W) => paths_From.calls k a0_0 A0_1 c0_1 l0_1 a1 d p 0 W (Kd.C_below HR.out hb) HC.out hF1)
  have F2 := zMk (fun (W : World) (hb : Below w.heap.size w W) => paths_From.calls k a0_0 A0_1 c0_1 l0_1 a2 d2 pp2 0 W (Kd.C_below HR.out hb) HC.out hF2)
  have HW := zMk hW
  clear H hF1 hF2 e1 e2 e3 e4 e5 hc2 hW
  go_wp2_with (fail)
  refine (F1.out _ HB8.out).mono ?_
  rintro e w9 ⟨v7, v8, rfl, h7, h8, hb9⟩
  have HB9 := zMk (zBt HB8.out hb9)
  have BM9 := zMk (zKb BM8.out hb9)
  have R7 := zMk (zRl h7 HB8.out.size)
  have R8 := zMk (zRl h8 HB8.out.size)
  clear hb9 z0 z1 HB8 BM8 F1 h7 h8
  have z0 : w9.cell? ⟨gm, 0, none⟩ = some (.int .i64 a0_0) := (zKc BM9.out 0).trans rfl
  have z1 : w9.cell? ⟨gm, 1, none⟩ = some (.slice A0_1 l0_1.length c0_1) := (zKc BM9.out 1).trans rfl
  go_wp2_with (fail)
  refine (F2.out _ HB9.out).mono ?_
  rintro e w10 ⟨v10, v11, rfl, h10, h11, hb10⟩
  have S1 := zMk (show MS w w10 gm _ v7 v8 v10 d p d2 from ⟨zBt HB9.out hb10, zKb BM9.out hb10, zRb R7.out hb10, zRb R8.out hb10, zRl h10 HB9.out.size⟩)
  clear hb10 z0 z1 HB9 BM9 F2 R7 R8 h10 h11
  go_upto_region 5 with (fail)
  obtain ⟨A7, c7, e7_, hc7, hC7⟩ := Kd.R_reads S1.out.h7
  subst e7_
  obtain ⟨A10, c10, e10_, hc10, hC10⟩ := Kd.R_reads S1.out.h10
  subst e10_
  obtain ⟨ad7, e7_, kb⟩ := zAi hC7 a2 HG.out.2.1 (by have := HG.out; have := HE.out.1; omega)
  subst e7_
  obtain ⟨ad7', e7_, ka⟩ := zAi hC7 a1 HG.out.1 (by have := HG.out; have := HE.out.1; omega)
  obtain rfl : ad7 = ad7' := by injection e7_
  obtain ⟨ad10, e10_, kc⟩ := zAi hC10 a1 HG.out.1 (by have := HG.out; have := HE.out.2.1; omega)
  subst e10_
  rw [← HE.out.2.2.1] at kc
  rw [HE.out.2.2.2.1] at ka
  have X7 := zMk hc7
  clear hC7 hC10 hc7 hc10 e7_
  have z0 : w10.cell? ⟨gm, 0, none⟩ = some (.int .i64 a0_0) := (zKc S1.out.hM 0).trans rfl
  have q1 : ((d.length : Int) != a0_0) = false := by rw [bne_eq_false_iff_eq]; exact HE.out.1
  have q2 : ((d2.length : Int) != a0_0) = false := by rw [bne_eq_false_iff_eq]; exact HE.out.2.1
  have q3 := eq_true HG.out.1
  have q4 := eq_true HG.out.2.1
  have q5 : (a1 < (d.length : Int)) = True := eq_true (by have := HG.out; have := HE.out.1; omega)
  have q6 : (a2 < (d.length : Int)) = True := eq_true (by have := HG.out; have := HE.out.1; omega)
  have q7 : (a1 < (d2.length : Int)) = True := eq_true (by have := HG.out; have := HE.out.2.1; omega)
  go_quiet (fail)
  try go_upto_region 8 with (fail)
  have S2 := zMk (S1.out.below (zBn (Below.refl _ _) nq))
  clear S1 z0 q1 q2 q3 q4 q5 q6 q7 ka kb kc p2 p3 p4 p5
  generalize w10.drewN nq = w11 at S2 ⊢
  go_loopg [13] l0_1.length (fun kq v13 w' => ∃ (i : Int), v13 = .int .i64 i ∧ Aside0 (0 ≤ i ∧ i ≤ (l0_1.length : Int) ∧ (l0_1.length : Int) ≤ i + kq) ∧ Aside0 (MS w w' gm #[.int .i64 a0_0, .slice A0_1 l0_1.length c0_1] (.slice (some ad7) d.length c7) v8 (.slice (some ad10) d2.length c10) d p d2))
  case atStart => exact ⟨0, rfl, ⟨by omega⟩, S2⟩
  clear S2
  obtain ⟨i, rfl, HK, S2⟩ := hrel
  have z0 : World.cell? wr ⟨gm, 0, none⟩ = some (.int .i64 a0_0) := (zKc S2.out.hM 0).trans rfl
  have z1 : World.cell? wr ⟨gm, 1, none⟩ = some (.slice A0_1 l0_1.length c0_1) := (zKc S2.out.hM 1).trans rfl
  by_cases c1 : i < (l0_1.length : Int)
  · have p1 : decide (i < (l0_1.length : Int)) = true := decide_eq_true c1
    obtain ⟨ad39, e39, y0, y1, y2⟩ := at_T39 (Kd.C_below HR.out S2.out.hB) i HK.out.1 c1
    subst e39
    have hall := List.all_eq_true.mp HE.out.2.2.2.2 (rd_T39 l0_1 i) (by
      have hi : i.toNat < l0_1.length := by have := HK.out; omega
      unfold rd_T39; rw [List.getD_eq_getElem?_getD, List.getElem?_eq_getElem hi]; exact List.getElem_mem hi)
    obtain ⟨⟨E0, E1, E2⟩, hE⟩ : ∃ e : S39, rd_T39 l0_1 i = e := ⟨_, rfl⟩
    rw [hE] at hall y0 y1 y2
    unfold mEdge at hall
    dsimp only at hall y0 y1 y2
    clear hE
    obtain ⟨f0, f1, f2, f3, hab⟩ := of_decide_eq_true hall
    obtain ⟨_, c7', e7_, hc7', hC7⟩ := Kd.R_reads S2.out.h7
    cases e7_
    obtain ⟨ad7', e7_, kx⟩ := zAi hC7 E0 f0 f1
    obtain rfl : ad7 = ad7' := by injection e7_
    obtain ⟨ad7', e7_, ky⟩ := zAi hC7 E1 f2 f3
    obtain rfl : ad7 = ad7' := by injection e7_
    generalize rd d E0 = x at kx hab
    generalize rd d E1 = y at ky hab
    have P0 := eq_true f0
    have P1 := eq_true f1
    have P2 := eq_true f2
    have P3 := eq_true f3
    have P4 := eq_true HK.out.1
    have P5 := eq_true c1
    have HAB := zMk hab
    clear hall f0 f1 f2 f3 hab hC7 hc7' e7_
    have c1' := c1
    clear c1
    go_upto_region 10 with (fail)
    go_quiet (fail)
    have S3 := zMk (S2.out.below (zBn (Below.refl _ _) nq))
    have y2' : World.cell? (wr.drewN nq) ⟨(ad39.add (i.toNat * 3)).block, (ad39.add (i.toNat * 3)).off + 2, none⟩ = some (.int .i64 E2) := y2
    clear S2 z0 z1 y0 y1 y2 kx ky P0 P1 P2 P3
    generalize wr.drewN nq = w12 at S3 y2' ⊢
    have z1 : World.cell? w12 ⟨gm, 1, none⟩ = some (.slice (some ad39) l0_1.length c0_1) := (zKc S3.out.hM 1).trans rfl
    have hw : wrap64 (i + 1) = i + 1 := by have := HK.out; have := HN.out; unfold wrap64; omega
    have h := HAB.out
    clear HAB
    rcases h with ⟨h1, h2⟩ | ⟨h1, h2, h3, h4⟩
    case' inl =>
      have r1 : decide (x < 0) = true := decide_eq_true h1
      have r2 : decide (y < 0) = true := decide_eq_true h2
      have r3 : decide (x ≥ 0) = false := decide_eq_false (by omega)
      clear h1 h2
    case' inr =>
      have r1 : decide (x < 0) = false := decide_eq_false (by omega)
      have r2 : decide (y < 0) = false := decide_eq_false (by omega)
      have r3 : decide (x ≥ 0) = true := decide_eq_true h1
      have r4 : decide (wrap64 (x - y) > E2) = false := decide_eq_false (by omega)
      have r5 : decide (wrap64 (y - x) > E2) = false := decide_eq_false (by omega)
      clear h1 h2 h3 h4
    all_goals
      go_wp2
      rcases gk with _ | k1
      · exact absurd c1' (by have := HK.out; omega)
      go_roundg k1
      case measure => omega
      case rel => exact ⟨i + 1, rfl, ⟨by have := HK.out; omega⟩, S3⟩
  · have p1 : decide (i < (l0_1.length : Int)) = false := decide_eq_false c1
    clear c1 HK
    obtain ⟨A8, c8, e8_, hc8, hC8⟩ := Kd.R_reads S2.out.h8
    subst e8_
    have HWC := zMk (paths_Way.calls k a0_0 A0_1 c0_1 l0_1 A8 c8 p a2 l wr (Kd.C_below HR.out S2.out.hB) HC.out hC8 hc8 HW.out)
    clear hC8 hc8 HW
    go_wp2_with (fail)
    refine HWC.out.mono ?_
    rintro e w12 ⟨v17, rfl, h17, hb12⟩
    have S3 := zMk (S2.out.below hb12)
    have R17 := zMk (zRl h17 S2.out.hB.size)
    clear hb12 h17 HWC S2 z0 z1 p1
    go_upto_region 16 with (fail)
    go_loopg [16, 18] l.length (fun kq v16 v18 w' => ∃ (j : Int), v16 = .int .i64 (sumW l0_1 0 (l.take j.toNat)) ∧ v18 = .int .i64 j ∧ Aside0 (0 ≤ j ∧ j ≤ (l.length : Int) ∧ (l.length : Int) ≤ j + kq) ∧ Aside0 (MS w w' gm #[.int .i64 a0_0, .slice A0_1 l0_1.length c0_1] (.slice (some ad7) d.length c7) (.slice A8 p.length c8) (.slice (some ad10) d2.length c10) d p d2) ∧ Aside0 (Kd.R (Kd.int .i64) 3 w' w.heap.size (fun _ => True) v17 l))
    case atStart => exact ⟨0, rfl, rfl, ⟨by omega⟩, S3, R17⟩
    clear S3 R17
    obtain ⟨j, rfl, rfl, HK, S3, R17⟩ := hrel
    obtain ⟨A17, c17, e17_, hc17, hC17⟩ := Kd.R_reads R17.out
    subst e17_
    have z1 : World.cell? wr ⟨gm, 1, none⟩ = some (.slice A0_1 l0_1.length c0_1) := (zKc S3.out.hM 1).trans rfl
    by_cases c1 : j < (l.length : Int)
    · have p1 : decide (j < (l.length : Int)) = true := decide_eq_true c1
      obtain ⟨ad17, e17_, kl⟩ := zAi hC17 j HK.out.1 c1
      subst e17_
      have hall := of_decide_eq_true (List.all_eq_true.mp HC2.out.1 (rd l j) (by
        have hi : j.toNat < l.length := by have := HK.out; omega
        unfold rd; rw [List.getD_eq_getElem?_getD, List.getElem?_eq_getElem hi]; exact List.getElem_mem hi))
      have hs := sumW_take l0_1 l j HK.out.1 c1
      generalize rd l j = b at kl hall hs
      obtain ⟨f0, f1⟩ := hall
      obtain ⟨ad39, e39, y0, y1, y2⟩ := at_T39 (Kd.C_below HR.out S3.out.hB) b f0 f1
      subst e39
      generalize (rd_T39 l0_1 b).f2 = E2 at y2 hs
      have hlen := R_len R17.out
      have hw : wrap64 (j + 1) = j + 1 := by have := HK.out; unfold maxLen at hlen; unfold wrap64; omega
      have p2 : decide (b < 0) = false := decide_eq_false (by omega)
      have p3 : decide (b ≥ (l0_1.length : Int)) = false := decide_eq_false (by omega)
      have P1 := eq_true HK.out.1
      have P2 := eq_true c1
      have P3 := eq_true f0
      have P4 := eq_true f1
      have HKK := zMk (show (l.length : Int) ≤ (j + 1) + (gk - 1 : Nat) ∧ j + 1 ≤ (l.length : Int) ∧ 0 < gk by have := HK.out; omega)
      have HS := zMk hs
      clear c1 f0 f1 hlen hC17 hc17 y0 y1 hs
      go_upto_region 18 with (fail)
      go_quiet (fail)
      try go_upto_region 20 with (fail)
      go_quiet (fail)
      clear y2 kl z1 p1 p2 p3 P1 P2 P3 P4
      go_wp2
      rcases gk with _ | k1
      · exact absurd HKK.out.2.2 (by omega)
      go_roundg k1
      case measure => omega
      case rel => exact ⟨j + 1, by rw [HS.out], by rw [hw], ⟨by have := HKK.out; have := HK.out; omega⟩, ⟨S3.out.below (zBn (Below.refl _ _) _)⟩, ⟨zRb R17.out (zBn (Below.refl _ _) _)⟩⟩
    · have p1 : decide (j < (l.length : Int)) = false := decide_eq_false c1
      obtain rfl : j = (l.length : Int) := by have := HK.out; omega
      rw [zTn, List.take_length]
      have h2 := HC2.out.2
      obtain ⟨_, c7', e7_, hc7', hC7⟩ := Kd.R_reads S3.out.h7
      cases e7_
      obtain ⟨ad7', e7_, kb⟩ := zAi hC7 a2 HG.out.2.1 (by have := HG.out; have := HE.out.1; omega)
      obtain rfl : ad7 = ad7' := by injection e7_
      generalize sumW l0_1 0 l = W at h2 ⊢
      generalize rd d a2 = D at kb h2
      have q4 := eq_true HG.out.2.1
      have q6 : (a2 < (d.length : Int)) = True := eq_true (by have := HG.out; have := HE.out.1; omega)
      have HA3 := zMk (fun (W : World) => filigreelaw12_alive.calls k true W HA.out)
      clear hC7 hc7' e7_ hC17 hc17 c1
      by_cases h3 : D < 0
      case' pos =>
        have p2 : decide (D < 0) = true := decide_eq_true h3
        clear h2 h3
      case' neg =>
        have p2 : decide (D < 0) = false := decide_eq_false h3
        obtain rfl : W = D := by rcases h2 with h | h; exact absurd h h3; exact h
        have p3 : (W == W) = true := by simp
        clear h2 h3
      all_goals
        go_wp2_with (fail)
        refine (HA3.out wr).mono ?_
        rintro e w14 ⟨rfl, hb14⟩
        have HB14 := zMk (zBt S3.out.hB hb14)
        clear hb14 S3 R17 HA3
        go_wp2
        go_ret
        exact ⟨rfl, HB14.out⟩

theorem rdI_nat (l : List Int) (n : Nat) : rd l (n : Int) = l.getD n 0 := by simp [rd]
theorem rev_l0 (l : List Int) (hl : l.length < 4611686018427387904) : ∀ (d i k : Nat) (x : List Int), l.length - 2 * i ≤ d → 2 * i ≤ l.length → x.length = l.length →
    (∀ j, j < l.length → x.getD j 0 = if j < i ∨ l.length - 1 - i < j then l.getD (l.length - 1 - j) 0 else l.getD j 0) → d < k →
    slices_Reverse_int_int.l0 k x (i : Int) ((l.length : Int) - 1 - i) = some l.reverse
  | d, i, 0, x, hd, hi, hx, hj, hk => by omega
  | d, i, k + 1, x, hd, hi, hx, hj, hk => by
    simp only [slices_Reverse_int_int.l0]
    by_cases hlt : (i : Int) < (l.length : Int) - 1 - i
    · obtain ⟨j, hjj⟩ : ∃ j : Nat, (l.length : Int) - 1 - i = (j : Int) := ⟨l.length - 1 - i, by omega⟩
      rw [hjj]
      rw [hjj] at hlt
      rw [if_pos hlt, if_pos (by omega), if_pos (by rw [hx]; omega), if_pos (by omega), if_pos (by rw [hx]; omega), w64 (by omega) (by omega), w64 (by omega) (by omega)]
      rw [rdI_nat, rdI_nat, show ((i : Nat) : Int).toNat = i by omega, show ((j : Nat) : Int).toNat = j by omega]
      have e1 : (i : Int) + 1 = ((i + 1 : Nat) : Int) := by omega
      have e2 : (j : Int) - 1 = (l.length : Int) - 1 - ((i + 1 : Nat) : Int) := by omega
      rw [e1, e2]
      rcases Nat.eq_zero_or_pos d with h0 | h0
      · omega
      refine rev_l0 l hl (d - 1) (i + 1) k _ (by omega) (by omega) (by simp [hx]) (fun m hm => ?_) (by omega)
      have hxi : i < x.length := by omega
      have hxj : j < x.length := by omega
      have hm2 : m < x.length := by omega
      have hmi := hj m hm
      have hii := hj i (by omega)
      have hij := hj j (by omega)
      rw [if_neg (by omega)] at hii hij
      rw [List.getD_eq_getElem?_getD, List.getElem?_set]
      by_cases c1 : j = m
      · subst c1
        rw [if_pos rfl, if_pos (by simpa using hxj), if_pos (by omega), Option.getD_some, hii, show l.length - 1 - j = i by omega]
      · rw [if_neg c1, List.getElem?_set]
        by_cases c2 : i = m
        · subst c2
          rw [if_pos rfl, if_pos hxi, if_pos (by omega), Option.getD_some, hij, show l.length - 1 - i = j by omega]
        · rw [if_neg c2, ← List.getD_eq_getElem?_getD, hmi]
          by_cases c3 : m < i ∨ l.length - 1 - i < m
          · rw [if_pos c3, if_pos (by omega)]
          · rw [if_neg c3, if_neg (by omega)]
    · rw [if_neg hlt]
      congr 1
      refine List.ext_getElem (by simp [hx]) fun m h1 h2 => ?_
      have hm : m < l.length := by omega
      have h3 := hj m hm
      rw [List.getD_eq_getElem?_getD, List.getElem?_eq_getElem h1, Option.getD_some] at h3
      rw [List.getElem_reverse, h3]
      split
      · rw [List.getD_eq_getElem?_getD, List.getElem?_eq_getElem (by omega), Option.getD_some]
      · rename_i hc
        have : l.length - 1 - m = m := by omega
        rw [List.getD_eq_getElem?_getD, List.getElem?_eq_getElem hm, Option.getD_some]
        congr 1
        exact this.symm
  termination_by _ _ k => k
theorem rev_f (l : List Int) (hl : l.length < 4611686018427387904) (k : Nat) (hk : l.length < k) : slices_Reverse_int_int.f k l = some l.reverse := by
  unfold slices_Reverse_int_int.f
  rw [w64 (by omega) (by omega)]
  have h := rev_l0 l hl l.length 0 k l (by omega) (by omega) rfl (fun j hj => by rw [if_neg (by omega)]) hk
  simpa using h
section
variable {v n : Int} {E : List S39} {d p : List Int} {rk : Int → Nat}
theorem oth_oth (e : S39) (x : Int) : oth e (oth e x) = x := by unfold oth; omega
theorem Walk.pre {e : S39} {u : Int} (he : e ∈ E) (hi : inc e u) : ∀ {x L : Int}, Walk E u x L → Walk E (oth e u) x (e.f2 + L) := by
  intro x L h
  induction h with
  | nil =>
    have h1 : inc e (oth e u) := by unfold inc at *; unfold oth; omega
    have h2 := Walk.step e (Walk.nil (E := E) (v := oth e u)) he h1
    rw [oth_oth] at h2
    rw [Int.add_zero]; rw [Int.zero_add] at h2; exact h2
  | step e' hw he' hi' ih =>
    have := Walk.step e' ih he' hi'
    rw [Int.add_assoc] at this; exact this
theorem Walk.rev {x L : Int} (h : Walk E v x L) : Walk E x v L := by
  induction h with
  | nil => exact Walk.nil
  | step e hw he hi ih => rw [Int.add_comm]; exact Walk.pre he hi ih
def wsum (E : List S39) : List Int → Int
  | [] => 0
  | j :: l => (rd_T39 E j).f2 + wsum E l
theorem wsum_append (l m : List Int) : wsum E (l ++ m) = wsum E l + wsum E m := by
  induction l with
  | nil => simp [wsum]
  | cons a l ih => simp only [List.cons_append, wsum, ih]; omega
theorem wsum_reverse (l : List Int) : wsum E l.reverse = wsum E l := by
  induction l with
  | nil => rfl
  | cons a l ih => rw [List.reverse_cons, wsum_append, ih]; simp only [wsum]; omega
def inE (E : List S39) (l : List Int) : Prop := ∀ j ∈ l, 0 ≤ j ∧ j < (E.length : Int)
theorem edge_mem (j : Int) (h0 : 0 ≤ j) (h1 : j < (E.length : Int)) : rd_T39 E j ∈ E := by
  have := rdE_get E j.toNat (by omega)
  rw [Int.toNat_of_nonneg h0] at this
  rw [this]; exact List.getElem_mem _
theorem sumW_eq (hE : okE n E) : ∀ (l : List Int) (acc : Int), inE E l → 0 ≤ acc → acc + l.length * 2147483648 ≤ 1000000000000000000 → sumW E acc l = acc + wsum E l
  | [], acc, _, _, _ => by simp [sumW, wsum]
  | j :: l, acc, hl, h0, h1 => by
    have hj := hl j List.mem_cons_self
    have he := hE _ (edge_mem j hj.1 hj.2)
    simp only [zLc] at h1
    have e : sumW E acc (j :: l) = sumW E (wrap64 (acc + (rd_T39 E j).f2)) l := rfl
    rw [e, w64 (by omega) (by omega), sumW_eq hE l _ (fun x hx => hl x (List.mem_cons_of_mem _ hx)) (by omega) (by omega)]
    simp only [wsum]; omega
theorem Way_stop (k : Nat) (b : Int) (x6 : List Int) (i : Nat) (hn : 0 ≤ n ∧ n ≤ 40) (hpl : p.length = n.toNat) (hb : 0 ≤ b ∧ b < n) (hp : rd p b = -1) (hi : (i : Int) < n) (hx : x6.length ≤ 1000) (hk : 2000 ≤ k) :
    paths_Way.l0 k p b x6 n (i : Int) n E = some x6.reverse := by
  obtain ⟨k, rfl⟩ : ∃ m, k = m + 2 := ⟨k - 2, by omega⟩
  have hm : mn (p.length : Int) n = n := by unfold mn; split <;> omega
  simp only [paths_Way.l0]
  rw [if_pos hi, if_neg (by omega), hm, decide_eq_false (by omega)]
  simp only [paths_Way.j1]
  rw [if_neg (by decide), if_pos hb.1, if_pos (by omega), if_pos hp, rev_f x6 (by omega) k (by omega)]
  rfl
theorem Way_eq (hE : okE n E) (hn : 0 ≤ n ∧ n ≤ 40) (I : Inv v n E d p [] rk (fun _ _ => True)) (D : Int) (r : Nat) :
    ∀ (k : Nat) (x : Int) (x6 : List Int) (i : Nat), rk x = r → Std n d x → wsum E x6 + rd d x = D → inE E x6 → x6.length = i → (i : Int) + rk x < n → 2 * r + 2002 ≤ k →
    ∃ l, paths_Way.l0 k p x x6 n (i : Int) n E = some l ∧ wsum E l = D ∧ inE E l ∧ l.length ≤ 1000 := by
  induction r using Nat.strongRecOn with
  | _ r ih =>
    intro k x x6 i hr hx hs hin hl hlt hk
    rcases (I.st x hx).2.2.2 with ⟨h1, h2, h3⟩ | ⟨hxv, j, e1, hj, u, hu, hi, e2, e3, e4⟩
    · refine ⟨_, Way_stop k x x6 i hn I.pl ⟨hx.1, hx.2.1⟩ h3 (by omega) (by omega) (by omega), ?_, ?_, ?_⟩
      · rw [wsum_reverse]; omega
      · intro j hj; exact hin j (List.mem_reverse.1 hj)
      · rw [List.length_reverse]; omega
    · have hpl := I.pl
      have hme : E[j] ∈ E := List.getElem_mem hj
      have e0 : rd_T39 E (rd p x) = E[j] := by rw [e1, rdE_get E j hj]
      have hix : inc (rd_T39 E (rd p x)) x := by rw [e0, e2]; exact (oth_range (hE _ hme) hi).2.2
      have ho : oth (rd_T39 E (rd p x)) x = u := by rw [e0, e2, oth_oth]
      obtain ⟨k, rfl⟩ : ∃ m, k = m + 2 := ⟨k - 2, by omega⟩
      obtain ⟨k', hk'⟩ : ∃ k', k = k' + 1 := ⟨k - 1, by omega⟩
      have hm : mn (p.length : Int) n = n := by unfold mn; split <;> omega
      have hog := other_good (k := k') (n := n) (E := E) (i := rd p x) (x := x) (by omega) (by omega) hix
      rw [← hk', ho] at hog
      have h1 := hx.1
      have h2 := hx.2.1
      simp only [paths_Way.l0]
      rw [if_pos (by omega), if_neg (by omega), hm, decide_eq_false (by omega)]
      simp only [paths_Way.j1]
      rw [if_neg (by decide), if_pos h1, if_pos (by omega), if_neg (by omega), hog, zOb, if_pos rfl, if_pos (by omega), w64 (by omega) (by omega)]
      exact ih (rk u) (by omega) k u (x6 ++ [rd p x]) (i + 1) rfl hu (by rw [wsum_append]; simp only [wsum, e0]; omega) (by
        intro q hq
        rcases List.mem_append.1 hq with h | h
        · exact hin q h
        · rw [List.mem_singleton] at h; omega) (by simp [hl]) (by omega) (by omega)
end
def filigreelaw12_PathsMutual.Pure : Prop := ∀ (a0_0 : Int) (l0_1 : List A.S39) (a1 : Int) (a2 : Int), (Lit.int .i64 a0_0).wf = true → l0_1.length ≤ maxLen → (∀ x ∈ l0_1, (Lit.int .i64 x.f0).wf = true ∧ (Lit.int .i64 x.f1).wf = true ∧ (Lit.int .i64 x.f2).wf = true) → (Lit.int .i64 a1).wf = true → (Lit.int .i64 a2).wf = true → ∃ k, filigreelaw12_PathsMutual.f k a0_0 l0_1 a1 a2 = some true
theorem alive_at3 : filigreelaw12_alive.f 1000002 = some true := by decide +kernel
theorem far_sym {a b n : Int} {E : List S39} {d p d2 p2 : List Int} {rk rk2 : Int → Nat} (hb : 0 ≤ b ∧ b < n) (I : Inv a n E d p [] rk (fun _ _ => True)) (I2 : Inv b n E d2 p2 [] rk2 (fun _ _ => True)) (h : 0 ≤ rd d b) : 0 ≤ rd d2 a ∧ rd d2 a ≤ rd d b := by
  have h1 := I2.least a (rd d b) (Walk.rev (I.st b ⟨hb.1, hb.2, h⟩).1)
  exact ⟨h1.1.2.2, h1.2⟩
theorem edge_ok {a n : Int} {E : List S39} {d p : List Int} {rk : Int → Nat} (hn : 0 ≤ n ∧ n ≤ 40) (hE : okE n E) (I : Inv a n E d p [] rk (fun _ _ => True)) : E.all (mEdge d) = true := by
  rw [List.all_eq_true]
  intro e he
  have ho := hE e he
  have hdl := I.dl
  have b0 := I.big hn e.f0 ho.1 ho.2.1
  have b1 := I.big hn e.f1 ho.2.2.1 ho.2.2.2.1
  have s : ∀ x, inc e x → 0 ≤ x → x < n → 0 ≤ rd d x → 0 ≤ rd d (oth e x) ∧ rd d (oth e x) ≤ rd d x + e.f2 := by
    intro x hi h0 h1 h2
    have h := I.least _ _ (Walk.step e (I.st x ⟨h0, h1, h2⟩).1 he hi)
    exact ⟨h.1.2.2, h.2⟩
  have s0 := s e.f0 (.inl rfl) ho.1 ho.2.1
  have s1 := s e.f1 (.inr rfl) ho.2.2.1 ho.2.2.2.1
  rw [oth_f0] at s0
  rw [oth_f1] at s1
  unfold mEdge
  rw [decide_eq_true_eq, w64 (by omega) (by omega), w64 (by omega) (by omega)]
  refine ⟨ho.1, by omega, ho.2.2.1, by omega, ?_⟩
  by_cases h : 0 ≤ rd d e.f0
  · have := s0 h
    have := s1 (by omega)
    right; omega
  · left
    refine ⟨by omega, ?_⟩
    by_cases h' : 0 ≤ rd d e.f1
    · have := s1 h'; omega
    · omega
theorem pure_PathsMutual : filigreelaw12_PathsMutual.Pure := by
  intro n E a b _ _ _ _ _
  obtain ⟨k, hk⟩ : ∃ k : Nat, k = 1000002 := ⟨_, rfl⟩
  refine ⟨k, ?_⟩
  unfold filigreelaw12_PathsMutual.f filigreelaw04_Light.f
  have a2 : filigreelaw12_alive.f k = some true := by rw [hk]; exact alive_at3
  have w160 : wrap64 (4 * 40) = 160 := by decide +kernel
  rw [w160]
  by_cases h1 : n ≤ 40
  rotate_left
  · rw [if_neg h1, zOb, if_neg (by decide), a2]
  rw [if_pos h1, zOb]
  by_cases h2 : (E.length : Int) ≤ 160
  rotate_left
  · rw [decide_eq_false h2, if_neg (by decide), a2]
  rw [decide_eq_true h2, if_pos rfl, refRight_eq k n E (by omega), zOb]
  by_cases h3 : rightP n E = 0
  rotate_left
  · rw [if_neg h3, a2]
  rw [if_pos h3]
  by_cases h4 : 0 ≤ a ∧ 0 ≤ b ∧ a < n ∧ b < n
  rotate_left
  · rw [if_neg h4, a2]
  rw [if_pos h4]
  obtain ⟨q0, q1, hE⟩ := right_ok n E h3
  obtain ⟨g1, g2, g3, g4⟩ := h4
  obtain ⟨d, p, rk, I, e⟩ := From_eq k h3 ⟨g1, g3⟩ (by omega) h1 (by omega)
  obtain ⟨d2, p2, rk2, I2, e2⟩ := From_eq k h3 ⟨g2, g4⟩ (by omega) h1 (by omega)
  have hdl := I.dl
  have hdl2 := I2.dl
  have hs : rd d b = rd d2 a := by
    have l1 := I.dlo b g2 g4
    have l2 := I2.dlo a g1 g3
    have s1 : 0 ≤ rd d b → 0 ≤ rd d2 a ∧ rd d2 a ≤ rd d b := far_sym ⟨g2, g4⟩ I I2
    have s2 : 0 ≤ rd d2 a → 0 ≤ rd d b ∧ rd d b ≤ rd d2 a := far_sym ⟨g1, g3⟩ I2 I
    omega
  have hz : rd d a = 0 := by
    have hl := I.least a 0 Walk.nil
    have := hl.1.2.2
    omega
  have hw : ∃ l, paths_Way.f k n E p b = some l ∧ inE E l ∧ (rd d b < 0 ∨ sumW E 0 l = rd d b) := by
    unfold paths_Way.f
    rw [Right_eq k n E (by omega), zOb, if_pos h3]
    by_cases hb : 0 ≤ rd d b
    · have hr := (I.st b ⟨g2, g4, hb⟩).2.1
      have hns := nset_le d
      obtain ⟨l, w1, w2, w3, w4⟩ := Way_eq hE ⟨q0, h1⟩ I (rd d b) (rk b) k b [] 0 rfl ⟨g2, g4, hb⟩ (by simp [wsum]) (by intro j hj; simp at hj) rfl (by omega) (by omega)
      exact ⟨l, w1, w3, .inr (by rw [sumW_eq hE l 0 w3 (by omega) (by omega), w2]; omega)⟩
    · have w := Way_stop (n := n) (E := E) (p := p) k b [] 0 ⟨q0, h1⟩ I.pl ⟨g2, g4⟩ (I.un b g2 g4 (by omega)) (by omega) (by simp) (by omega)
      exact ⟨_, w, by intro j hj; simp at hj, .inl (by omega)⟩
  obtain ⟨l, w1, w2, w3⟩ := hw
  unfold mMain
  rw [e, zOb, e2, zOb]
  dsimp only
  rw [if_pos ⟨by omega, rfl, rfl, by omega, by omega, hs, hz, edge_ok ⟨q0, h1⟩ hE I⟩, w1, zOb, if_pos ⟨by
    rw [List.all_eq_true]; intro j hj; exact decide_eq_true (w2 j hj), w3⟩, a2]
end Go.Proofs.Ytnigaojboililaa.A
